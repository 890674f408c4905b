/- Layer 36 (frame): what Put and Get answer, whichever report and bytes; operations on reports' boxes. -/
import Derived.Test.YtecbfegohdllbaaDoorFrameRGet
namespace Go.Proofs.YtecbfegohdllbaaDoor
open Go.RowKit
set_option linter.unusedVariables false
set_option linter.unusedSimpArgs false
section
variable {Q : Exit → Act → World → Prop}
theorem wpR_alloc {ops : Array Oper} {rest : List Oper} {o : Oper} {a : Act} {w : World} (hg : Region.wanted o (yielded ops a.tmps) = true) (ho : o.op = .alloc 50)
    (h : ∀ g w', g = w.heap.size → RB g zeroR w' → Below w.heap.size w w' → wpList Tryd.prog ops Q rest (a.put o.dst (.pointer (some ⟨g, 0, none⟩))) w') : wpList Tryd.prog ops Q (o :: rest) a w :=
  wpList_unguard hg (wpList_plain rfl fun _ hK => wp_alloc_rep (o := { o with guard := none }) ho (fun g w' e r b => hK _ _ (h g w' e r b)))
theorem wp_box_rep {o : Oper} {a : Act} {w : World} {K : Act → World → Prop} (x : Operand) (ho : o.op = .box 50 x) (Z : List Int) (hx : a.eval x = .agg (rcells Z)) 
    (h : ∀ g w', g = w.heap.size → RB g Z w' → Below w.heap.size w w' → K (a.put o.dst (.pointer (some ⟨g, 0, none⟩))) w') : o.wp Tryd.prog a w K Q := by
  have h' := h _ _ rfl (heap_alloc_new w _) ((Below.refl _ w).alloc (Nat.le_refl _) _)
  unfold Oper.wp execOp
  simp only [ho, hx]
  go_simp
  exact h'
theorem wpR_box {ops : Array Oper} {rest : List Oper} {o : Oper} {a : Act} {w : World} (hg : Region.wanted o (yielded ops a.tmps) = true) (x : Operand) (ho : o.op = .box 50 x) (Z : List Int) (hx : a.eval x = .agg (rcells Z))
    (h : ∀ g w', g = w.heap.size → RB g Z w' → Below w.heap.size w w' → wpList Tryd.prog ops Q rest (a.put o.dst (.pointer (some ⟨g, 0, none⟩))) w') : wpList Tryd.prog ops Q (o :: rest) a w :=
  wpList_unguard hg (wpList_plain rfl fun _ hK => wp_box_rep (o := { o with guard := none }) x ho Z hx (fun g w' e r b => hK _ _ (h g w' e r b)))
theorem wpR_put {ops : Array Oper} {rest : List Oper} {o : Oper} {a : Act} {w : World} (hg : Region.wanted o (yielded ops a.tmps) = true) (x y : Operand) (ho : o.op = .store 50 x y)
    (g B : Nat) (Z Y : List Int) (hZ : Z.length = 11) (hY : Y.length = 11) (hx : a.eval x = .pointer (some ⟨g, 0, none⟩)) (hy : a.eval y = .agg (rcells Z)) (hc : RB g Y w) (hB : B ≤ g)
    (h : ∀ w', RB g Z w' → Below B w w' → wpList Tryd.prog ops Q rest (a.put o.dst undef) w') : wpList Tryd.prog ops Q (o :: rest) a w :=
  wpList_unguard hg (wpList_plain rfl fun _ hK => wp_store_rep (o := { o with guard := none }) x y ho g B Z Y hZ hY hx hy hc hB (fun w' r b => hK _ _ (h w' r b)))
theorem wpR_get {ops : Array Oper} {rest : List Oper} {o : Oper} {a : Act} {w : World} (hg : Region.wanted o (yielded ops a.tmps) = true) (x : Operand) (ho : o.op = .load 50 x)
    (g : Nat) (hx : a.eval x = .pointer (some ⟨g, 0, none⟩)) (Z : List Int) (hZ : Z.length = 11) (hc : RB g Z w)
    (h : wpList Tryd.prog ops Q rest (a.put o.dst (.agg (rcells Z))) w) : wpList Tryd.prog ops Q (o :: rest) a w := wpR_load hg x ho g hx Z hZ _ _ hc h
end
theorem andThen_bool {P : Program} {m : Sem Bool} {w : World} {d : Bool} (h : ((m.run P w).andThen fun b w' => .ok (Value.bool b) w') = .ok (Value.bool d) w) : m.run P w = .ok d w := by
  cases hm : m.run P w with
  | ok b w' =>
    rw [hm, Result.andThen_ok] at h
    injection h with h1 h2
    injection h1 with h1
    rw [h1, h2]
  | halt x w' => rw [hm] at h; cases h
theorem neq_report (X Y : List Int) (hX : X.length = 11) (hY : Y.length = 11) (w : World) :
    (binOp .neq 50 (.agg (rcells X)) (.agg (rcells Y))).run Tryd.prog w = .ok (.bool (!decide (X = Y))) w := by
  have h := eql_report X Y hX hY w
  rw [run_eql_struct] at h
  rw [run_neq_struct, andThen_bool h, Result.andThen_ok]
section
variable {Q : Exit → Act → World → Prop}
theorem wp_neq_report {o : Oper} {a : Act} {w : World} {K : Act → World → Prop} (x y : Operand) (t : TypeId) (ho : o.op = .binOp .neq 50 x y t)
    (X Y : List Int) (hX : X.length = 11) (hY : Y.length = 11) (hx : a.eval x = .agg (rcells X)) (hy : a.eval y = .agg (rcells Y)) (h : K (a.put o.dst (.bool (!decide (X = Y)))) w) : o.wp Tryd.prog a w K Q := by
  unfold Oper.wp execOp
  simp only [ho, hx, hy]
  have h1 := guard_report .neq x y (rcells X) (rcells Y) w
  have h2 := neq_report X Y hX hY w
  rw [Sem.run_bind, Sem.run_bind, h1, Result.andThen_ok, h2, Result.andThen_ok, Sem.run_pure]
  exact h
theorem wpR_neq {ops : Array Oper} {rest : List Oper} {o : Oper} {a : Act} {w : World} (hg : Region.wanted o (yielded ops a.tmps) = true) (x y : Operand) (t : TypeId) (ho : o.op = .binOp .neq 50 x y t)
    (X Y : List Int) (hX : X.length = 11) (hY : Y.length = 11) (hx : a.eval x = .agg (rcells X)) (hy : a.eval y = .agg (rcells Y)) (h : wpList Tryd.prog ops Q rest (a.put o.dst (.bool (!decide (X = Y)))) w) : wpList Tryd.prog ops Q (o :: rest) a w :=
  wpList_unguard hg (wpList_plain rfl fun _ hK => wp_neq_report (o := { o with guard := none }) x y t ho X Y hX hY hx hy (hK _ _ h))
end
/-- what the walks lean on: the crc's table, the two sentinels -/
def FC (a0 a1 : Addr) (w : World) : Prop := Four w ∧ ErrsAt w a0 a1
theorem FC.later {w w' : World} {a0 a1 : Addr} (h : FC a0 a1 w) (hb : Below w.heap.size w w') : FC a0 a1 w' := ⟨h.1.later hb, h.2.later hb⟩
noncomputable def putE (Z : List Int) : Int := @ite _ (RightL Z) (Classical.propDecidable _) 0 6
noncomputable def putL (Z : List Int) : List Int := @ite _ (RightL Z) (Classical.propDecidable _) (frameL Z) []
theorem putE_right {Z : List Int} (h : RightL Z) : putE Z = 0 := by unfold putE; rw [if_pos h]
theorem putE_wrong {Z : List Int} (h : ¬ RightL Z) : putE Z = 6 := by unfold putE; rw [if_neg h]
theorem putL_right {Z : List Int} (h : RightL Z) : putL Z = frameL Z := by unfold putL; rw [if_pos h]
theorem putL_wrong {Z : List Int} (h : ¬ RightL Z) : putL Z = [] := by unfold putL; rw [if_neg h]
theorem putE_zero {Z : List Int} (h : putE Z = 0) : RightL Z := Classical.byContradiction fun hn => by rw [putE_wrong hn] at h; cases h
theorem wrap32_in {x : Int} (h : 0 ≤ x ∧ x ≤ 65535) : wrap32 x = x := by unfold wrap32; omega
theorem putL_wf (Z : List Int) (h : Z.length = 11) : ∀ x ∈ putL Z, (Lit.int .u8 x).wf = true := by
  by_cases hR : RightL Z
  · rw [putL_right hR]; exact frameL_wf Z h
  · rw [putL_wrong hR]; intro x hx; cases hx
theorem fput_any (Z : List Int) (hZ : RepWf Z) (a0 a1 : Addr) (w : World) (hF : FC a0 a1 w) :
    Calls Tryd.prog 37 #[.agg (rcells Z)] w fun e w' => ∃ v, e = .returned (.tuple #[v, .int .i64 (putE Z)]) ∧ Below w.heap.size w w' ∧ w'.ownsRow w.heap.size 5 1 v (putL Z).length (vU8 (putL Z)) := by
  obtain ⟨f, s, u, g, q0, q1, q2, q3, x0, x1, x2, rfl⟩ := eleven_list Z hZ.1
  have B := hZ.bd
  have CK := fun w1 (hb : Below w.heap.size w w1) => check_any f s u g q0 q1 q2 q3 x0 x1 x2 a0 a1 w1 (hF.2.later hb) B.f B.s B.u B.g B.x0 B.x1 B.x2
  by_cases hR : Right f s u g x0 x1 x2
  · have hR' : RightL [f, s, u, g, q0, q1, q2, q3, x0, x1, x2] := hR
    rw [putE_right hR', putL_right hR']
    refine (fput_ok f s u g q0 q1 q2 q3 x0 x1 x2 a0 a1 w hR hF.1 CK).mono ?_
    rintro e w' ⟨v, rfl, hb, hown⟩
    refine ⟨v, rfl, hb, ?_⟩
    rw [wrap32_in hR.2.1, wrap32_in hR.2.2.1, wrap32_in hR.2.2.2.1] at hown
    exact hown
  · have hR' : ¬ RightL [f, s, u, g, q0, q1, q2, q3, x0, x1, x2] := hR
    rw [putE_wrong hR', putL_wrong hR']
    refine (fput_bad f s u g q0 q1 q2 q3 x0 x1 x2 a0 a1 w hR hF.2 CK).mono ?_
    rintro e w' ⟨rfl, hb⟩
    exact ⟨_, rfl, hb, ownsRow_nil _ _ _⟩
theorem rfput_any (Z : List Int) (hZ : RepWf Z) (w : World) :
    Calls Tryd.prog 38 #[.agg (rcells Z)] w fun e w' => ∃ v, e = .returned (.tuple #[v, .int .i64 (putE Z)]) ∧ Below w.heap.size w w' ∧ w'.ownsRow w.heap.size 5 1 v (putL Z).length (vU8 (putL Z)) := by
  obtain ⟨f, s, u, g, q0, q1, q2, q3, x0, x1, x2, rfl⟩ := eleven_list Z hZ.1
  have B := hZ.bd
  by_cases hR : Right f s u g x0 x1 x2
  · have hR' : RightL [f, s, u, g, q0, q1, q2, q3, x0, x1, x2] := hR
    rw [putE_right hR', putL_right hR']
    refine (rfput_ok f s u g q0 q1 q2 q3 x0 x1 x2 w hR B.x0 B.x1 B.x2 B.q0 B.q1 B.q2 B.q3).mono ?_
    rintro e w' ⟨v, rfl, hb, hown⟩
    exact ⟨v, rfl, hb, hown⟩
  · have hR' : ¬ RightL [f, s, u, g, q0, q1, q2, q3, x0, x1, x2] := hR
    rw [putE_wrong hR', putL_wrong hR']
    refine (rfput_bad f s u g q0 q1 q2 q3 x0 x1 x2 w hR B.x0 B.x1 B.x2).mono ?_
    rintro e w' ⟨rfl, hb⟩
    exact ⟨_, rfl, hb, ownsRow_nil _ _ _⟩
end Go.Proofs.YtecbfegohdllbaaDoor
