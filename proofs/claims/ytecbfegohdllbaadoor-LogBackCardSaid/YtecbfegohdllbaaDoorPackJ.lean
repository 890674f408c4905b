/- Texts of this proof, merged: FrameAll AppFull PutE. -/
import Derived.Test.YtecbfegohdllbaaDoorFrameRGet
section
/- Layer 36 (frame): what Put and Get answer, whichever report and bytes; operations on reports' boxes. -/
namespace Go.Proofs.YtecbfegohdllbaaDoor
open Go.RowKit
set_option linter.unusedVariables false
set_option linter.unusedSimpArgs false
section
variable {Q : Exit → Act → World → Prop}
theorem wpR_alloc {ops : Array Oper} {rest : List Oper} {o : Oper} {a : Act} {w : World} (hg : Region.wanted o (yielded ops a.tmps) = true) (ho : o.op = .alloc 50)
    (h : ∀ g w', g = w.heap.size → RB g zeroR w' → Below w.heap.size w w' → wpList Tryd.prog ops Q rest (a.put o.dst (.pointer (some ⟨g, 0, none⟩))) w') : wpList Tryd.prog ops Q (o :: rest) a w :=
  wpList_unguard hg (wpList_plain rfl fun _ hK => wp_alloc_rep (o := { o with guard := none }) ho (fun g w' e r b => hK _ _ (h g w' e r b)))
theorem wp_box_rep {o : Oper} {a : Act} {w : World} {K : Act → World → Prop} (x : Operand) (ho : o.op = .box 50 x) (Z : List Int) (hx : a.eval x = .agg (rcells Z)) 
    (h : ∀ g w', g = w.heap.size → RB g Z w' → Below w.heap.size w w' → K (a.put o.dst (.pointer (some ⟨g, 0, none⟩))) w') : o.wp Tryd.prog a w K Q := by
  have h' := h _ _ rfl (heap_alloc_new w _) ((Below.refl _ w).alloc (Nat.le_refl _) _)
  unfold Oper.wp execOp
  simp only [ho, hx]
  go_simp
  exact h'
theorem wpR_box {ops : Array Oper} {rest : List Oper} {o : Oper} {a : Act} {w : World} (hg : Region.wanted o (yielded ops a.tmps) = true) (x : Operand) (ho : o.op = .box 50 x) (Z : List Int) (hx : a.eval x = .agg (rcells Z))
    (h : ∀ g w', g = w.heap.size → RB g Z w' → Below w.heap.size w w' → wpList Tryd.prog ops Q rest (a.put o.dst (.pointer (some ⟨g, 0, none⟩))) w') : wpList Tryd.prog ops Q (o :: rest) a w :=
  wpList_unguard hg (wpList_plain rfl fun _ hK => wp_box_rep (o := { o with guard := none }) x ho Z hx (fun g w' e r b => hK _ _ (h g w' e r b)))
theorem wpR_put {ops : Array Oper} {rest : List Oper} {o : Oper} {a : Act} {w : World} (hg : Region.wanted o (yielded ops a.tmps) = true) (x y : Operand) (ho : o.op = .store 50 x y)
    (g B : Nat) (Z Y : List Int) (hZ : Z.length = 11) (hY : Y.length = 11) (hx : a.eval x = .pointer (some ⟨g, 0, none⟩)) (hy : a.eval y = .agg (rcells Z)) (hc : RB g Y w) (hB : B ≤ g)
    (h : ∀ w', RB g Z w' → Below B w w' → wpList Tryd.prog ops Q rest (a.put o.dst undef) w') : wpList Tryd.prog ops Q (o :: rest) a w :=
  wpList_unguard hg (wpList_plain rfl fun _ hK => wp_store_rep (o := { o with guard := none }) x y ho g B Z Y hZ hY hx hy hc hB (fun w' r b => hK _ _ (h w' r b)))
theorem wpR_get {ops : Array Oper} {rest : List Oper} {o : Oper} {a : Act} {w : World} (hg : Region.wanted o (yielded ops a.tmps) = true) (x : Operand) (ho : o.op = .load 50 x)
    (g : Nat) (hx : a.eval x = .pointer (some ⟨g, 0, none⟩)) (Z : List Int) (hZ : Z.length = 11) (hc : RB g Z w)
    (h : wpList Tryd.prog ops Q rest (a.put o.dst (.agg (rcells Z))) w) : wpList Tryd.prog ops Q (o :: rest) a w := wpR_load hg x ho g hx Z hZ _ _ hc h
end
theorem andThen_bool {P : Program} {m : Sem Bool} {w : World} {d : Bool} (h : ((m.run P w).andThen fun b w' => .ok (Value.bool b) w') = .ok (Value.bool d) w) : m.run P w = .ok d w := by
  cases hm : m.run P w with
  | ok b w' =>
    rw [hm, Result.andThen_ok] at h
    injection h with h1 h2
    injection h1 with h1
    rw [h1, h2]
  | halt x w' => rw [hm] at h; cases h
theorem neq_report (X Y : List Int) (hX : X.length = 11) (hY : Y.length = 11) (w : World) :
    (binOp .neq 50 (.agg (rcells X)) (.agg (rcells Y))).run Tryd.prog w = .ok (.bool (!decide (X = Y))) w := by
  have h := eql_report X Y hX hY w
  rw [run_eql_struct] at h
  rw [run_neq_struct, andThen_bool h, Result.andThen_ok]
section
variable {Q : Exit → Act → World → Prop}
theorem wp_neq_report {o : Oper} {a : Act} {w : World} {K : Act → World → Prop} (x y : Operand) (t : TypeId) (ho : o.op = .binOp .neq 50 x y t)
    (X Y : List Int) (hX : X.length = 11) (hY : Y.length = 11) (hx : a.eval x = .agg (rcells X)) (hy : a.eval y = .agg (rcells Y)) (h : K (a.put o.dst (.bool (!decide (X = Y)))) w) : o.wp Tryd.prog a w K Q := by
  unfold Oper.wp execOp
  simp only [ho, hx, hy]
  have h1 := guard_report .neq x y (rcells X) (rcells Y) w
  have h2 := neq_report X Y hX hY w
  rw [Sem.run_bind, Sem.run_bind, h1, Result.andThen_ok, h2, Result.andThen_ok, Sem.run_pure]
  exact h
theorem wpR_neq {ops : Array Oper} {rest : List Oper} {o : Oper} {a : Act} {w : World} (hg : Region.wanted o (yielded ops a.tmps) = true) (x y : Operand) (t : TypeId) (ho : o.op = .binOp .neq 50 x y t)
    (X Y : List Int) (hX : X.length = 11) (hY : Y.length = 11) (hx : a.eval x = .agg (rcells X)) (hy : a.eval y = .agg (rcells Y)) (h : wpList Tryd.prog ops Q rest (a.put o.dst (.bool (!decide (X = Y)))) w) : wpList Tryd.prog ops Q (o :: rest) a w :=
  wpList_unguard hg (wpList_plain rfl fun _ hK => wp_neq_report (o := { o with guard := none }) x y t ho X Y hX hY hx hy (hK _ _ h))
end
/-- what the walks lean on: the crc's table, the two sentinels -/
def FC (a0 a1 : Addr) (w : World) : Prop := Four w ∧ ErrsAt w a0 a1
theorem FC.later {w w' : World} {a0 a1 : Addr} (h : FC a0 a1 w) (hb : Below w.heap.size w w') : FC a0 a1 w' := ⟨h.1.later hb, h.2.later hb⟩
noncomputable def putE (Z : List Int) : Int := @ite _ (RightL Z) (Classical.propDecidable _) 0 6
noncomputable def putL (Z : List Int) : List Int := @ite _ (RightL Z) (Classical.propDecidable _) (frameL Z) []
theorem putE_right {Z : List Int} (h : RightL Z) : putE Z = 0 := by unfold putE; rw [if_pos h]
theorem putE_wrong {Z : List Int} (h : ¬ RightL Z) : putE Z = 6 := by unfold putE; rw [if_neg h]
theorem putL_right {Z : List Int} (h : RightL Z) : putL Z = frameL Z := by unfold putL; rw [if_pos h]
theorem putL_wrong {Z : List Int} (h : ¬ RightL Z) : putL Z = [] := by unfold putL; rw [if_neg h]
theorem putE_zero {Z : List Int} (h : putE Z = 0) : RightL Z := Classical.byContradiction fun hn => by rw [putE_wrong hn] at h; cases h
theorem wrap32_in {x : Int} (h : 0 ≤ x ∧ x ≤ 65535) : wrap32 x = x := by unfold wrap32; omega
theorem putL_wf (Z : List Int) (h : Z.length = 11) : ∀ x ∈ putL Z, (Lit.int .u8 x).wf = true := by
  by_cases hR : RightL Z
  · rw [putL_right hR]; exact frameL_wf Z h
  · rw [putL_wrong hR]; intro x hx; cases hx
theorem fput_any (Z : List Int) (hZ : RepWf Z) (a0 a1 : Addr) (w : World) (hF : FC a0 a1 w) :
    Calls Tryd.prog 37 #[.agg (rcells Z)] w fun e w' => ∃ v, e = .returned (.tuple #[v, .int .i64 (putE Z)]) ∧ Below w.heap.size w w' ∧ w'.ownsRow w.heap.size 5 1 v (putL Z).length (vU8 (putL Z)) := by
  obtain ⟨f, s, u, g, q0, q1, q2, q3, x0, x1, x2, rfl⟩ := eleven_list Z hZ.1
  have B := hZ.bd
  have CK := fun w1 (hb : Below w.heap.size w w1) => check_any f s u g q0 q1 q2 q3 x0 x1 x2 a0 a1 w1 (hF.2.later hb) B.f B.s B.u B.g B.x0 B.x1 B.x2
  by_cases hR : Right f s u g x0 x1 x2
  · have hR' : RightL [f, s, u, g, q0, q1, q2, q3, x0, x1, x2] := hR
    rw [putE_right hR', putL_right hR']
    refine (fput_ok f s u g q0 q1 q2 q3 x0 x1 x2 a0 a1 w hR hF.1 CK).mono ?_
    rintro e w' ⟨v, rfl, hb, hown⟩
    refine ⟨v, rfl, hb, ?_⟩
    rw [wrap32_in hR.2.1, wrap32_in hR.2.2.1, wrap32_in hR.2.2.2.1] at hown
    exact hown
  · have hR' : ¬ RightL [f, s, u, g, q0, q1, q2, q3, x0, x1, x2] := hR
    rw [putE_wrong hR', putL_wrong hR']
    refine (fput_bad f s u g q0 q1 q2 q3 x0 x1 x2 a0 a1 w hR hF.2 CK).mono ?_
    rintro e w' ⟨rfl, hb⟩
    exact ⟨_, rfl, hb, ownsRow_nil _ _ _⟩
theorem rfput_any (Z : List Int) (hZ : RepWf Z) (w : World) :
    Calls Tryd.prog 38 #[.agg (rcells Z)] w fun e w' => ∃ v, e = .returned (.tuple #[v, .int .i64 (putE Z)]) ∧ Below w.heap.size w w' ∧ w'.ownsRow w.heap.size 5 1 v (putL Z).length (vU8 (putL Z)) := by
  obtain ⟨f, s, u, g, q0, q1, q2, q3, x0, x1, x2, rfl⟩ := eleven_list Z hZ.1
  have B := hZ.bd
  by_cases hR : Right f s u g x0 x1 x2
  · have hR' : RightL [f, s, u, g, q0, q1, q2, q3, x0, x1, x2] := hR
    rw [putE_right hR', putL_right hR']
    refine (rfput_ok f s u g q0 q1 q2 q3 x0 x1 x2 w hR B.x0 B.x1 B.x2 B.q0 B.q1 B.q2 B.q3).mono ?_
    rintro e w' ⟨v, rfl, hb, hown⟩
    exact ⟨v, rfl, hb, hown⟩
  · have hR' : ¬ RightL [f, s, u, g, q0, q1, q2, q3, x0, x1, x2] := hR
    rw [putE_wrong hR', putL_wrong hR']
    refine (rfput_bad f s u g q0 q1 q2 q3 x0 x1 x2 w hR B.x0 B.x1 B.x2).mono ?_
    rintro e w' ⟨rfl, hb⟩
    exact ⟨_, rfl, hb, ownsRow_nil _ _ _⟩
end Go.Proofs.YtecbfegohdllbaaDoor
end
section
/- append to a slice of bytes that has no spare capacity: a new row, or nothing at all. -/
namespace Go.Proofs.YtecbfegohdllbaaDoor
open Go.RowKit
set_option linter.unusedVariables false
set_option linter.unusedSimpArgs false
theorem reads_new {W : World} {Y : List Int} {t : TypeId} {zs : Array Value} {c : Nat} (hwf : ∀ x ∈ Y, (Lit.int .u8 x).wf = true) (hc : Y.length ≤ c) (hm : c ≤ maxLen) :
    Reads .u8 (W.alloc (.cells ((Y.map (Value.int .u8)).toArray ++ zs) t)) (.slice (some ⟨W.heap.size, 0, none⟩) Y.length c) Y := by
  refine ⟨_, c, rfl, hc, hm, hwf, (fun h => by cases h), fun b hb i hi => ?_⟩
  obtain rfl := Option.some.inj hb
  rw [add_plain, Nat.zero_add, cell_of_row _ _ i _ _ _ (heap_alloc_new W _)]
  rw [Array.getElem?_append_left (by simpa using hi)]
  simp [hi]
/-- what a full slice of bytes comes to when another is appended -/
theorem run_append_full (W : World) (a : Option Addr) (Y B : List Int) (v : Value) (h1 : Reads .u8 W (.slice a Y.length Y.length) Y) (h2 : Reads .u8 W v B) (hl : Y.length + B.length ≤ 1000000) (ty : TypeId) :
    ∃ (a' : Option Addr) (c' : Nat) (W' : World), (Builtin.append_ #[22, 22] ty #[.slice a Y.length Y.length, v]).run Tryd.prog W = .ok (.slice a' (Y ++ B).length c') W' ∧ Below W.heap.size W W' ∧ Reads .u8 W' (.slice a' (Y ++ B).length c') (Y ++ B) ∧
      (a' = a ∨ (a' = some ⟨W.heap.size, 0, none⟩ ∧ W.heap.size < W'.heap.size)) := by
  obtain ⟨i0, hi, hz0, hz1, hz2⟩ := info_parts Tryd.infoU8
  have hw1 := Reads.wf h1
  have hw2 := Reads.wf h2
  have hwf : ∀ x ∈ Y ++ B, (Lit.int .u8 x).wf = true := fun x hx => (List.mem_append.1 hx).elim (hw1 x) (hw2 x)
  obtain ⟨ad, c, rfl, g1, g2, g3, g4, g5⟩ := id h2
  obtain ⟨a', c1, hv1, f1, f2, f3, f4, f5⟩ := id h1
  obtain ⟨rfl, -, rfl⟩ := Value.slice.inj hv1
  by_cases hB : B = []
  · subst hB
    refine ⟨a, Y.length, W, ?_, Below.refl _ _, by simpa using h1, .inl rfl⟩
    have hf : (Builtin.firstCells i0.size 0 (.slice ad 0 c)).run Tryd.prog W = .ok #[] W := by
      rcases ad with _ | ad
      · exact run_firstCells_none W _ _ _ _
      · exact run_firstCells_some W _ 0 ad 0 c [] (by simp) (fun j u h => by cases h)
    rcases a with _ | a
    · simp [Builtin.append_, run_underlying Tryd.underlying22, sizeOf, typeInfo, hi, Builtin.lenOf, hf]
    · simp [Builtin.append_, run_underlying Tryd.underlying22, sizeOf, typeInfo, hi, Builtin.lenOf, hf, storeCells]
  · have hBl : 0 < B.length := List.length_pos_iff.2 hB
    rcases ad with _ | ad
    · exact absurd (g4 rfl).1 hB
    have news : ∀ (j : Nat) (u : Value), (B.map (Value.int .u8))[j]? = some u → W.cell? (ad.add j) = some u := by
      intro j u hj
      have hjl : j < B.length := by
        rcases Nat.lt_or_ge j B.length with h | h
        · exact h
        · rw [List.getElem?_eq_none (by simpa using h)] at hj; cases hj
      rw [g5 ad rfl j hjl]
      simpa [hjl] using hj
    rcases a with _ | a
    · obtain ⟨rfl, -⟩ := f4 rfl
      have hr := run_append_nil (P := Tryd.prog) W 22 ty 5 i0 (.int .u8 0) Tryd.underlying22 hi hz0 ad B.length c (B.map (Value.int .u8)) (by simp [hz1]) news hBl (by omega) (by rw [hz2]; omega)
      have hg := grownCap_ge W B.length 0 5
      have hgm := grownCap_le_maxLen W B.length 0 5 (by simp [maxLen]; simp at hl; omega)
      refine ⟨_, grownCap W B.length 0 5, _, by simpa using hr, ((Below.refl _ W).drew).alloc (by simp) _, ?_, .inr ⟨rfl, by simp⟩⟩
      have := reads_new (W := W.drew) (t := 5) (zs := Builtin.zeroCells (Value.int .u8 0).cells (grownCap W B.length 0 5 - B.length)) hw2 hg hgm
      simpa using this
    · have olds : ∀ (j : Nat) (u : Value), (Y.map (Value.int .u8))[j]? = some u → W.cell? (a.add j) = some u := by
        intro j u hj
        have hjl : j < Y.length := by
          rcases Nat.lt_or_ge j Y.length with h | h
          · exact h
          · rw [List.getElem?_eq_none (by simpa using h)] at hj; cases hj
        rw [f5 a rfl j hjl]
        simpa [hjl] using hj
      have hr := run_append_grow (P := Tryd.prog) W 22 ty 5 i0 (.int .u8 0) Tryd.underlying22 hi hz0 a Y.length Y.length (Y.map (Value.int .u8)) (by simp [hz1]) olds ad B.length c (B.map (Value.int .u8)) (by simp [hz1]) news (by omega) (by omega)
        (growslice_fits (by omega) (by rw [hz2]; omega))
      have hg := grownCap_ge W (Y.length + B.length) Y.length 5
      have hgm := grownCap_le_maxLen W (Y.length + B.length) Y.length 5 (by simp [maxLen]; omega)
      refine ⟨_, grownCap W (Y.length + B.length) Y.length 5, _, by rw [List.length_append]; exact hr, ((Below.refl _ W).drew).alloc (by simp) _, ?_, .inr ⟨rfl, by simp⟩⟩
      have := reads_new (W := W.drew) (Y := Y ++ B) (t := 5) (zs := Builtin.zeroCells (Value.int .u8 0).cells (grownCap W (Y.length + B.length) Y.length 5 - (Y.length + B.length))) hwf (by rw [List.length_append]; exact hg) hgm
      simpa [List.append_assoc] using this
theorem wp_append_run {P : Program} {o : Oper} {a : Act} {w w' : World} {K : Act → World → Prop} {Q : Exit → Act → World → Prop} (s x : Operand) (t : TypeId)
    (ho : o.op = .call { callee := .builtin .append, args := #[s, x], argTypes := #[t, t] }) {u v v' : Value} (hs : a.eval s = u) (hx : a.eval x = v)
    (hr : (Builtin.append_ #[t, t] o.type #[u, v]).run P w = .ok v' w') (h : K (a.put o.dst v') w') : o.wp P a w K Q := by
  unfold Oper.wp execOp
  simp only [ho, resolve, invoke, builtin, Sem.run_bind, Sem.run_pure, Result.andThen_ok, List.map_toArray, List.map_cons, List.map_nil, hs, hx, hr]
  exact h
/-- a region that cannot but go on -/
def OnlyOn (K : Act → World → Prop) : Exit → Act → World → Prop
  | .normal, a, w => K a w
  | _, _, _ => False
theorem wp_only {P : Program} {s : Code} {K : Act → World → Prop} {Q' : Exit → Act → World → Prop} {a : Act} {w : World} (h : s.wp P (OnlyOn K) a w) : s.wp P (Exit.then K Q') a w :=
  wp_mono h (fun e a' w' h' => by cases e <;> first | exact h' | exact h'.elim)
end Go.Proofs.YtecbfegohdllbaaDoor
end
section
/- Layer 36 (frame): what Put answers, where one sentence alone is known. -/
namespace Go.Proofs.YtecbfegohdllbaaDoor
open Go.RowKit
set_option linter.unusedVariables false
set_option linter.unusedSimpArgs false
/-- the one sentence that Put leans on -/
def ErrR (w : World) (a0 : Addr) : Prop := w.cell? ⟨1, 0, none⟩ = some (.iface 174 (.pointer (some a0)))
theorem ErrR.later {w w' : World} {a0 : Addr} (h : ErrR w a0) (hb : Below w.heap.size w w') : ErrR w' a0 := by
  unfold ErrR at h ⊢
  exact (hb.cell (lt_of_cell h)).trans h
def FE (a0 a1 : Addr) (w : World) : Prop := Four w ∧ ErrR w a0
theorem FE.later {w w' : World} {a0 a1 : Addr} (h : FE a0 a1 w) (hb : Below w.heap.size w w') : FE a0 a1 w' := ⟨h.1.later hb, h.2.later hb⟩
theorem FC.one {a0 a1 : Addr} {w : World} (h : FC a0 a1 w) : FE a0 a1 w := ⟨h.1, h.2.1⟩
theorem num_range_e (p : Nat) (a0 a1 : Addr) (w : World) (E : ErrR w a0) (h1 : w.cell? ⟨p, 1, none⟩ = some (.iface 174 (.pointer (some a0)))) :
    Calls Tryd.prog 71 #[.iface 144 (.pointer (some ⟨p, 0, none⟩))] w fun e w' => e = .returned (.int .i64 6) ∧ w = w' := by
  have IS := hid (eis_same p a0 w h1)
  have hg : w.cell? ⟨1, 0, none⟩ = some (.iface 174 (.pointer (some a0))) := E
  clear E h1
  go_enter Tryd.func71, Tryd.ntmps71
  go_wp2_with fail
  refine IS.out.mono ?_
  rintro e w2 ⟨rfl, rfl⟩
  go_wp2
  go_ret
  exact ⟨rfl, rfl⟩
theorem check_e (f s u g q0 q1 q2 q3 x0 x1 x2 : Int) (a0 a1 : Addr) (w : World) (E : ErrR w a0) (bf : -9223372036854775808 ≤ f ∧ f ≤ 9223372036854775807) (bs : -9223372036854775808 ≤ s ∧ s ≤ 9223372036854775807) (bu : -9223372036854775808 ≤ u ∧ u ≤ 9223372036854775807) (bg : -9223372036854775808 ≤ g ∧ g ≤ 9223372036854775807)
    (b0 : -2147483648 ≤ x0 ∧ x0 ≤ 2147483647) (b1 : -2147483648 ≤ x1 ∧ x1 ≤ 2147483647) (b2 : -2147483648 ≤ x2 ∧ x2 ≤ 2147483647) :
    Calls Tryd.prog 72 #[.agg #[.int .i64 f, .int .i64 s, .int .i64 u, .int .i64 g, .int .i32 q0, .int .i32 q1, .int .i32 q2, .int .i32 q3, .int .i32 x0, .int .i32 x1, .int .i32 x2]] w (CheckPost (Right f s u g x0 x1 x2) a0 w) := by
  have m0 := andnot_zero f bf 4 (by decide) 15 (by decide)
  have m1 := andnot_zero s bs 16 (by decide) 65535 (by decide)
  have m2 := andnot_zero u bu 16 (by decide) 65535 (by decide)
  have m3 := andnot_zero g bg 16 (by decide) 65535 (by decide)
  have m4 := half_same x0 b0
  have m5 := half_same x1 b1
  have m6 := half_same x2 b2
  by_cases n0 : bits .andNot .i64 f 15 = 0
  case neg =>
    exact (check_0 f s u g q0 q1 q2 q3 x0 x1 x2 a0 w E n0).mono (fun e w' h => ⟨h.1, .inr ⟨fun R => n0 (m0.2 R.1), h.2⟩⟩)
  by_cases n1 : bits .andNot .i64 s 65535 = 0
  case neg =>
    exact (check_1 f s u g q0 q1 q2 q3 x0 x1 x2 a0 w E n0 n1).mono (fun e w' h => ⟨h.1, .inr ⟨fun R => n1 (m1.2 R.2.1), h.2⟩⟩)
  by_cases n2 : bits .andNot .i64 u 65535 = 0
  case neg =>
    exact (check_2 f s u g q0 q1 q2 q3 x0 x1 x2 a0 w E n0 n1 n2).mono (fun e w' h => ⟨h.1, .inr ⟨fun R => n2 (m2.2 R.2.2.1), h.2⟩⟩)
  by_cases n3 : bits .andNot .i64 g 65535 = 0
  case neg =>
    exact (check_3 f s u g q0 q1 q2 q3 x0 x1 x2 a0 w E n0 n1 n2 n3).mono (fun e w' h => ⟨h.1, .inr ⟨fun R => n3 (m3.2 R.2.2.2.1), h.2⟩⟩)
  by_cases k0 : halfI x0 = x0
  case neg =>
    exact (check_4 f s u g q0 q1 q2 q3 x0 x1 x2 a0 w E n0 n1 n2 n3 k0).mono (fun e w' h => ⟨h.1, .inr ⟨fun R => k0 (m4.2 R.2.2.2.2.1), h.2⟩⟩)
  by_cases k1 : halfI x1 = x1
  case neg =>
    exact (check_5 f s u g q0 q1 q2 q3 x0 x1 x2 a0 w E n0 n1 n2 n3 k0 k1).mono (fun e w' h => ⟨h.1, .inr ⟨fun R => k1 (m5.2 R.2.2.2.2.2.1), h.2⟩⟩)
  by_cases k2 : halfI x2 = x2
  case neg =>
    exact (check_6 f s u g q0 q1 q2 q3 x0 x1 x2 a0 w E n0 n1 n2 n3 k0 k1 k2).mono (fun e w' h => ⟨h.1, .inr ⟨fun R => k2 (m6.2 R.2.2.2.2.2.2), h.2⟩⟩)
  exact (check_7 f s u g q0 q1 q2 q3 x0 x1 x2 a0 w E n0 n1 n2 n3 k0 k1 k2).mono (fun e w' h => ⟨h.1, .inl ⟨⟨m0.1 n0, m1.1 n1, m2.1 n2, m3.1 n3, m4.1 k0, m5.1 k1, m6.1 k2⟩, h.2⟩⟩)
theorem fput_bad_e (f s u g q0 q1 q2 q3 x0 x1 x2 : Int) (a0 a1 : Addr) (w : World) (hR : ¬ Right f s u g x0 x1 x2) (E : ErrR w a0)
    (CK : ∀ w1, Below w.heap.size w w1 → Calls Tryd.prog 72 #[.agg #[.int .i64 f, .int .i64 s, .int .i64 u, .int .i64 g, .int .i32 q0, .int .i32 q1, .int .i32 q2, .int .i32 q3, .int .i32 x0, .int .i32 x1, .int .i32 x2]] w1 (CheckPost (Right f s u g x0 x1 x2) a0 w1)) :
    Calls Tryd.prog 37 #[.agg #[.int .i64 f, .int .i64 s, .int .i64 u, .int .i64 g, .int .i32 q0, .int .i32 q1, .int .i32 q2, .int .i32 q3, .int .i32 x0, .int .i32 x1, .int .i32 x2]] w fun e w' => e = .returned (.tuple #[.slice none 0 0, .int .i64 6]) ∧ Below w.heap.size w w' := by
  have E0 := hid E
  clear E
  go_enter Tryd.func37, Tryd.ntmps37
  go_wp2_with fail
  refine (CK _ ((Below.refl _ w).alloc (Nat.le_refl _) _)).mono ?_
  rintro e w2 ⟨hb2, ⟨h, _⟩ | ⟨_, p, rfl, hp⟩⟩
  case inl => exact absurd h hR
  have hB : Below w.heap.size w w2 := ((Below.refl _ w).alloc (Nat.le_refl _) _).trans (hb2.mono (by simp))
  have NR := hid (num_range_e p a0 a1 w2 (E0.out.later hB) hp)
  clear CK hR hp hb2
  go_wp2_with fail
  refine NR.out.mono ?_
  rintro e w3 ⟨rfl, rfl⟩
  go_wp2
  go_ret2
  exact ⟨rfl, hB⟩
theorem fput_e (Z : List Int) (hZ : RepWf Z) (a0 a1 : Addr) (w : World) (hF : FE a0 a1 w) :
    Calls Tryd.prog 37 #[.agg (rcells Z)] w fun e w' => ∃ v, e = .returned (.tuple #[v, .int .i64 (putE Z)]) ∧ Below w.heap.size w w' ∧ w'.ownsRow w.heap.size 5 1 v (putL Z).length (vU8 (putL Z)) := by
  obtain ⟨f, s, u, g, q0, q1, q2, q3, x0, x1, x2, rfl⟩ := eleven_list Z hZ.1
  have B := hZ.bd
  have CK := fun w1 (hb : Below w.heap.size w w1) => check_e f s u g q0 q1 q2 q3 x0 x1 x2 a0 a1 w1 (hF.2.later hb) B.f B.s B.u B.g B.x0 B.x1 B.x2
  by_cases hR : Right f s u g x0 x1 x2
  · have hR' : RightL [f, s, u, g, q0, q1, q2, q3, x0, x1, x2] := hR
    rw [putE_right hR', putL_right hR']
    refine (fput_ok f s u g q0 q1 q2 q3 x0 x1 x2 a0 a1 w hR hF.1 CK).mono ?_
    rintro e w' ⟨v, rfl, hb, hown⟩
    refine ⟨v, rfl, hb, ?_⟩
    rw [wrap32_in hR.2.1, wrap32_in hR.2.2.1, wrap32_in hR.2.2.2.1] at hown
    exact hown
  · have hR' : ¬ RightL [f, s, u, g, q0, q1, q2, q3, x0, x1, x2] := hR
    rw [putE_wrong hR', putL_wrong hR']
    refine (fput_bad_e f s u g q0 q1 q2 q3 x0 x1 x2 a0 a1 w hR hF.2 CK).mono ?_
    rintro e w' ⟨rfl, hb⟩
    exact ⟨_, rfl, hb, ownsRow_nil _ _ _⟩
end Go.Proofs.YtecbfegohdllbaaDoor
end
