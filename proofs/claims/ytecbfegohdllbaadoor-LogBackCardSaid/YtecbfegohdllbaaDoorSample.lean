/- What the functions of package sample return: contracts. -/
import Derived.Test.YtecbfegohdllbaaDoorSampleAll
import Derived.Test.YtecbfegohdllbaaDoorPackA
import Derived.Test.YtecbfegohdllbaaDoorPackE
import Derived.RangeFuncBox
import Derived.Maps.AppendAt
namespace Go.Proofs.YtecbfegohdllbaaDoor
open Go.RowKit Go.Shelf
set_option linter.unusedVariables false
set_option linter.unusedSimpArgs false
attribute [local go_sem] Oper.semAt_some
def inR (x : Int) : Prop := -32768 ≤ x ∧ x ≤ 32767
instance (x : Int) : Decidable (inR x) := by unfold inR; infer_instance
/-- the two lowest bytes of each -/
def twoB (l : List Int) : List Int := l.flatMap fun x => [x / 256 % 256, x % 256]
def zcells (Z : List Int) : Array Value := (Z.map (Value.int .i32)).toArray
theorem zcells_get (Z : List Int) (i : Nat) (h : i < Z.length) : (zcells Z)[i]? = some (.int .i32 (Z.getD i 0)) := by
  simp [zcells, h, List.getD]
theorem blk_kept {W W' : World} {row : Option Nat} {k : Nat} {cs : Array Value} {t : TypeId} {fr : Nat × Nat} (h : W.heap[k]? = some (.cells cs t fr)) (hg : W.grownBy W' row)
    (hr : ∀ r, row = some r → ∃ o : Obj, W.heap[r]? = some o ∧ o.isCells = false) : W'.heap[k]? = some (.cells cs t fr) := (grownBy_keeps_cells hg hr h rfl).trans h
theorem all_any (p : Option Addr) (w : World) : Calls Tryd.prog 63 #[.pointer p] w fun e w' => e = .returned (.func (.func 94) #[] #[.pointer (some ⟨w.heap.size, 0, none⟩)]) ∧ w.alloc (.cells #[.pointer p] 90) = w' := by
  go_enter Tryd.func63, Tryd.ntmps63
  go_wp2
  go_ret
  exact ⟨rfl, rfl⟩
theorem twoB_snoc (l : List Int) (x : Int) : twoB (l ++ [x]) = twoB l ++ [x / 256 % 256, x % 256] := by simp [twoB]
theorem twoB_len (l : List Int) : (twoB l).length = 2 * l.length := by
  induction l with
  | nil => rfl
  | cons a l ih => show (([a / 256 % 256, a % 256] : List Int) ++ twoB l).length = _; rw [List.length_append, ih]; simp; omega
theorem twoB_wf (l : List Int) : ∀ x ∈ twoB l, (Lit.int .u8 x).wf = true := by
  intro x hx
  simp [twoB] at hx
  obtain ⟨a, _, rfl | rfl⟩ := hx <;> exact WalkArith.wf_u8 (by omega)
theorem upTo_all (Z : List Int) (hZ : Z.length = 9) : (upTo 9).map (fun k => Z.getD k.val 0) = Z := by
  apply List.ext_getElem?
  intro i
  have h9 : upTo 9 = List.finRange 9 := by decide
  rw [h9]
  by_cases hi : i < 9
  · rw [List.getElem?_map, List.getElem?_eq_getElem (by simpa using hi)]
    simp [List.getD, List.getElem?_eq_getElem (show i < Z.length by omega)]
  · rw [List.getElem?_eq_none (by simp; omega), List.getElem?_eq_none (by omega)]
theorem own_cells {w : World} {base size n : Nat} {e : TypeId} {v : Value} {xs : List Value} (h : w.ownsRow base e size v n xs) (j : Nat) (o : Obj) (ej : v.ownBlock = some j) (ho : w.heap[j]? = some o) : o.isCells = true := by
  rcases h.2 with ⟨rfl, _⟩ | ⟨g, cap, cur, rfl, _, hgb, _⟩
  · simp [Value.ownBlock] at ej
  · obtain rfl : g = j := by simpa [Value.ownBlock] using ej
    rw [hgb] at ho; cases ho; rfl
theorem own_base {w : World} {base base' size n : Nat} {e : TypeId} {v : Value} {xs : List Value} (h : w.ownsRow base e size v n xs) (hb : base' ≤ base) : w.ownsRow base' e size v n xs :=
  ⟨h.1, h.2.imp id fun ⟨g, cap, cur, h1, h2, h3⟩ => ⟨g, cap, cur, h1, Nat.le_trans hb h2, h3⟩⟩
theorem keeps_below {W W' : World} (B : Nat) (h : Below W.heap.size W W') : KeepsFrom B W W' := ⟨h.size, fun k o _ hk _ => (h.block k (Array.getElem?_eq_some_iff.1 hk).1).trans hk⟩
/-- what Put answers -/
def PutPost (Z : List Int) (w : World) (e : Ending) (w' : World) : Prop :=
  Below w.heap.size w w' ∧ (((∀ x ∈ Z, inR x) ∧ ∃ v, e = .returned (.tuple #[v, .int .i64 0]) ∧ w'.ownsRow w.heap.size 5 1 v 20 (vU8 (sealL (twoB Z)))) ∨ ((¬ ∀ x ∈ Z, inR x) ∧ e = .returned (.tuple #[.slice none 0 0, .int .i64 6])))
/-- between two rounds -/
def PutI (Z : List Int) (h : Nat) (w : World) (B1 B2 B3 : Nat) (pre : List (Fin 9)) (W : World) : Prop :=
  (∀ k ∈ pre, inR (Z.getD k.val 0)) ∧ W.heap[h]? = some (.cells (zcells Z) 38 (0, 0)) ∧ Boxed W B1 22 (.slice none 0 0) ∧ Boxed W B2 26 (.int .i64 0) ∧
  (∃ v, Boxed W B3 22 v ∧ W.ownsRow B3 5 1 v (2 * pre.length) (vU8 (twoB (pre.map fun k => Z.getD k.val 0)))) ∧ Below h w W
/-- a round has left -/
def PutX (Z : List Int) (h : Nat) (w : World) (B1 B2 : Nat) (W : World) : Prop :=
  (¬ ∀ x ∈ Z, inR x) ∧ Boxed W B1 22 (.slice none 0 0) ∧ Boxed W B2 26 (.int .i64 6) ∧ Below h w W
theorem putI_own {Z : List Int} {h : Nat} {w : World} {B1 B2 B3 B : Nat} (hw : h ≤ w.heap.size) (hB : h ≤ B) : OwnFrom B (PutI Z h w B1 B2 B3) := by
  rintro s W W' row ⟨a, b, c, d, ⟨v, e1, e2⟩, f⟩ hg hr
  have hr' : ∀ r, row = some r → ∃ o : Obj, W.heap[r]? = some o ∧ o.isCells = false := fun r e => (hr r e).2
  refine ⟨a, blk_kept b hg hr', blk_kept c hg hr', blk_kept d hg hr', ⟨v, blk_kept e1 hg hr', e2.kept hg ?_⟩, f.grown hg (Nat.le_trans hw f.size) (fun k e => Nat.le_trans hB (hr k e).1)⟩
  rcases e2.2 with ⟨rfl, _⟩ | ⟨g, cap, cur, rfl, _, hgb, _⟩
  · exact .inl rfl
  · refine .inr fun e' => ?_
    obtain ⟨o, ho, hc⟩ := hr' g (by simpa [Value.ownBlock] using e'.symm)
    rw [hgb] at ho; cases ho; cases hc
theorem putX_own {β : Type} {Z : List Int} {h : Nat} {w : World} {B1 B2 B : Nat} (hw : h ≤ w.heap.size) (hB : h ≤ B) : OwnFrom B (fun (_ : β) => PutX Z h w B1 B2) := by
  rintro s W W' row ⟨a, c, d, f⟩ hg hr
  have hr' : ∀ r, row = some r → ∃ o : Obj, W.heap[r]? = some o ∧ o.isCells = false := fun r e => (hr r e).2
  exact ⟨a, blk_kept c hg hr', blk_kept d hg hr', f.grown hg (Nat.le_trans hw f.size) (fun k e => Nat.le_trans hB (hr k e).1)⟩
set_option maxRecDepth 100000 in
set_option maxHeartbeats 4000000 in
theorem sput_any (Z : List Int) (hZ : Z.length = 9) (hwf : ∀ x ∈ Z, (Lit.int .i32 x).wf = true) (w : World) (h4 : Four w) :
    Calls Tryd.prog 30 #[.agg (zcells Z)] w (PutPost Z w) := by
  obtain ⟨i0, hi, hz0, hz1, hz2⟩ := info_parts Tryd.infoU8
  refine callsIn_wide.1 (?_ : CallsIn Fence.wide 10 _ _ _ _ _)
  refine callsIn_of_wp_marks Tryd.func30 rfl trivial ?_ rfl
  simp only [Tryd.ntmps30, List.size_toArray, List.length_cons, List.length_nil, Nat.reduceAdd, Nat.reduceSub, Array.replicate_succ, Array.replicate_zero, List.push_toArray, List.append_toArray, List.nil_append, List.cons_append]
  gi_wp2_with (refine ⟨trivial, ?_⟩; gi_at_call 63; refine (callsIn_wide.2 (all_any _ _)).mono ?_; rintro e w' ⟨rfl, rfl⟩)
  obtain ⟨os, hos⟩ : ∃ os, os = [Obj.cells (zcells Z) 38, .cells #[.slice none 0 0] 22, .cells #[.int .i64 0] 26, .cells #[.slice none 0 0] 22, .cells #[.pointer (some ⟨w.heap.size, 0, none⟩)] 90] := ⟨_, rfl⟩
  have hol : os.length = 5 := by rw [hos]; rfl
  have hnew := fun i hi => allocs_new os w i hi
  have hsz := allocs_size os w
  have hbel := allocs_below os w w (Below.refl _ _)
  obtain ⟨W0, hW0⟩ : ∃ W0, allocs w os = W0 := ⟨_, rfl⟩
  have k0 := hnew 0 (by omega)
  have k1 := hnew 1 (by omega)
  have k2 := hnew 2 (by omega)
  have k3 := hnew 3 (by omega)
  have k4 := hnew 4 (by omega)
  rw [hW0] at k0 k1 k2 k3 k4 hsz hbel
  rw [hol] at hsz
  simp only [hos, List.getElem?_cons_zero, List.getElem?_cons_succ, Nat.add_zero] at k0 k1 k2 k3 k4
  have hWe : ((((w.alloc (.cells (zcells Z) 38)).alloc (.cells #[.slice none 0 0] 22)).alloc (.cells #[.int .i64 0] 26)).alloc (.cells #[.slice none 0 0] 22)).alloc (.cells #[.pointer (some ⟨w.heap.size, 0, none⟩)] 90) = W0 := by rw [← hW0, hos]; rfl
  rw [hWe]
  clear hnew hW0 hol hos hWe
  try simp only [World.size_alloc]
  have H4 := hid (fun W (hb : Below w.heap.size w W) => h4.later hb)
  have H4w := hid h4
  clear h4
  generalize hh : w.heap.size = h at *
  have hc4 : W0.cell? ⟨h + 1 + 1 + 1 + 1, 0, none⟩ = some (.pointer (some ⟨h, 0, none⟩)) := by rw [cell_of_row W0 (h + 1 + 1 + 1 + 1) 0 _ _ _ k4]; rfl
  refine wpIn_rangeFunc_ownG (F := Fence.wide) (n := 10) rfl (by decide) (gf := 94) (lb := #[.pointer (some ⟨h + 1 + 1 + 1 + 1, 0, none⟩)]) rfl trivial (enters_of Tryd.func94 (by kernel_rfl) rfl)
    (all_stops 9 h (h + 1 + 1 + 1 + 1) (by decide) W0 (by omega) hc4 (fun _ _ => True)) (fun _ _ => trivial) (fun _ _ _ _ _ _ _ _ => trivial) (Below.refl _ _) (fun _ => rfl)
    (PutI Z h w (h + 1) (h + 2) (h + 3)) (fun c _ W => c = .ret ∧ PutX Z h w (h + 1) (h + 2) W) (putI_own (by omega) (by omega)) (fun c => OwnFrom.and (fun _ _ _ _ hs _ _ => hs) (putX_own (by omega) (by omega))) ?start
    (fun x => { tmps := #[.agg (zcells Z), .pointer (some ⟨h, 0, none⟩), .pointer (some ⟨h + 1, 0, none⟩), .pointer (some ⟨h + 1 + 1, 0, none⟩), .pointer (some ⟨h + 1 + 1 + 1, 0, none⟩), undef, .pointer (some ⟨h, x.val, none⟩), .func (.func 94) #[] #[.pointer (some ⟨h + 1 + 1 + 1 + 1, 0, none⟩)], .int .i64 (x.val : Int), .pointer (some ⟨h, x.val, none⟩), undef, undef, undef, undef, undef, undef, undef, undef, undef, undef, undef, undef, undef, undef, undef, undef, undef, undef, undef], defers := [] }) ?assign ?body ?done ?stop
  case start => exact ⟨fun k hk => absurd hk (by simp), k0, k1, k2, ⟨_, k3, World.ownsRow_nil _ _ _ _⟩, hbel⟩
  case assign =>
    intro l x W K hK
    gi_wp2
    exact hK
  case body =>
    rintro l pre x W ⟨p0, p1, p2, p3, ⟨v, p4, p5⟩, p6⟩ hlen
    have hx9 := x.isLt
    have hc := cell_of_row W h x.val _ _ _ p1
    rw [zcells_get Z x.val (by omega)] at hc
    have hxw := bd_i32 (hwf (Z.getD x.val 0) (by rw [List.getD_eq_getElem?_getD, List.getElem?_eq_getElem (by omega)]; exact List.getElem_mem _))
    have hxm : Z.getD x.val 0 ∈ Z := by rw [List.getD_eq_getElem?_getD, List.getElem?_eq_getElem (by omega)]; exact List.getElem_mem _
    have hc1 := p2.cell
    have hf1 := p2.frozen
    have hc2 := p3.cell
    have hf2 := p3.frozen
    have hc3 := p4.cell
    have hf3 := p4.frozen
    by_cases hx : inR (Z.getD x.val 0)
    · have hx1 := hx.1
      have hx2 := hx.2
      have P := hid p0
      have HX := hid hx
      clear p0 hx
      generalize hX : Z.getD x.val 0 = X at *
      have HE := hid hX
      clear hX hxm
      gi_wp2
      refine wpIn_region_F (B := h + 3) (k := 8) (ls := #[false, false, false, false, false, false, false, false]) (by kernel_rfl) (by kernel_rfl) (by kernel_rfl) (by kernel_rfl) (by rintro ⟨_, _, h⟩; exact h) ?_
      refine wpAnyF_take (i := 1) (v := ?vr1_1) (some 21) rfl rfl (by kernel_rfl) (by kernel_rfl) (by kernel_rfl) (fun _ _ _ h => h) (by rfl) ?hvr1_1 ?restr1_1
      case hvr1_1 => (intro w' hb; go_simp; try with_reducible rfl)
      simp only [Act.put, List.setIfInBounds_toArray, List.set_cons_zero, List.set_cons_succ]
      refine wpAnyF_take (i := 2) (v := ?vr2_2) (some 22) rfl rfl (by kernel_rfl) (by kernel_rfl) (by kernel_rfl) (fun _ _ _ h => h) (by rfl) ?hvr2_2 ?restr2_2
      case hvr2_2 => (intro w' hb; go_simp; try with_reducible rfl)
      simp only [Act.put, List.setIfInBounds_toArray, List.set_cons_zero, List.set_cons_succ]
      refine wpAnyF_take (i := 3) (v := ?vr3_3) (some 23) rfl rfl (by kernel_rfl) (by kernel_rfl) (by kernel_rfl) (fun _ _ _ h => h) (by rfl) ?hvr3_3 ?restr3_3
      case hvr3_3 => (intro w' hb; (have hcw := (hb.cell (p := ⟨h, x.val, none⟩) (by simp)).trans hc; go_simp; try with_reducible rfl))
      simp only [Act.put, List.setIfInBounds_toArray, List.set_cons_zero, List.set_cons_succ]
      refine wpAnyF_two (i := 0) (j := 4) (by kernel_rfl) rfl (by rfl) rfl (by rfl) (fun K hK => ?_) (fun K hK => ?_)
      · go_simp
        refine hK.out _ _ ⟨(Below.refl _ _), ?_⟩
        clear hK K
        simp only [List.setIfInBounds_toArray, List.set_cons_zero, List.set_cons_succ]
        refine wpAnyF_alone (i := 4) rfl (by kernel_rfl) (by rfl) (fun K hK => ?_)
        go_simp
        refine (bytes4_any X _).mono ?_
        rintro e w4 ⟨b4, c4, rfl, hbel4, hl4, hm4, hge4, hlt4, n0, n1, n2, n3⟩
        have hb : Below (h + 3) W.drew w4 := hbel4.mono (by have := p4.lt; simp; omega)
        have hcut : ¬ c4 = 2 := by omega
        have hc3' : w4.cell? ⟨h + 1 + 1 + 1, 0, none⟩ = some v := (hbel4.cell (p := ⟨h + 3, 0, none⟩) (by simpa using p4.lt)).trans hc3
        have hbW4 : Below W.heap.size W w4 := (Below.refl W.heap.size W).drew.trans (hbel4.mono (Nat.le_refl _))
        have hown4 : w4.ownsRow (h + 3) 5 1 v (2 * pre.length) (vU8 (twoB (pre.map fun k => Z.getD k.val 0))) := ownsRow_below p5 hbW4
        have p4' : Boxed w4 (h + 3) 22 v := (hbel4.block _ (by simpa using p4.lt)).trans p4
        refine hK.out _ _ hb ?_
        clear hK K
        simp only [List.setIfInBounds_toArray, List.set_cons_zero, List.set_cons_succ]
        refine wpAnyF_take (i := 5) (v := ?vr5_4) (some 25) rfl rfl (by kernel_rfl) (by kernel_rfl) (by kernel_rfl) (fun _ _ _ h => h) (by rfl) ?hvr5_4 ?restr5_4
        case hvr5_4 => (intro w' hb; go_simp; try with_reducible rfl)
        simp only [Act.put, List.setIfInBounds_toArray, List.set_cons_zero, List.set_cons_succ]
        refine wpAnyF_alone (i := 6) rfl (by kernel_rfl) (by rfl) (fun K hK => ?_)
        refine wp_append_own _ (.tmp 20) (.tmp 25) 22 rfl (h + 3) 5 i0 (.int .u8 0) 1 1 Tryd.underlying22 hi hz0 hz1 hz2 rfl (by decide) v _ _ rfl hown4 ⟨b4, 2, none⟩ 2 (c4 - 2) [.int .u8 (X / 256 % 256), .int .u8 (X % 256)] rfl rfl ?_ ?_ ?_ ?_ ?_ ?_
        · intro j u hj
          rcases j with _ | _ | j <;> simp at hj <;> subst hj <;> simp [add_plain, n2, n3]
        · simp [Value.oneCell']
        · simp [maxLen]; omega
        · omega
        · have := p4'.lt; omega
        intro v' w5 hown5 hg5 _
        obtain ⟨g5, cap5, rfl⟩ := ownsRow_succ hown5
        have hb : Below (h + 3) w4 w5 := (Below.refl _ _).grown hg5 (by have := p4'.lt; omega) (fun k e => (hown4.lt k e).1)
        have p4'' : Boxed w5 (h + 3) 22 v := p4'.kept hg5 (p4'.not_row (by decide) hown4)
        have hc5 : w5.cell? ⟨h + 1 + 1 + 1, 0, none⟩ = some v := p4''.cell
        have hf5 : w5.frozen? ⟨h + 1 + 1 + 1, 0, none⟩ = false := p4''.frozen
        refine hK.out _ _ hb ?_
        clear hK K
        simp only [List.setIfInBounds_toArray, List.set_cons_zero, List.set_cons_succ]
        refine wpAnyF_alone (i := 7) rfl (by kernel_rfl) (by rfl) (fun K hK => ?_)
        go_simp
        have hb := (Below.refl (h + 3) w5).setCell (p := ⟨h + 3, 0, none⟩) (Nat.le_refl _) (.slice (some ⟨g5, 0, none⟩) (2 * pre.length + 2) cap5)
        refine hK.out _ _ hb ?_
        clear hK K
        simp only [List.setIfInBounds_toArray, List.set_cons_zero, List.set_cons_succ]
        refine wpAnyF_done (by kernel_rfl) ?_ _
        refine ⟨?_, trivial, ?_⟩
        · exact ((KeepsOthers.drew W).from _).trans (((keeps_below _ hbel4).trans ((KeepsOthers.of_grownBy hg5 (own_cells hown4)).from _)).trans ((KeepsOthers.setCell _ _ _).from _))
        · have hB5 : Below h W (w5.setCell ⟨h + 3, 0, none⟩ (.slice (some ⟨g5, 0, none⟩) (2 * pre.length + 2) cap5)) := ((hbW4.mono (by have := p6.size; omega)).trans (((Below.refl (h + 3) w4).grown hg5 (by have := p4'.lt; omega) (fun k e => (hown4.lt k e).1)).mono (by omega))).setCell (p := ⟨h + 3, 0, none⟩) (by simp) _
          have kk : ∀ j, j < h + 3 → (w5.setCell ⟨h + 3, 0, none⟩ (.slice (some ⟨g5, 0, none⟩) (2 * pre.length + 2) cap5)).heap[j]? = W.heap[j]? := fun j hj => by
            rw [Below.heap_setCell _ _ _ j (by simp; omega), hg5.block j (by have := p4'.lt; omega) (fun e => by have := (hown4.lt j e.symm).1; omega), hbW4.block j (by have := p4.lt; omega)]
          refine ⟨?_, (kk h (by omega)).trans p1, (kk (h + 1) (by omega)).trans p2, (kk (h + 2) (by omega)).trans p3, ⟨_, p4''.set _, ?_⟩, p6.trans hB5⟩
          · intro k hk
            rcases List.mem_append.1 hk with hk | hk
            · exact P.out k hk
            · obtain rfl : k = x := by simpa using hk
              rw [HE.out]; exact HX.out
          · have := hown5.kept (grownBy_setCell' w5 (h + 3) (.slice (some ⟨g5, 0, none⟩) (2 * pre.length + 2) cap5)) (.inr (p4''.not_row (by decide) hown5).symm)
            rw [List.map_append, List.map_cons, List.map_nil, twoB_snoc, HE.out, List.length_append, List.length_singleton, show 2 * (pre.length + 1) = 2 * pre.length + 2 by omega]
            simpa [vU8] using this
      · go_simp
        refine (bytes4_any X _).mono ?_
        rintro e w4 ⟨b4, c4, rfl, hbel4, hl4, hm4, hge4, hlt4, n0, n1, n2, n3⟩
        have hb : Below (h + 3) W.drew w4 := hbel4.mono (by have := p4.lt; simp; omega)
        have hcut : ¬ c4 = 2 := by omega
        have hc3' : w4.cell? ⟨h + 1 + 1 + 1, 0, none⟩ = some v := (hbel4.cell (p := ⟨h + 3, 0, none⟩) (by simpa using p4.lt)).trans hc3
        have hbW4 : Below W.heap.size W w4 := (Below.refl W.heap.size W).drew.trans (hbel4.mono (Nat.le_refl _))
        have hown4 : w4.ownsRow (h + 3) 5 1 v (2 * pre.length) (vU8 (twoB (pre.map fun k => Z.getD k.val 0))) := ownsRow_below p5 hbW4
        have p4' : Boxed w4 (h + 3) 22 v := (hbel4.block _ (by simpa using p4.lt)).trans p4
        refine hK.out _ _ ⟨hb, ?_⟩
        clear hK K
        simp only [List.setIfInBounds_toArray, List.set_cons_zero, List.set_cons_succ]
        refine wpAnyF_take (i := 5) (v := ?vr5_5) (some 25) rfl rfl (by kernel_rfl) (by kernel_rfl) (by kernel_rfl) (fun _ _ _ h => h) (by rfl) ?hvr5_5 ?restr5_5
        case hvr5_5 => (intro w' hb; go_simp; try with_reducible rfl)
        simp only [Act.put, List.setIfInBounds_toArray, List.set_cons_zero, List.set_cons_succ]
        refine wpAnyF_alone (i := 0) rfl (by kernel_rfl) (by rfl) (fun K hK => ?_)
        go_simp
        refine hK.out _ _ (Below.refl _ _) ?_
        clear hK K
        simp only [List.setIfInBounds_toArray, List.set_cons_zero, List.set_cons_succ]
        refine wpAnyF_alone (i := 6) rfl (by kernel_rfl) (by rfl) (fun K hK => ?_)
        refine wp_append_own _ (.tmp 20) (.tmp 25) 22 rfl (h + 3) 5 i0 (.int .u8 0) 1 1 Tryd.underlying22 hi hz0 hz1 hz2 rfl (by decide) v _ _ rfl hown4 ⟨b4, 2, none⟩ 2 (c4 - 2) [.int .u8 (X / 256 % 256), .int .u8 (X % 256)] rfl rfl ?_ ?_ ?_ ?_ ?_ ?_
        · intro j u hj
          rcases j with _ | _ | j <;> simp at hj <;> subst hj <;> simp [add_plain, n2, n3]
        · simp [Value.oneCell']
        · simp [maxLen]; omega
        · omega
        · have := p4'.lt; omega
        intro v' w5 hown5 hg5 _
        obtain ⟨g5, cap5, rfl⟩ := ownsRow_succ hown5
        have hb : Below (h + 3) w4 w5 := (Below.refl _ _).grown hg5 (by have := p4'.lt; omega) (fun k e => (hown4.lt k e).1)
        have p4'' : Boxed w5 (h + 3) 22 v := p4'.kept hg5 (p4'.not_row (by decide) hown4)
        have hc5 : w5.cell? ⟨h + 1 + 1 + 1, 0, none⟩ = some v := p4''.cell
        have hf5 : w5.frozen? ⟨h + 1 + 1 + 1, 0, none⟩ = false := p4''.frozen
        refine hK.out _ _ hb ?_
        clear hK K
        simp only [List.setIfInBounds_toArray, List.set_cons_zero, List.set_cons_succ]
        refine wpAnyF_alone (i := 7) rfl (by kernel_rfl) (by rfl) (fun K hK => ?_)
        go_simp
        have hb := (Below.refl (h + 3) w5).setCell (p := ⟨h + 3, 0, none⟩) (Nat.le_refl _) (.slice (some ⟨g5, 0, none⟩) (2 * pre.length + 2) cap5)
        refine hK.out _ _ hb ?_
        clear hK K
        simp only [List.setIfInBounds_toArray, List.set_cons_zero, List.set_cons_succ]
        refine wpAnyF_done (by kernel_rfl) ?_ _
        refine ⟨?_, trivial, ?_⟩
        · exact ((KeepsOthers.drew W).from _).trans (((keeps_below _ hbel4).trans ((KeepsOthers.of_grownBy hg5 (own_cells hown4)).from _)).trans ((KeepsOthers.setCell _ _ _).from _))
        · have hB5 : Below h W (w5.setCell ⟨h + 3, 0, none⟩ (.slice (some ⟨g5, 0, none⟩) (2 * pre.length + 2) cap5)) := ((hbW4.mono (by have := p6.size; omega)).trans (((Below.refl (h + 3) w4).grown hg5 (by have := p4'.lt; omega) (fun k e => (hown4.lt k e).1)).mono (by omega))).setCell (p := ⟨h + 3, 0, none⟩) (by simp) _
          have kk : ∀ j, j < h + 3 → (w5.setCell ⟨h + 3, 0, none⟩ (.slice (some ⟨g5, 0, none⟩) (2 * pre.length + 2) cap5)).heap[j]? = W.heap[j]? := fun j hj => by
            rw [Below.heap_setCell _ _ _ j (by simp; omega), hg5.block j (by have := p4'.lt; omega) (fun e => by have := (hown4.lt j e.symm).1; omega), hbW4.block j (by have := p4.lt; omega)]
          refine ⟨?_, (kk h (by omega)).trans p1, (kk (h + 1) (by omega)).trans p2, (kk (h + 2) (by omega)).trans p3, ⟨_, p4''.set _, ?_⟩, p6.trans hB5⟩
          · intro k hk
            rcases List.mem_append.1 hk with hk | hk
            · exact P.out k hk
            · obtain rfl : k = x := by simpa using hk
              rw [HE.out]; exact HX.out
          · have := hown5.kept (grownBy_setCell' w5 (h + 3) (.slice (some ⟨g5, 0, none⟩) (2 * pre.length + 2) cap5)) (.inr (p4''.not_row (by decide) hown5).symm)
            rw [List.map_append, List.map_cons, List.map_nil, twoB_snoc, HE.out, List.length_append, List.length_singleton, show 2 * (pre.length + 1) = 2 * pre.length + 2 by omega]
            simpa [vU8] using this
    · have hbad : ¬ ∀ x ∈ Z, inR x := fun hall => hx (hall _ hxm)
      have HB := hid hbad
      have hx' : Z.getD x.val 0 < -32768 ∨ (-32768 ≤ Z.getD x.val 0 ∧ 32767 < Z.getD x.val 0) := by unfold inR at hx; omega
      clear hx p0 hbad hxm
      generalize Z.getD x.val 0 = X at *
      rcases hx' with hx1 | ⟨hx1, hx2⟩
      all_goals
        gi_wp2
        exact ⟨((KeepsOthers.setCell _ _ _).trans (KeepsOthers.setCell _ _ _)).from _, rfl, HB.out, (p2.set _).kept (grownBy_setCell' _ (h + 2) _) (by simp), ((p3.kept (grownBy_setCell' _ (h + 1) _) (by simp)).set _), (p6.setCell (p := ⟨h + 1, 0, none⟩) (by simp) _).setCell (p := ⟨h + 2, 0, none⟩) (by simp) _⟩
  case done =>
    rintro D xs W hD rfl ⟨p0, p1, p2, p3, ⟨v, p4, p5⟩, p6⟩ hK
    have hall : ∀ x ∈ Z, inR x := by
      intro x hx
      have := upTo_all Z hZ
      rw [← this] at hx
      obtain ⟨k, hk, rfl⟩ := List.mem_map.1 hx
      exact p0 k hk
    rw [upTo_all Z hZ, show (upTo 9).length = 9 from by decide] at p5
    have hr5 : Reads .u8 W v (twoB Z) := reads_of_owns (n := 18) p5 (twoB_wf Z)
    have SE := hid (seal_any v (twoB Z) W hr5 (H4.out W p6) (by rw [twoB_len]; omega))
    have HA := hid hall
    have HP := hid p5
    clear p0 p5 hr5 hall
    have hc3 := p4.cell
    have p6b := p6.size
    gi_wp2_with (refine ⟨trivial, ?_⟩; gi_at_call 27; refine (callsIn_wide.2 SE.out).mono ?_)
    rintro e w6 ⟨v6, rfl, hb6, hown6⟩
    rw [twoB_len, hZ] at hown6
    obtain ⟨g6, cap6, rfl⟩ := ownsRow_succ hown6
    have q2 : Boxed w6 (h + 1) 22 (.slice none 0 0) := (hb6.block _ p2.lt).trans p2
    have q3 : Boxed w6 (h + 2) 26 (.int .i64 0) := (hb6.block _ p3.lt).trans p3
    have hc1 := q2.cell
    have hf1 := q2.frozen
    have hc2 := q3.cell
    have hf2 := q3.frozen
    have hK6 : w6.heap[D]? = some (.deferred (some [])) := (hb6.block _ (Array.getElem?_eq_some_iff.1 hK).1).trans hK
    gi_wp2
    have r2 := q2.set (.slice (some ⟨g6, 0, none⟩) 20 cap6)
    have r3 : Boxed (w6.setCell ⟨h + 1, 0, none⟩ (.slice (some ⟨g6, 0, none⟩) 20 cap6)) (h + 2) 26 (.int .i64 0) := q3.kept (grownBy_setCell' _ (h + 1) _) (by simp)
    have s2 := r2.kept (grownBy_setCell' _ (h + 2) (.int .i64 0)) (by simp)
    have s3 := r3.set (.int .i64 0)
    have s4 := (hown6.kept (grownBy_setCell' w6 (h + 1) (.slice (some ⟨g6, 0, none⟩) 20 cap6)) (.inr (q2.not_row (by decide) hown6).symm))
    have s5 := s4.kept (grownBy_setCell' _ (h + 2) (.int .i64 0)) (.inr (r3.not_row (by decide) s4).symm)
    have sB : Below h w ((w6.setCell ⟨h + 1, 0, none⟩ (.slice (some ⟨g6, 0, none⟩) 20 cap6)).setCell ⟨h + 1 + 1, 0, none⟩ (.int .i64 0)) := ((p6.trans (hb6.mono (by omega))).setCell (p := ⟨h + 1, 0, none⟩) (by simp) _).setCell (p := ⟨h + 2, 0, none⟩) (by simp) _
    have sK : ((w6.setCell ⟨h + 1, 0, none⟩ (.slice (some ⟨g6, 0, none⟩) 20 cap6)).setCell ⟨h + 1 + 1, 0, none⟩ (.int .i64 0)).heap[D]? = some (.deferred (some [])) := ((KeepsOthers.setCell _ ⟨h + 2, 0, none⟩ _).same D _ ((KeepsOthers.setCell _ ⟨h + 1, 0, none⟩ _).same D _ hK6 rfl) rfl)
    generalize ((w6.setCell ⟨h + 1, 0, none⟩ (.slice (some ⟨g6, 0, none⟩) 20 cap6)).setCell ⟨h + 1 + 1, 0, none⟩ (.int .i64 0)) = V at *
    refine ⟨by simp, .inl ⟨_, _, rfl, run_takeDeferred sK, ?_⟩⟩
    have t2 := (s2.kept (grownBy_putObj' V D (.deferred none)) (fun e => by obtain rfl := Option.some.inj e; exact absurd (sK.symm.trans s2) (by simp))).cell
    have t3 := (s3.kept (grownBy_putObj' V D (.deferred none)) (fun e => by obtain rfl := Option.some.inj e; exact absurd (sK.symm.trans s3) (by simp))).cell
    refine ⟨.tuple #[.slice (some ⟨g6, 0, none⟩) 20 cap6, .int .i64 0], by simp [results, Tryd.results30, go_sem, t2, t3], ?_⟩
    refine ⟨?_, .inl ⟨HA.out, _, rfl, ?_⟩⟩
    · rw [hh]; exact sB.trans (belowK_b (w := w) (by omega) V D _ _ (by omega) sK rfl rfl)
    · exact ownsRow_putObj (own_base s5 (by omega)) _ sK rfl
  case stop =>
    rintro D c pre W hD hp ⟨rfl, p0, p2, p3, p6⟩ hK
    have hc1 := p2.cell
    have hc2 := p3.cell
    gi_wp2
    refine ⟨by simp, .inl ⟨_, _, rfl, run_takeDeferred hK, ?_⟩⟩
    have t2 := (p2.kept (grownBy_putObj' W D (.deferred none)) (fun e => by obtain rfl := Option.some.inj e; exact absurd (hK.symm.trans p2) (by simp))).cell
    have t3 := (p3.kept (grownBy_putObj' W D (.deferred none)) (fun e => by obtain rfl := Option.some.inj e; exact absurd (hK.symm.trans p3) (by simp))).cell
    refine ⟨.tuple #[.slice none 0 0, .int .i64 6], by simp [results, Tryd.results30, go_sem, t2, t3], ?_⟩
    refine ⟨?_, .inr ⟨p0, rfl⟩⟩
    rw [hh]; exact p6.trans (belowK_b (w := w) (by omega) W D _ _ (by omega) hK rfl rfl)
end Go.Proofs.YtecbfegohdllbaaDoor
