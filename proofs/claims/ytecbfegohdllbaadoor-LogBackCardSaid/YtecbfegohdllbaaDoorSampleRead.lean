/- What sample.Read returns: a contract. -/
import Derived.Test.YtecbfegohdllbaaDoorSampleRef
import Derived.Test.YtecbfegohdllbaaDoorPackE
import Derived.Test.YtecbfegohdllbaaDoorPackA
namespace Go.Proofs.YtecbfegohdllbaaDoor
open Go.RowKit Go.Shelf
attribute [local go_sem] Oper.semAt_some
set_option linter.unusedVariables false
set_option linter.unusedSimpArgs false
/-- the nine numbers of bytes -/
def nineR (L : List Int) : List Int := (List.range 9).map fun k => halfI (256 * L.getD (2 * k) 0 + L.getD (2 * k + 1) 0)
theorem nineR_len (L : List Int) : (nineR L).length = 9 := by simp [nineR]
theorem nineR_get (L : List Int) (k : Nat) (h : k < 9) : (nineR L).getD k 0 = halfI (256 * L.getD (2 * k) 0 + L.getD (2 * k + 1) 0) := by
  simp [nineR, List.getD, h]
theorem nineR_in (L : List Int) : ∀ x ∈ nineR L, inR x := by
  intro x hx
  simp only [nineR, List.mem_map] at hx
  obtain ⟨k, _, rfl⟩ := hx
  have := halfI_bd (256 * L.getD (2 * k) 0 + L.getD (2 * k + 1) 0)
  exact ⟨by omega, by omega⟩
def zeroZ : List Int := List.replicate 9 0
/-- what Read answers -/
def ReadPost (L : List Int) (w : World) (e : Ending) (w' : World) : Prop :=
  Below w.heap.size w w' ∧ ((L.length < 20 ∧ e = .returned (.tuple #[.agg (zcells zeroZ), .bool false, .int .i64 4])) ∨ (20 < L.length ∧ e = .returned (.tuple #[.agg (zcells zeroZ), .bool false, .int .i64 5])) ∨
    (L.length = 20 ∧ e = .returned (.tuple #[.agg (zcells (nineR L)), .bool (decide (L = sealL (L.take 18))), .int .i64 0])))
/-- the cells, where some are read -/
def partZ (R : List Int) (pre : List (Fin 9)) : List Int := (List.finRange 9).map fun k => if k ∈ pre then R.getD k.val 0 else 0
theorem partZ_len (R : List Int) (pre : List (Fin 9)) : (partZ R pre).length = 9 := by simp [partZ]
theorem partZ_none (R : List Int) : partZ R [] = zeroZ := by
  unfold partZ zeroZ
  apply List.ext_getElem?
  intro i
  by_cases hi : i < 9
  · rw [List.getElem?_map, List.getElem?_eq_getElem (by simpa using hi), List.getElem?_replicate, if_pos hi]; simp
  · rw [List.getElem?_eq_none (by simp; omega), List.getElem?_eq_none (by simp; omega)]
theorem partZ_all (R : List Int) (hR : R.length = 9) : partZ R (upTo 9) = R := by
  unfold partZ
  apply List.ext_getElem?
  intro i
  by_cases hi : i < 9
  · have hm : (⟨i, hi⟩ : Fin 9) ∈ upTo 9 := by
      rw [show upTo 9 = List.finRange 9 from by decide]; exact List.mem_finRange _
    rw [List.getElem?_map, List.getElem?_eq_getElem (by simpa using hi)]
    simp [hm, List.getD, List.getElem?_eq_getElem (show i < R.length by omega)]
  · rw [List.getElem?_eq_none (by simp; omega), List.getElem?_eq_none (by omega)]
theorem partZ_set (R : List Int) (pre : List (Fin 9)) (x : Fin 9) : (zcells (partZ R pre)).setIfInBounds x.val (.int .i32 (R.getD x.val 0)) = zcells (partZ R (pre ++ [x])) := by
  apply Array.ext_getElem?
  intro i
  rw [Array.getElem?_setIfInBounds, zcells_size, partZ_len]
  by_cases hi : i < 9
  · rw [zcells_get _ i (by rw [partZ_len]; exact hi), zcells_get _ i (by rw [partZ_len]; exact hi)]
    have hp : ∀ p, (partZ R p).getD i 0 = if (⟨i, hi⟩ : Fin 9) ∈ p then R.getD i 0 else 0 := fun p => by
      simp [partZ, List.getD, hi]
    rw [hp, hp]
    by_cases hx : x.val = i
    · have hxe : x = ⟨i, hi⟩ := Fin.ext hx
      subst hxe
      simp [hi]
    · rw [if_neg hx]
      have hxe : ¬ (⟨i, hi⟩ : Fin 9) = x := fun e => hx (by rw [← e])
      simp only [List.mem_append, List.mem_singleton, hxe, or_false]
  · have h1 : ∀ p, (zcells (partZ R p))[i]? = none := fun p => Array.getElem?_eq_none (by rw [zcells_size, partZ_len]; omega)
    rw [h1, h1]
    by_cases hx : x.val = i
    · rw [if_pos hx, if_neg (by omega)]
    · rw [if_neg hx]
def RdI (R : List Int) (bv : Value) (h : Nat) (w : World) (pre : List (Fin 9)) (W : World) : Prop :=
  Boxed W h 22 bv ∧ W.heap[h + 1]? = some (.cells (zcells zeroZ) 38 (0, 0)) ∧ W.heap[h + 2]? = some (.cells (zcells (partZ R pre)) 38 (0, 0)) ∧ Below h w W
theorem rdI_own {R : List Int} {bv : Value} {h : Nat} {w : World} {B : Nat} (hw : h ≤ w.heap.size) (hB : h ≤ B) : OwnFrom B (RdI R bv h w) := by
  rintro s W W' row ⟨a, b, c, f⟩ hg hr
  have hr' : ∀ r, row = some r → ∃ o : Obj, W.heap[r]? = some o ∧ o.isCells = false := fun r e => (hr r e).2
  exact ⟨blk_kept a hg hr', blk_kept b hg hr', blk_kept c hg hr', f.grown hg (Nat.le_trans hw f.size) (fun k e => Nat.le_trans hB (hr k e).1)⟩
theorem zcells_one (Z : List Int) : (zcells Z).all (·.oneCell') = true := by simp [zcells, Value.oneCell']
theorem zero_cells : zcells zeroZ = #[.int .i32 0, .int .i32 0, .int .i32 0, .int .i32 0, .int .i32 0, .int .i32 0, .int .i32 0, .int .i32 0, .int .i32 0] := rfl
set_option maxRecDepth 100000 in
theorem sread_short (a : Option Addr) (n c : Nat) (w : World) (hn : n < 20) :
    Calls Tryd.prog 32 #[.slice a n c] w fun e w' => e = .returned (.tuple #[.agg (zcells zeroZ), .bool false, .int .i64 4]) ∧ Below w.heap.size w w' := by
  rw [zero_cells]
  go_enter Tryd.func32, Tryd.ntmps32
  go_wp2
  exact bodyPost_ret (v := .tuple #[.agg #[.int .i32 0, .int .i32 0, .int .i32 0, .int .i32 0, .int .i32 0, .int .i32 0, .int .i32 0, .int .i32 0, .int .i32 0], .bool false, .int .i64 4]) (by simp [results, Tryd.results32, go_sem]) rfl ⟨rfl, ((Below.refl _ w).alloc (Nat.le_refl _) _).alloc (by simp) _⟩
set_option maxRecDepth 100000 in
theorem sread_long (a : Option Addr) (n c : Nat) (w : World) (hn : 20 < n) (hm : n ≤ 9223372036854775807) :
    Calls Tryd.prog 32 #[.slice a n c] w fun e w' => e = .returned (.tuple #[.agg (zcells zeroZ), .bool false, .int .i64 5]) ∧ Below w.heap.size w w' := by
  rw [zero_cells]
  go_enter Tryd.func32, Tryd.ntmps32
  go_wp2
  exact bodyPost_ret (v := .tuple #[.agg #[.int .i32 0, .int .i32 0, .int .i32 0, .int .i32 0, .int .i32 0, .int .i32 0, .int .i32 0, .int .i32 0, .int .i32 0], .bool false, .int .i64 5]) (by simp [results, Tryd.results32, go_sem]) rfl ⟨rfl, ((Below.refl _ w).alloc (Nat.le_refl _) _).alloc (by simp) _⟩
set_option maxRecDepth 100000 in
set_option maxHeartbeats 4000000 in
theorem sread_all (v : Value) (L : List Int) (w : World) (hr : Reads .u8 w v L) (h4 : Four w) (hL : L.length = 20) :
    Calls Tryd.prog 32 #[v] w fun e w' => e = .returned (.tuple #[.agg (zcells (nineR L)), .bool (decide (L = sealL (L.take 18))), .int .i64 0]) ∧ Below w.heap.size w w' := by
  have hwf := Reads.wf hr
  have H4 := hid (fun W (hb : Below w.heap.size w W) => h4.later hb)
  have HR := hid (fun W (hb : Below w.heap.size w W) => hr.later hb)
  obtain ⟨b, off, c, rfl, h1, h2, hlt, hcell⟩ := hr.plain (by omega)
  clear hr h4
  have HL := hid hL
  generalize hT : decide (L = sealL (L.take 18)) = T
  have HT := hid hT
  clear hT
  rw [hL] at h1 HR
  rw [hL]
  clear hL
  refine callsIn_wide.1 (?_ : CallsIn Fence.wide 10 _ _ _ _ _)
  refine callsIn_of_wp_marks Tryd.func32 rfl trivial ?_ rfl
  simp only [Tryd.ntmps32, List.size_toArray, List.length_cons, List.length_nil, Nat.reduceAdd, Nat.reduceSub, Array.replicate_succ, Array.replicate_zero, List.push_toArray, List.append_toArray, List.nil_append, List.cons_append]
  gi_wp2_with (refine ⟨trivial, ?_⟩; gi_at_call 63; refine (callsIn_wide.2 (all_any _ _)).mono ?_; rintro e w' ⟨rfl, rfl⟩)
  obtain ⟨os, hos⟩ : ∃ os, os = [Obj.cells #[.slice (some ⟨b, off, none⟩) 20 c] 22, .cells (zcells zeroZ) 38, .cells (zcells zeroZ) 38, .cells #[.pointer (some ⟨w.heap.size + 1 + 1, 0, none⟩)] 90] := ⟨_, rfl⟩
  have hol : os.length = 4 := by rw [hos]; rfl
  have hnew := fun i hi => allocs_new os w i hi
  have hsz := allocs_size os w
  have hbel := allocs_below os w w (Below.refl _ _)
  obtain ⟨W0, hW0⟩ : ∃ W0, allocs w os = W0 := ⟨_, rfl⟩
  have k0 := hnew 0 (by omega)
  have k1 := hnew 1 (by omega)
  have k2 := hnew 2 (by omega)
  have k3 := hnew 3 (by omega)
  rw [hW0] at k0 k1 k2 k3 hsz hbel
  rw [hol] at hsz
  simp only [hos, List.getElem?_cons_zero, List.getElem?_cons_succ, Nat.add_zero] at k0 k1 k2 k3
  have hWe : (((w.alloc (.cells #[.slice (some ⟨b, off, none⟩) 20 c] 22)).alloc (.cells #[.int .i32 0, .int .i32 0, .int .i32 0, .int .i32 0, .int .i32 0, .int .i32 0, .int .i32 0, .int .i32 0, .int .i32 0] 38)).alloc (.cells #[.int .i32 0, .int .i32 0, .int .i32 0, .int .i32 0, .int .i32 0, .int .i32 0, .int .i32 0, .int .i32 0, .int .i32 0] 38)).alloc (.cells #[.pointer (some ⟨w.heap.size + 1 + 1, 0, none⟩)] 90) = W0 := by rw [← hW0, hos]; rfl
  rw [hWe]
  clear hnew hW0 hol hos hWe
  generalize hh : w.heap.size = h at *
  have hc4 : W0.cell? ⟨h + 1 + 1 + 1, 0, none⟩ = some (.pointer (some ⟨h + 1 + 1, 0, none⟩)) := by rw [cell_of_row W0 (h + 1 + 1 + 1) 0 _ _ _ k3]; rfl
  refine wpIn_rangeFunc_ownG (F := Fence.wide) (n := 10) rfl (by decide) (gf := 94) (lb := #[.pointer (some ⟨h + 1 + 1 + 1, 0, none⟩)]) rfl trivial (enters_of Tryd.func94 (by kernel_rfl) rfl)
    (all_stops 9 (h + 1 + 1) (h + 1 + 1 + 1) (by decide) W0 (by omega) hc4 (fun _ _ => True)) (fun _ _ => trivial) (fun _ _ _ _ _ _ _ _ => trivial) (Below.refl _ _) (fun _ => rfl)
    (RdI (nineR L) (.slice (some ⟨b, off, none⟩) 20 c) h w) (fun _ _ _ => False) (rdI_own (by omega) (by omega)) (fun _ _ _ _ _ hs _ _ => hs) ?start
    (fun x => { tmps := #[.slice (some ⟨b, off, none⟩) 20 c, .pointer (some ⟨h, 0, none⟩), .pointer (some ⟨h + 1, 0, none⟩), .bool false, .int .i64 0, .pointer (some ⟨h + 1 + 1, 0, none⟩), .int .i64 (x.val : Int), .pointer (some ⟨h + 1 + 1, x.val, none⟩), undef, undef, .bool false, .slice (some ⟨b, off, none⟩) 20 c, .int .i64 20, .bool false, undef, .bool false, .slice (some ⟨b, off, none⟩) 20 c, .int .i64 20, .bool false, undef, .func (.func 94) #[] #[.pointer (some ⟨h + 1 + 1 + 1, 0, none⟩)], .int .i64 (x.val : Int), .pointer (some ⟨h + 1 + 1, x.val, none⟩), undef, undef, undef, undef, undef, undef, undef, undef, undef, undef, undef, undef, undef, undef, undef, undef, undef, undef, undef, undef, undef, undef], defers := [] }) ?assign ?body ?done ?stop
  case start => exact ⟨k0, k1, k2.trans (by rw [partZ_none]), hbel⟩
  case assign =>
    intro l x W K hK
    gi_wp2
    exact hK
  case body =>
    rintro l pre x W ⟨p0, p1, p2, p6⟩ hlen
    have hx9 := x.isLt
    have PS := hid (partZ_set (nineR L) pre x)
    have NG := hid (nineR_get L x.val hx9)
    generalize hj : x.val = j at *
    have HJ := hid hj
    clear hj
    obtain ⟨ka, hka⟩ : ∃ ka, ka = 2 * j := ⟨_, rfl⟩
    obtain ⟨kb, hkb⟩ : ∃ kb, kb = 2 * j + 1 := ⟨_, rfl⟩
    have e1 : IntKind.i64.wrap (2 * (j : Int)) = (ka : Int) := by rw [IntWalk.i64_in _ (by omega)]; omega
    have e2 : IntKind.i64.wrap ((ka : Int) + 1) = (kb : Int) := by rw [IntWalk.i64_in _ (by omega)]; omega
    have hka20 : ka < 20 := by omega
    have hkb20 : kb < 20 := by omega
    have hka20' : (ka : Int) < 20 := by omega
    have hkb20' : (kb : Int) < 20 := by omega
    have ca : W.cell? ⟨b, off + ka, none⟩ = some (.int .u8 (L.getD ka 0)) := by
      have := (p6.cell (p := ⟨b, off + ka, none⟩) hlt).trans (hcell ka (by have := HL.out; omega))
      rw [List.getD_eq_getElem?_getD, List.getElem?_eq_getElem (by have := HL.out; omega)]; exact this
    have cb : W.cell? ⟨b, off + kb, none⟩ = some (.int .u8 (L.getD kb 0)) := by
      have := (p6.cell (p := ⟨b, off + kb, none⟩) hlt).trans (hcell kb (by have := HL.out; omega))
      rw [List.getD_eq_getElem?_getD, List.getElem?_eq_getElem (by have := HL.out; omega)]; exact this
    have ba := bd_u8 (hwf (L.getD ka 0) (by rw [List.getD_eq_getElem?_getD, List.getElem?_eq_getElem (by have := HL.out; omega)]; exact List.getElem_mem _))
    have bb := bd_u8 (hwf (L.getD kb 0) (by rw [List.getD_eq_getElem?_getD, List.getElem?_eq_getElem (by have := HL.out; omega)]; exact List.getElem_mem _))
    rw [← hkb, ← hka] at NG
    clear hka hkb
    generalize L.getD ka 0 = xa at *
    generalize L.getD kb 0 = xb at *
    have hc0 := p0.cell
    have hcs := cell_of_row W (h + 2) j _ _ _ p2
    rw [zcells_get _ j (by rw [partZ_len]; exact hx9)] at hcs
    have hfs := frozen_of_row W (h + 2) j _ _ p2
    have hbd := halfI_bd (256 * xa + xb)
    generalize (partZ (nineR L) pre).getD j 0 = old at *
    gi_wp2
    refine wpIn_region_F (B := h + 2) (k := 15) (ls := #[false, false, false, false, false, false, false, false, false, false, false, false, false, false, false]) (by kernel_rfl) (by kernel_rfl) (by kernel_rfl) (by kernel_rfl) (by rintro ⟨_, _, h⟩; exact h) ?_
    refine wpAnyF_take (i := 0) (v := ?vr0_1) (some 23) rfl rfl (by kernel_rfl) (by kernel_rfl) (by kernel_rfl) (fun _ _ _ h => h) (by rfl) ?hvr0_1 ?restr0_1
    case hvr0_1 => (intro w' hb; go_simp; try with_reducible rfl)
    simp only [Act.put, List.setIfInBounds_toArray, List.set_cons_zero, List.set_cons_succ]
    refine wpAnyF_take (i := 1) (v := ?vr1_2) (some 24) rfl rfl (by kernel_rfl) (by kernel_rfl) (by kernel_rfl) (fun _ _ _ h => h) (by rfl) ?hvr1_2 ?restr1_2
    case hvr1_2 => (intro w' hb; (have hbx := (hb.cell (p := ⟨h, 0, none⟩) (by simp)).trans hc0; go_simp; try with_reducible rfl))
    simp only [Act.put, List.setIfInBounds_toArray, List.set_cons_zero, List.set_cons_succ]
    refine wpAnyF_take (i := 2) (v := ?vr2_3) (some 25) rfl rfl (by kernel_rfl) (by kernel_rfl) (by kernel_rfl) (fun _ _ _ h => h) (by rfl) ?hvr2_3 ?restr2_3
    case hvr2_3 => (intro w' hb; go_simp; try with_reducible rfl)
    simp only [Act.put, List.setIfInBounds_toArray, List.set_cons_zero, List.set_cons_succ]
    refine wpAnyF_take (i := 3) (v := ?vr3_4) (some 26) rfl rfl (by kernel_rfl) (by kernel_rfl) (by kernel_rfl) (fun _ _ _ h => h) (by rfl) ?hvr3_4 ?restr3_4
    case hvr3_4 => (intro w' hb; go_simp; try with_reducible rfl)
    simp only [Act.put, List.setIfInBounds_toArray, List.set_cons_zero, List.set_cons_succ]
    refine wpAnyF_take (i := 4) (v := ?vr4_5) (some 27) rfl rfl (by kernel_rfl) (by kernel_rfl) (by kernel_rfl) (fun _ _ _ h => h) (by rfl) ?hvr4_5 ?restr4_5
    case hvr4_5 => (intro w' hb; go_simp; try with_reducible rfl)
    simp only [Act.put, List.setIfInBounds_toArray, List.set_cons_zero, List.set_cons_succ]
    refine wpAnyF_take (i := 5) (v := ?vr5_6) (some 28) rfl rfl (by kernel_rfl) (by kernel_rfl) (by kernel_rfl) (fun _ _ _ h => h) (by rfl) ?hvr5_6 ?restr5_6
    case hvr5_6 => (intro w' hb; (have hcw := (hb.cell (p := ⟨b, off + ka, none⟩) (by simp; omega)).trans ca; go_simp; try with_reducible rfl))
    simp only [Act.put, List.setIfInBounds_toArray, List.set_cons_zero, List.set_cons_succ]
    refine wpAnyF_take (i := 6) (v := ?vr6_7) (some 29) rfl rfl (by kernel_rfl) (by kernel_rfl) (by kernel_rfl) (fun _ _ _ h => h) (by rfl) ?hvr6_7 ?restr6_7
    case hvr6_7 => (intro w' hb; (have hbx := (hb.cell (p := ⟨h, 0, none⟩) (by simp)).trans hc0; go_simp; try with_reducible rfl))
    simp only [Act.put, List.setIfInBounds_toArray, List.set_cons_zero, List.set_cons_succ]
    refine wpAnyF_take (i := 7) (v := ?vr7_8) (some 30) rfl rfl (by kernel_rfl) (by kernel_rfl) (by kernel_rfl) (fun _ _ _ h => h) (by rfl) ?hvr7_8 ?restr7_8
    case hvr7_8 => (intro w' hb; go_simp; try with_reducible rfl)
    simp only [Act.put, List.setIfInBounds_toArray, List.set_cons_zero, List.set_cons_succ]
    refine wpAnyF_take (i := 8) (v := ?vr8_9) (some 31) rfl rfl (by kernel_rfl) (by kernel_rfl) (by kernel_rfl) (fun _ _ _ h => h) (by rfl) ?hvr8_9 ?restr8_9
    case hvr8_9 => (intro w' hb; go_simp; try with_reducible rfl)
    simp only [Act.put, List.setIfInBounds_toArray, List.set_cons_zero, List.set_cons_succ]
    refine wpAnyF_take (i := 9) (v := ?vr9_10) (some 32) rfl rfl (by kernel_rfl) (by kernel_rfl) (by kernel_rfl) (fun _ _ _ h => h) (by rfl) ?hvr9_10 ?restr9_10
    case hvr9_10 => (intro w' hb; go_simp; try with_reducible rfl)
    simp only [Act.put, List.setIfInBounds_toArray, List.set_cons_zero, List.set_cons_succ]
    refine wpAnyF_take (i := 10) (v := ?vr10_11) (some 33) rfl rfl (by kernel_rfl) (by kernel_rfl) (by kernel_rfl) (fun _ _ _ h => h) (by rfl) ?hvr10_11 ?restr10_11
    case hvr10_11 => (intro w' hb; go_simp; try with_reducible rfl)
    simp only [Act.put, List.setIfInBounds_toArray, List.set_cons_zero, List.set_cons_succ]
    refine wpAnyF_take (i := 11) (v := ?vr11_12) (some 34) rfl rfl (by kernel_rfl) (by kernel_rfl) (by kernel_rfl) (fun _ _ _ h => h) (by rfl) ?hvr11_12 ?restr11_12
    case hvr11_12 => (intro w' hb; (have hcw := (hb.cell (p := ⟨b, off + kb, none⟩) (by simp; omega)).trans cb; go_simp; try with_reducible rfl))
    simp only [Act.put, List.setIfInBounds_toArray, List.set_cons_zero, List.set_cons_succ]
    refine wpAnyF_alone (i := 12) rfl (by kernel_rfl) (by rfl) (fun K hK => ?_)
    go_simp
    refine (pair_any xa xb _ ba bb).mono ?_
    rintro e w4 ⟨rfl, rfl⟩
    refine hK.out _ _ (Below.refl _ _) ?_
    clear hK K
    simp only [List.setIfInBounds_toArray, List.set_cons_zero, List.set_cons_succ]
    refine wpAnyF_take (i := 13) (v := ?vr13_13) (some 36) rfl rfl (by kernel_rfl) (by kernel_rfl) (by kernel_rfl) (fun _ _ _ h => h) (by rfl) ?hvr13_13 ?restr13_13
    case hvr13_13 => (intro w' hb; go_simp; try with_reducible rfl)
    simp only [Act.put, List.setIfInBounds_toArray, List.set_cons_zero, List.set_cons_succ]
    refine wpAnyF_alone (i := 14) rfl (by kernel_rfl) (by rfl) (fun K hK => ?_)
    go_simp
    have hb := (Below.refl (h + 2) W.drew).setCell (p := ⟨h + 2, j, none⟩) (Nat.le_refl _) (.int .i32 (halfI (256 * xa + xb)))
    refine hK.out _ _ hb ?_
    clear hK K
    simp only [List.setIfInBounds_toArray, List.set_cons_zero, List.set_cons_succ]
    refine wpAnyF_done (by kernel_rfl) ?_ _
    refine ⟨((KeepsOthers.drew W).trans (KeepsOthers.setCell _ _ _)).from _, trivial, ?_⟩
    have kk : ∀ i, i < h + 2 → (W.drew.setCell ⟨h + 1 + 1, j, none⟩ (.int .i32 (halfI (256 * xa + xb)))).heap[i]? = W.heap[i]? := fun i hi => Below.heap_setCell _ _ _ i (by simp; omega)
    refine ⟨(kk h (by omega)).trans p0, (kk (h + 1) (by omega)).trans p1, ?_, (p6.trans ((Below.refl h W).drew)).setCell (p := ⟨h + 2, j, none⟩) (by simp) _⟩
    rw [← PS.out, NG.out]
    simp [World.setCell, Array.getElem?_modify, World.drew, p2]
  case done =>
    rintro D xs W hD rfl ⟨p0, p1, p2, p6⟩ hK
    rw [partZ_all _ (nineR_len L)] at p2
    have hc0 := p0.cell
    have hrW := HR.out W p6
    have F4 := H4.out W p6
    have p6b := p6.size
    have hL := HL.out
    by_cases hok : L = sealL (L.take 18)
    · have OP := hid (open_ok _ L 18 hL W hrW F4 hok (by omega))
      obtain rfl : T = true := by rw [← HT.out]; simpa using hok
      clear hrW F4 hok hL
      gi_wp2_with (refine ⟨trivial, ?_⟩; gi_at_call 22; refine (callsIn_wide.2 OP.out).mono ?_)
      rintro e w6 ⟨v6, rfl, hb6, hown6⟩
      have q1 : w6.heap[h + 1]? = some (.cells (zcells zeroZ) 38 (0, 0)) := (hb6.block _ (Array.getElem?_eq_some_iff.1 p1).1).trans p1
      have q2 : w6.heap[h + 2]? = some (.cells (zcells (nineR L)) 38 (0, 0)) := (hb6.block _ (Array.getElem?_eq_some_iff.1 p2).1).trans p2
      have hK6 : w6.heap[D]? = some (.deferred (some [])) := (hb6.block _ (Array.getElem?_eq_some_iff.1 hK).1).trans hK
      clear hown6
      have hs2 : (zcells (nineR L)).size = 9 := by rw [zcells_size, nineR_len]
      have hs0 : (zcells zeroZ).size = 9 := rfl
      gi_wp2_with (first | ((with_reducible refine at_opIn (.load 38 (.tmp 5)) ?_); refine opIn_wide rfl (fun K hK => ?_); refine wp_load_row 38 (.tmp 5) rfl (h + 2) rfl _ _ _ _ q2 Tryd.underlying38 rfl (by rw [hs2]; kernel_rfl) (hK _ _ ?_)) | ((with_reducible refine at_opIn (.store 38 (.tmp 2) (.tmp 42)) ?_); refine opIn_wide rfl (fun K hK => ?_); refine wp_store_row 38 (.tmp 2) (.tmp 42) rfl (h + 1) (zcells (nineR L)) rfl rfl _ _ q1 (by rw [hs2]; kernel_rfl) (by rw [hs2, hs0]) (zcells_one _) (hK _ _ ?_)))
      have s1 := setRow_heap w6 (h + 1) _ (zcells (nineR L)) _ _ q1
      have sB : Below h w (w6.setRow (h + 1) (zcells (nineR L))) := below_setRow (p6.trans (hb6.mono (by omega))) (by omega) _
      have hne : D ≠ h + 1 := by omega
      have sK : (w6.setRow (h + 1) (zcells (nineR L))).heap[D]? = some (.deferred (some [])) := (setRow_other _ _ _ _ hne).trans hK6
      generalize w6.setRow (h + 1) (zcells (nineR L)) = V at *
      refine ⟨by simp, .inl ⟨_, _, rfl, run_takeDeferred sK, ?_⟩⟩
      have t1 : (V.putObj D (.deferred none)).heap[h + 1]? = some (.cells (zcells (nineR L)) 38 (0, 0)) := (World.putObj_heap_other (by omega)).trans s1
      have lv := run_loadVar_row (P := Tryd.prog) _ (h + 1) _ 38 _ _ _ t1 Tryd.underlying38 rfl (by rw [hs2]; kernel_rfl)
      refine ⟨.tuple #[.agg (zcells (nineR L)), .bool true, .int .i64 0], by simp [results, Tryd.results32, asAddr, lv], rfl, ?_⟩
      rw [hh]; exact sB.trans (belowK_b (w := w) (by omega) V D _ _ (by omega) sK rfl rfl)
    · have OP := hid (open_bad _ L 18 hL W hrW F4 hok)
      obtain rfl : T = false := by rw [← HT.out]; simpa using hok
      clear hrW F4 hok hL
      gi_wp2_with (refine ⟨trivial, ?_⟩; gi_at_call 22; refine (callsIn_wide.2 OP.out).mono ?_)
      rintro e w6 ⟨rfl, hb6⟩
      have q1 : w6.heap[h + 1]? = some (.cells (zcells zeroZ) 38 (0, 0)) := (hb6.block _ (Array.getElem?_eq_some_iff.1 p1).1).trans p1
      have q2 : w6.heap[h + 2]? = some (.cells (zcells (nineR L)) 38 (0, 0)) := (hb6.block _ (Array.getElem?_eq_some_iff.1 p2).1).trans p2
      have hK6 : w6.heap[D]? = some (.deferred (some [])) := (hb6.block _ (Array.getElem?_eq_some_iff.1 hK).1).trans hK
      have hs2 : (zcells (nineR L)).size = 9 := by rw [zcells_size, nineR_len]
      have hs0 : (zcells zeroZ).size = 9 := rfl
      gi_wp2_with (first | ((with_reducible refine at_opIn (.load 38 (.tmp 5)) ?_); refine opIn_wide rfl (fun K hK => ?_); refine wp_load_row 38 (.tmp 5) rfl (h + 2) rfl _ _ _ _ q2 Tryd.underlying38 rfl (by rw [hs2]; kernel_rfl) (hK _ _ ?_)) | ((with_reducible refine at_opIn (.store 38 (.tmp 2) (.tmp 42)) ?_); refine opIn_wide rfl (fun K hK => ?_); refine wp_store_row 38 (.tmp 2) (.tmp 42) rfl (h + 1) (zcells (nineR L)) rfl rfl _ _ q1 (by rw [hs2]; kernel_rfl) (by rw [hs2, hs0]) (zcells_one _) (hK _ _ ?_)))
      have s1 := setRow_heap w6 (h + 1) _ (zcells (nineR L)) _ _ q1
      have sB : Below h w (w6.setRow (h + 1) (zcells (nineR L))) := below_setRow (p6.trans (hb6.mono (by omega))) (by omega) _
      have hne : D ≠ h + 1 := by omega
      have sK : (w6.setRow (h + 1) (zcells (nineR L))).heap[D]? = some (.deferred (some [])) := (setRow_other _ _ _ _ hne).trans hK6
      generalize w6.setRow (h + 1) (zcells (nineR L)) = V at *
      refine ⟨by simp, .inl ⟨_, _, rfl, run_takeDeferred sK, ?_⟩⟩
      have t1 : (V.putObj D (.deferred none)).heap[h + 1]? = some (.cells (zcells (nineR L)) 38 (0, 0)) := (World.putObj_heap_other (by omega)).trans s1
      have lv := run_loadVar_row (P := Tryd.prog) _ (h + 1) _ 38 _ _ _ t1 Tryd.underlying38 rfl (by rw [hs2]; kernel_rfl)
      refine ⟨.tuple #[.agg (zcells (nineR L)), .bool false, .int .i64 0], by simp [results, Tryd.results32, asAddr, lv], rfl, ?_⟩
      rw [hh]; exact sB.trans (belowK_b (w := w) (by omega) V D _ _ (by omega) sK rfl rfl)
  case stop =>
    rintro D c pre W hD hp hf hK
    exact hf.elim
end Go.Proofs.YtecbfegohdllbaaDoor
