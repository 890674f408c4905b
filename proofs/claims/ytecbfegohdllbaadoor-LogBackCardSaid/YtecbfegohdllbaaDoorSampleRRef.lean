/- The reference of layer 31 (sample): what Read returns. -/
import Derived.Test.YtecbfegohdllbaaDoorSampleRead
namespace Go.Proofs.YtecbfegohdllbaaDoor
open Go.RowKit
set_option linter.unusedVariables false
set_option linter.unusedSimpArgs false
theorem getD_eq {l : List Int} {i : Nat} (h : i < l.length) : l.getD i 0 = l[i] := by rw [List.getD_eq_getElem?_getD, List.getElem?_eq_getElem h]; rfl
theorem lt_of_row {w : World} {g : Nat} {o : Obj} (h : w.heap[g]? = some o) : g < w.heap.size := (Array.getElem?_eq_some_iff.1 h).1
set_option maxRecDepth 100000 in
set_option maxHeartbeats 1000000 in
theorem rof9_any (v : Value) (R : List Int) (hR : R.length = 9) (w : World) (hr : Reads .i32 w v R) :
    Calls Tryd.prog 68 #[v] w fun e w' => e = .returned (.agg (zcells R)) ∧ Below w.heap.size w w' := by
  obtain ⟨b, off, c, rfl, h1, h2, hlt, hcell⟩ := hr.plain (by omega)
  obtain ⟨z0, z1, z2, z3, z4, z5, z6, z7, z8, rfl⟩ := nine_list R hR
  clear hr hR
  have c0 : w.cell? ⟨b, off, none⟩ = some (.int .i32 z0) := hcell 0 (by simp)
  have c1 : w.cell? ⟨b, off + 1, none⟩ = some (.int .i32 z1) := hcell 1 (by simp)
  have c2 : w.cell? ⟨b, off + 2, none⟩ = some (.int .i32 z2) := hcell 2 (by simp)
  have c3 : w.cell? ⟨b, off + 3, none⟩ = some (.int .i32 z3) := hcell 3 (by simp)
  have c4 : w.cell? ⟨b, off + 4, none⟩ = some (.int .i32 z4) := hcell 4 (by simp)
  have c5 : w.cell? ⟨b, off + 5, none⟩ = some (.int .i32 z5) := hcell 5 (by simp)
  have c6 : w.cell? ⟨b, off + 6, none⟩ = some (.int .i32 z6) := hcell 6 (by simp)
  have c7 : w.cell? ⟨b, off + 7, none⟩ = some (.int .i32 z7) := hcell 7 (by simp)
  have c8 : w.cell? ⟨b, off + 8, none⟩ = some (.int .i32 z8) := hcell 8 (by simp)
  clear hcell
  have hz : zcells [z0, z1, z2, z3, z4, z5, z6, z7, z8] = #[.int .i32 z0, .int .i32 z1, .int .i32 z2, .int .i32 z3, .int .i32 z4, .int .i32 z5, .int .i32 z6, .int .i32 z7, .int .i32 z8] := rfl
  rw [hz]
  clear hz
  simp only [List.length_cons, List.length_nil, Nat.zero_add, Nat.reduceAdd] at *
  go_enter Tryd.func68, Tryd.ntmps68
  go_wp2_with fail
  have hb0 : Below w.heap.size w (w.alloc (.cells #[.int .i32 0, .int .i32 0, .int .i32 0, .int .i32 0, .int .i32 0, .int .i32 0, .int .i32 0, .int .i32 0, .int .i32 0] 38)).drew := ((Below.refl _ w).alloc (Nat.le_refl _) _).drew
  refine wp_region_F' (B := w.heap.size) (n := 32) (l := #[false, false, false, false, false, false, false, false, false, false, false, false, false, false, false, false, false, false, false, false, false, false, false, false, false, false, false, false, false, false, false, false]) (by kernel_rfl) (by kernel_rfl) (by kernel_rfl) ?_
  refine wpAnyF_take (i := 0) (v := ?vr0_1) (some 3) rfl rfl (by kernel_rfl) (by kernel_rfl) (by kernel_rfl) (fun _ _ _ h => h) (by rfl) ?hvr0_1 ?restr0_1
  case hvr0_1 => (intro w' hb; go_simp; try with_reducible rfl)
  simp only [Act.put, List.setIfInBounds_toArray, List.set_cons_zero, List.set_cons_succ]
  refine wpAnyF_take (i := 1) (v := ?vr1_2) (some 4) rfl rfl (by kernel_rfl) (by kernel_rfl) (by kernel_rfl) (fun _ _ _ h => h) (by rfl) ?hvr1_2 ?restr1_2
  case hvr1_2 => (intro w' hb; go_simp; try with_reducible rfl)
  simp only [Act.put, List.setIfInBounds_toArray, List.set_cons_zero, List.set_cons_succ]
  refine wpAnyF_take (i := 2) (v := ?vr2_3) (some 5) rfl rfl (by kernel_rfl) (by kernel_rfl) (by kernel_rfl) (fun _ _ _ h => h) (by rfl) ?hvr2_3 ?restr2_3
  case hvr2_3 => (intro w' hb; (have hcw := ((hb0.trans hb).cell (p := ⟨b, off, none⟩) (by simp; omega)).trans c0; go_simp; try with_reducible rfl))
  simp only [Act.put, List.setIfInBounds_toArray, List.set_cons_zero, List.set_cons_succ]
  refine wpAnyF_take (i := 3) (v := ?vr3_4) (some 6) rfl rfl (by kernel_rfl) (by kernel_rfl) (by kernel_rfl) (fun _ _ _ h => h) (by rfl) ?hvr3_4 ?restr3_4
  case hvr3_4 => (intro w' hb; go_simp; try with_reducible rfl)
  simp only [Act.put, List.setIfInBounds_toArray, List.set_cons_zero, List.set_cons_succ]
  refine wpAnyF_take (i := 4) (v := ?vr4_5) (some 7) rfl rfl (by kernel_rfl) (by kernel_rfl) (by kernel_rfl) (fun _ _ _ h => h) (by rfl) ?hvr4_5 ?restr4_5
  case hvr4_5 => (intro w' hb; go_simp; try with_reducible rfl)
  simp only [Act.put, List.setIfInBounds_toArray, List.set_cons_zero, List.set_cons_succ]
  refine wpAnyF_take (i := 5) (v := ?vr5_6) (some 8) rfl rfl (by kernel_rfl) (by kernel_rfl) (by kernel_rfl) (fun _ _ _ h => h) (by rfl) ?hvr5_6 ?restr5_6
  case hvr5_6 => (intro w' hb; (have hcw := ((hb0.trans hb).cell (p := ⟨b, off + 1, none⟩) (by simp; omega)).trans c1; go_simp; try with_reducible rfl))
  simp only [Act.put, List.setIfInBounds_toArray, List.set_cons_zero, List.set_cons_succ]
  refine wpAnyF_take (i := 6) (v := ?vr6_7) (some 9) rfl rfl (by kernel_rfl) (by kernel_rfl) (by kernel_rfl) (fun _ _ _ h => h) (by rfl) ?hvr6_7 ?restr6_7
  case hvr6_7 => (intro w' hb; go_simp; try with_reducible rfl)
  simp only [Act.put, List.setIfInBounds_toArray, List.set_cons_zero, List.set_cons_succ]
  refine wpAnyF_take (i := 7) (v := ?vr7_8) (some 10) rfl rfl (by kernel_rfl) (by kernel_rfl) (by kernel_rfl) (fun _ _ _ h => h) (by rfl) ?hvr7_8 ?restr7_8
  case hvr7_8 => (intro w' hb; go_simp; try with_reducible rfl)
  simp only [Act.put, List.setIfInBounds_toArray, List.set_cons_zero, List.set_cons_succ]
  refine wpAnyF_take (i := 8) (v := ?vr8_9) (some 11) rfl rfl (by kernel_rfl) (by kernel_rfl) (by kernel_rfl) (fun _ _ _ h => h) (by rfl) ?hvr8_9 ?restr8_9
  case hvr8_9 => (intro w' hb; (have hcw := ((hb0.trans hb).cell (p := ⟨b, off + 2, none⟩) (by simp; omega)).trans c2; go_simp; try with_reducible rfl))
  simp only [Act.put, List.setIfInBounds_toArray, List.set_cons_zero, List.set_cons_succ]
  refine wpAnyF_take (i := 9) (v := ?vr9_10) (some 12) rfl rfl (by kernel_rfl) (by kernel_rfl) (by kernel_rfl) (fun _ _ _ h => h) (by rfl) ?hvr9_10 ?restr9_10
  case hvr9_10 => (intro w' hb; go_simp; try with_reducible rfl)
  simp only [Act.put, List.setIfInBounds_toArray, List.set_cons_zero, List.set_cons_succ]
  refine wpAnyF_take (i := 10) (v := ?vr10_11) (some 13) rfl rfl (by kernel_rfl) (by kernel_rfl) (by kernel_rfl) (fun _ _ _ h => h) (by rfl) ?hvr10_11 ?restr10_11
  case hvr10_11 => (intro w' hb; go_simp; try with_reducible rfl)
  simp only [Act.put, List.setIfInBounds_toArray, List.set_cons_zero, List.set_cons_succ]
  refine wpAnyF_take (i := 11) (v := ?vr11_12) (some 14) rfl rfl (by kernel_rfl) (by kernel_rfl) (by kernel_rfl) (fun _ _ _ h => h) (by rfl) ?hvr11_12 ?restr11_12
  case hvr11_12 => (intro w' hb; go_simp; try with_reducible rfl)
  simp only [Act.put, List.setIfInBounds_toArray, List.set_cons_zero, List.set_cons_succ]
  refine wpAnyF_take (i := 12) (v := ?vr12_13) (some 15) rfl rfl (by kernel_rfl) (by kernel_rfl) (by kernel_rfl) (fun _ _ _ h => h) (by rfl) ?hvr12_13 ?restr12_13
  case hvr12_13 => (intro w' hb; (have hcw := ((hb0.trans hb).cell (p := ⟨b, off + 3, none⟩) (by simp; omega)).trans c3; go_simp; try with_reducible rfl))
  simp only [Act.put, List.setIfInBounds_toArray, List.set_cons_zero, List.set_cons_succ]
  refine wpAnyF_take (i := 13) (v := ?vr13_14) (some 16) rfl rfl (by kernel_rfl) (by kernel_rfl) (by kernel_rfl) (fun _ _ _ h => h) (by rfl) ?hvr13_14 ?restr13_14
  case hvr13_14 => (intro w' hb; go_simp; try with_reducible rfl)
  simp only [Act.put, List.setIfInBounds_toArray, List.set_cons_zero, List.set_cons_succ]
  refine wpAnyF_take (i := 14) (v := ?vr14_15) (some 17) rfl rfl (by kernel_rfl) (by kernel_rfl) (by kernel_rfl) (fun _ _ _ h => h) (by rfl) ?hvr14_15 ?restr14_15
  case hvr14_15 => (intro w' hb; go_simp; try with_reducible rfl)
  simp only [Act.put, List.setIfInBounds_toArray, List.set_cons_zero, List.set_cons_succ]
  refine wpAnyF_take (i := 15) (v := ?vr15_16) (some 18) rfl rfl (by kernel_rfl) (by kernel_rfl) (by kernel_rfl) (fun _ _ _ h => h) (by rfl) ?hvr15_16 ?restr15_16
  case hvr15_16 => (intro w' hb; (have hcw := ((hb0.trans hb).cell (p := ⟨b, off + 4, none⟩) (by simp; omega)).trans c4; go_simp; try with_reducible rfl))
  simp only [Act.put, List.setIfInBounds_toArray, List.set_cons_zero, List.set_cons_succ]
  refine wpAnyF_take (i := 16) (v := ?vr16_17) (some 19) rfl rfl (by kernel_rfl) (by kernel_rfl) (by kernel_rfl) (fun _ _ _ h => h) (by rfl) ?hvr16_17 ?restr16_17
  case hvr16_17 => (intro w' hb; go_simp; try with_reducible rfl)
  simp only [Act.put, List.setIfInBounds_toArray, List.set_cons_zero, List.set_cons_succ]
  refine wpAnyF_take (i := 17) (v := ?vr17_18) (some 20) rfl rfl (by kernel_rfl) (by kernel_rfl) (by kernel_rfl) (fun _ _ _ h => h) (by rfl) ?hvr17_18 ?restr17_18
  case hvr17_18 => (intro w' hb; go_simp; try with_reducible rfl)
  simp only [Act.put, List.setIfInBounds_toArray, List.set_cons_zero, List.set_cons_succ]
  refine wpAnyF_take (i := 18) (v := ?vr18_19) (some 21) rfl rfl (by kernel_rfl) (by kernel_rfl) (by kernel_rfl) (fun _ _ _ h => h) (by rfl) ?hvr18_19 ?restr18_19
  case hvr18_19 => (intro w' hb; (have hcw := ((hb0.trans hb).cell (p := ⟨b, off + 5, none⟩) (by simp; omega)).trans c5; go_simp; try with_reducible rfl))
  simp only [Act.put, List.setIfInBounds_toArray, List.set_cons_zero, List.set_cons_succ]
  refine wpAnyF_take (i := 19) (v := ?vr19_20) (some 22) rfl rfl (by kernel_rfl) (by kernel_rfl) (by kernel_rfl) (fun _ _ _ h => h) (by rfl) ?hvr19_20 ?restr19_20
  case hvr19_20 => (intro w' hb; go_simp; try with_reducible rfl)
  simp only [Act.put, List.setIfInBounds_toArray, List.set_cons_zero, List.set_cons_succ]
  refine wpAnyF_take (i := 20) (v := ?vr20_21) (some 23) rfl rfl (by kernel_rfl) (by kernel_rfl) (by kernel_rfl) (fun _ _ _ h => h) (by rfl) ?hvr20_21 ?restr20_21
  case hvr20_21 => (intro w' hb; go_simp; try with_reducible rfl)
  simp only [Act.put, List.setIfInBounds_toArray, List.set_cons_zero, List.set_cons_succ]
  refine wpAnyF_take (i := 21) (v := ?vr21_22) (some 24) rfl rfl (by kernel_rfl) (by kernel_rfl) (by kernel_rfl) (fun _ _ _ h => h) (by rfl) ?hvr21_22 ?restr21_22
  case hvr21_22 => (intro w' hb; go_simp; try with_reducible rfl)
  simp only [Act.put, List.setIfInBounds_toArray, List.set_cons_zero, List.set_cons_succ]
  refine wpAnyF_take (i := 22) (v := ?vr22_23) (some 25) rfl rfl (by kernel_rfl) (by kernel_rfl) (by kernel_rfl) (fun _ _ _ h => h) (by rfl) ?hvr22_23 ?restr22_23
  case hvr22_23 => (intro w' hb; (have hcw := ((hb0.trans hb).cell (p := ⟨b, off + 6, none⟩) (by simp; omega)).trans c6; go_simp; try with_reducible rfl))
  simp only [Act.put, List.setIfInBounds_toArray, List.set_cons_zero, List.set_cons_succ]
  refine wpAnyF_take (i := 23) (v := ?vr23_24) (some 26) rfl rfl (by kernel_rfl) (by kernel_rfl) (by kernel_rfl) (fun _ _ _ h => h) (by rfl) ?hvr23_24 ?restr23_24
  case hvr23_24 => (intro w' hb; go_simp; try with_reducible rfl)
  simp only [Act.put, List.setIfInBounds_toArray, List.set_cons_zero, List.set_cons_succ]
  refine wpAnyF_take (i := 24) (v := ?vr24_25) (some 27) rfl rfl (by kernel_rfl) (by kernel_rfl) (by kernel_rfl) (fun _ _ _ h => h) (by rfl) ?hvr24_25 ?restr24_25
  case hvr24_25 => (intro w' hb; go_simp; try with_reducible rfl)
  simp only [Act.put, List.setIfInBounds_toArray, List.set_cons_zero, List.set_cons_succ]
  refine wpAnyF_take (i := 25) (v := ?vr25_26) (some 28) rfl rfl (by kernel_rfl) (by kernel_rfl) (by kernel_rfl) (fun _ _ _ h => h) (by rfl) ?hvr25_26 ?restr25_26
  case hvr25_26 => (intro w' hb; (have hcw := ((hb0.trans hb).cell (p := ⟨b, off + 7, none⟩) (by simp; omega)).trans c7; go_simp; try with_reducible rfl))
  simp only [Act.put, List.setIfInBounds_toArray, List.set_cons_zero, List.set_cons_succ]
  refine wpAnyF_take (i := 26) (v := ?vr26_27) (some 29) rfl rfl (by kernel_rfl) (by kernel_rfl) (by kernel_rfl) (fun _ _ _ h => h) (by rfl) ?hvr26_27 ?restr26_27
  case hvr26_27 => (intro w' hb; go_simp; try with_reducible rfl)
  simp only [Act.put, List.setIfInBounds_toArray, List.set_cons_zero, List.set_cons_succ]
  refine wpAnyF_take (i := 27) (v := ?vr27_28) (some 30) rfl rfl (by kernel_rfl) (by kernel_rfl) (by kernel_rfl) (fun _ _ _ h => h) (by rfl) ?hvr27_28 ?restr27_28
  case hvr27_28 => (intro w' hb; go_simp; try with_reducible rfl)
  simp only [Act.put, List.setIfInBounds_toArray, List.set_cons_zero, List.set_cons_succ]
  refine wpAnyF_take (i := 28) (v := ?vr28_29) (some 31) rfl rfl (by kernel_rfl) (by kernel_rfl) (by kernel_rfl) (fun _ _ _ h => h) (by rfl) ?hvr28_29 ?restr28_29
  case hvr28_29 => (intro w' hb; (have hcw := ((hb0.trans hb).cell (p := ⟨b, off + 8, none⟩) (by simp; omega)).trans c8; go_simp; try with_reducible rfl))
  simp only [Act.put, List.setIfInBounds_toArray, List.set_cons_zero, List.set_cons_succ]
  refine wpAnyF_take (i := 29) (v := ?vr29_30) (some 32) rfl rfl (by kernel_rfl) (by kernel_rfl) (by kernel_rfl) (fun _ _ _ h => h) (by rfl) ?hvr29_30 ?restr29_30
  case hvr29_30 => (intro w' hb; go_simp; try with_reducible rfl)
  simp only [Act.put, List.setIfInBounds_toArray, List.set_cons_zero, List.set_cons_succ]
  refine wpAnyF_take (i := 30) (v := ?vr30_31) (some 33) rfl rfl (by kernel_rfl) (by kernel_rfl) (by kernel_rfl) (fun _ _ _ h => h) (by rfl) ?hvr30_31 ?restr30_31
  case hvr30_31 => (intro w' hb; go_simp; try with_reducible rfl)
  simp only [Act.put, List.setIfInBounds_toArray, List.set_cons_zero, List.set_cons_succ]
  refine wpAnyF_alone (i := 31) rfl (by kernel_rfl) (by rfl) (fun K hK => ?_)
  have hnew : (w.alloc (.cells #[.int .i32 0, .int .i32 0, .int .i32 0, .int .i32 0, .int .i32 0, .int .i32 0, .int .i32 0, .int .i32 0, .int .i32 0] 38)).drew.heap[w.heap.size]? = some (.cells #[.int .i32 0, .int .i32 0, .int .i32 0, .int .i32 0, .int .i32 0, .int .i32 0, .int .i32 0, .int .i32 0, .int .i32 0] 38 (0, 0)) := heap_alloc_new w _
  refine wp_store_row 38 (.tmp 2) (.tmp 33) rfl w.heap.size #[.int .i32 z0, .int .i32 z1, .int .i32 z2, .int .i32 z3, .int .i32 z4, .int .i32 z5, .int .i32 z6, .int .i32 z7, .int .i32 z8] rfl rfl _ _ hnew (by kernel_rfl) rfl (by simp [Value.oneCell']) ?_
  have hs := setRow_heap _ w.heap.size _ #[.int .i32 z0, .int .i32 z1, .int .i32 z2, .int .i32 z3, .int .i32 z4, .int .i32 z5, .int .i32 z6, .int .i32 z7, .int .i32 z8] _ _ hnew
  have hB : Below w.heap.size w ((w.alloc (.cells #[.int .i32 0, .int .i32 0, .int .i32 0, .int .i32 0, .int .i32 0, .int .i32 0, .int .i32 0, .int .i32 0, .int .i32 0] 38)).drew.setRow w.heap.size #[.int .i32 z0, .int .i32 z1, .int .i32 z2, .int .i32 z3, .int .i32 z4, .int .i32 z5, .int .i32 z6, .int .i32 z7, .int .i32 z8]) := below_setRow (((Below.refl _ w).alloc (Nat.le_refl _) _).drew) (Nat.le_refl _) _
  have hb := below_setRow (Below.refl w.heap.size (w.alloc (.cells #[.int .i32 0, .int .i32 0, .int .i32 0, .int .i32 0, .int .i32 0, .int .i32 0, .int .i32 0, .int .i32 0, .int .i32 0] 38)).drew) (Nat.le_refl w.heap.size) #[.int .i32 z0, .int .i32 z1, .int .i32 z2, .int .i32 z3, .int .i32 z4, .int .i32 z5, .int .i32 z6, .int .i32 z7, .int .i32 z8]
  refine hK.out _ _ hb ?_
  clear hK K
  simp only [List.setIfInBounds_toArray, List.set_cons_zero, List.set_cons_succ]
  refine wpAnyF_done (by kernel_rfl) ?_ _
  go_wp2
  exact bodyPost_ret (results_cell_row rfl _ _ w.heap.size _ _ _ _ rfl hs Tryd.underlying38 rfl (by kernel_rfl)) rfl ⟨rfl, hB⟩
set_option maxRecDepth 100000 in
theorem rsread_short (a : Option Addr) (n c : Nat) (w : World) (hn : n < 20) :
    Calls Tryd.prog 33 #[.slice a n c] w fun e w' => e = .returned (.tuple #[.agg (zcells zeroZ), .bool false, .int .i64 4]) ∧ Below w.heap.size w w' := by
  rw [zero_cells]
  go_enter Tryd.func33, Tryd.ntmps33
  go_wp2
  exact bodyPost_ret (v := .tuple #[.agg #[.int .i32 0, .int .i32 0, .int .i32 0, .int .i32 0, .int .i32 0, .int .i32 0, .int .i32 0, .int .i32 0, .int .i32 0], .bool false, .int .i64 4]) (by simp [results, Tryd.results33, go_sem]) rfl ⟨rfl, ((Below.refl _ w).alloc (Nat.le_refl _) _)⟩
set_option maxRecDepth 100000 in
theorem rsread_long (a : Option Addr) (n c : Nat) (w : World) (hn : 20 < n) (hm : n ≤ 9223372036854775807) :
    Calls Tryd.prog 33 #[.slice a n c] w fun e w' => e = .returned (.tuple #[.agg (zcells zeroZ), .bool false, .int .i64 5]) ∧ Below w.heap.size w w' := by
  rw [zero_cells]
  go_enter Tryd.func33, Tryd.ntmps33
  go_wp2
  exact bodyPost_ret (v := .tuple #[.agg #[.int .i32 0, .int .i32 0, .int .i32 0, .int .i32 0, .int .i32 0, .int .i32 0, .int .i32 0, .int .i32 0, .int .i32 0], .bool false, .int .i64 5]) (by simp [results, Tryd.results33, go_sem]) rfl ⟨rfl, ((Below.refl _ w).alloc (Nat.le_refl _) _)⟩
theorem Tryd.infoI32 : (Tryd.prog.info? 21).map (fun i => (i.zero, i.size, i.bytes)) = some (some (.int .i32 0), 1, 4) := by kernel_rfl
set_option maxRecDepth 100000 in
set_option maxHeartbeats 4000000 in
theorem rsread_all (v : Value) (L : List Int) (w : World) (hr : Reads .u8 w v L) (hL : L.length = 20) :
    Calls Tryd.prog 33 #[v] w fun e w' => e = .returned (.tuple #[.agg (zcells (nineR L)), .bool (decide (L = sealL (L.take 18))), .int .i64 0]) ∧ Below w.heap.size w w' := by
  have hwf := Reads.wf hr
  obtain ⟨i0, hi, hz0, hz1, hz2⟩ := info_parts Tryd.infoI32
  have HR := hid (fun W (hb : Below w.heap.size w W) => hr.later hb)
  obtain ⟨b, off, c, rfl, h1, h2, hlt, hcell⟩ := hr.plain (by omega)
  clear hr
  have HL := hid hL
  generalize hT : decide (L = sealL (L.take 18)) = T
  have HT := hid hT
  clear hT
  rw [hL] at h1 HR
  rw [hL]
  clear hL
  go_enter Tryd.func33, Tryd.ntmps33
  go_wp2_with fail
  go_loopw [5, 6] (fun u0 i wr => ∃ (k : Nat) (u : Value), k ≤ 9 ∧ i = .int .i64 k ∧ u = u0 ∧ wr.ownsRow (w.heap.size + 1) 21 1 u k (((nineR L).take k).map (Value.int .i32)) ∧ wr.heap[w.heap.size]? = some (.cells (zcells zeroZ) 38 (0, 0)) ∧ Below w.heap.size w wr) (fun _ i _ => 9 - (intOf i).toNat)
  case atStart => exact ⟨0, _, by omega, rfl, rfl, World.ownsRow_nil _ _ _ _, heap_alloc_new w _, (Below.refl _ w).alloc (Nat.le_refl _) _⟩
  case round =>
    obtain ⟨j, u, hj, rfl, rfl, hown, hz, hwr⟩ := hrel
    by_cases hlt9 : j < 9
    · obtain ⟨ka, hka⟩ : ∃ ka, ka = 2 * j := ⟨_, rfl⟩
      obtain ⟨kb, hkb⟩ : ∃ kb, kb = 2 * j + 1 := ⟨_, rfl⟩
      have NG := nineR_get L j hlt9
      have TK := hid (List.take_succ_eq_append_getElem (show j < (nineR L).length by rw [nineR_len]; exact hlt9))
      have NJ := getD_eq (show j < (nineR L).length by rw [nineR_len]; exact hlt9)
      have e1 : IntKind.i64.wrap (2 * (j : Int)) = (ka : Int) := by rw [IntWalk.i64_in _ (by omega)]; omega
      have e2 : IntKind.i64.wrap ((ka : Int) + 1) = (kb : Int) := by rw [IntWalk.i64_in _ (by omega)]; omega
      have hka20 : ka < 20 := by omega
      have hkb20 : kb < 20 := by omega
      have hka20' : (ka : Int) < 20 := by omega
      have hkb20' : (kb : Int) < 20 := by omega
      have ca : wr.cell? ⟨b, off + ka, none⟩ = some (.int .u8 (L.getD ka 0)) := by
        have := (hwr.cell (p := ⟨b, off + ka, none⟩) hlt).trans (hcell ka (by have := HL.out; omega))
        rw [getD_eq (by have := HL.out; omega)]; exact this
      have cb : wr.cell? ⟨b, off + kb, none⟩ = some (.int .u8 (L.getD kb 0)) := by
        have := (hwr.cell (p := ⟨b, off + kb, none⟩) hlt).trans (hcell kb (by have := HL.out; omega))
        rw [getD_eq (by have := HL.out; omega)]; exact this
      have ba := bd_u8 (hwf (L.getD ka 0) (by rw [getD_eq (by have := HL.out; omega)]; exact List.getElem_mem _))
      have bb := bd_u8 (hwf (L.getD kb 0) (by rw [getD_eq (by have := HL.out; omega)]; exact List.getElem_mem _))
      rw [← hkb, ← hka] at NG
      rw [NG] at NJ
      have NN := hid NJ
      clear hka hkb NG NJ
      have hbd := halfI_bd (256 * L.getD ka 0 + L.getD kb 0)
      generalize L.getD ka 0 = xa at *
      generalize L.getD kb 0 = xb at *
      generalize hy : halfI (256 * xa + xb) = y at *
      have HY := hid hy
      clear hy
      have hsz := hwr.size
      have PA := hid (fun w => rpair_any xa xb w ba bb)
      rw [HY.out] at PA
      go_wp2_with fail
      refine wp_region_F' (B := w.heap.size + 1) (n := 16) (l := #[false, false, false, false, false, false, false, false, false, false, false, false, false, false, false, false]) (by kernel_rfl) (by kernel_rfl) (by kernel_rfl) ?_
      refine wpAnyF_take (i := 0) (v := ?vr0_1) (some 21) rfl rfl (by kernel_rfl) (by kernel_rfl) (by kernel_rfl) (fun _ _ _ h => h) (by rfl) ?hvr0_1 ?restr0_1
      case hvr0_1 => (intro w' hb; go_simp; try with_reducible rfl)
      simp only [Act.put, List.setIfInBounds_toArray, List.set_cons_zero, List.set_cons_succ]
      refine wpAnyF_take (i := 1) (v := ?vr1_2) (some 22) rfl rfl (by kernel_rfl) (by kernel_rfl) (by kernel_rfl) (fun _ _ _ h => h) (by rfl) ?hvr1_2 ?restr1_2
      case hvr1_2 => (intro w' hb; go_simp; try with_reducible rfl)
      simp only [Act.put, List.setIfInBounds_toArray, List.set_cons_zero, List.set_cons_succ]
      refine wpAnyF_take (i := 2) (v := ?vr2_3) (some 23) rfl rfl (by kernel_rfl) (by kernel_rfl) (by kernel_rfl) (fun _ _ _ h => h) (by rfl) ?hvr2_3 ?restr2_3
      case hvr2_3 => (intro w' hb; go_simp; try with_reducible rfl)
      simp only [Act.put, List.setIfInBounds_toArray, List.set_cons_zero, List.set_cons_succ]
      refine wpAnyF_take (i := 3) (v := ?vr3_4) (some 24) rfl rfl (by kernel_rfl) (by kernel_rfl) (by kernel_rfl) (fun _ _ _ h => h) (by rfl) ?hvr3_4 ?restr3_4
      case hvr3_4 => (intro w' hb; go_simp; try with_reducible rfl)
      simp only [Act.put, List.setIfInBounds_toArray, List.set_cons_zero, List.set_cons_succ]
      refine wpAnyF_take (i := 4) (v := ?vr4_5) (some 25) rfl rfl (by kernel_rfl) (by kernel_rfl) (by kernel_rfl) (fun _ _ _ h => h) (by rfl) ?hvr4_5 ?restr4_5
      case hvr4_5 => (intro w' hb; go_simp; try with_reducible rfl)
      simp only [Act.put, List.setIfInBounds_toArray, List.set_cons_zero, List.set_cons_succ]
      refine wpAnyF_take (i := 5) (v := ?vr5_6) (some 26) rfl rfl (by kernel_rfl) (by kernel_rfl) (by kernel_rfl) (fun _ _ _ h => h) (by rfl) ?hvr5_6 ?restr5_6
      case hvr5_6 => (intro w' hb; (have hcw := (hb.cell (p := ⟨b, off + ka, none⟩) (by simp; omega)).trans ca; go_simp; try with_reducible rfl))
      simp only [Act.put, List.setIfInBounds_toArray, List.set_cons_zero, List.set_cons_succ]
      refine wpAnyF_take (i := 6) (v := ?vr6_7) (some 27) rfl rfl (by kernel_rfl) (by kernel_rfl) (by kernel_rfl) (fun _ _ _ h => h) (by rfl) ?hvr6_7 ?restr6_7
      case hvr6_7 => (intro w' hb; go_simp; try with_reducible rfl)
      simp only [Act.put, List.setIfInBounds_toArray, List.set_cons_zero, List.set_cons_succ]
      refine wpAnyF_take (i := 7) (v := ?vr7_8) (some 28) rfl rfl (by kernel_rfl) (by kernel_rfl) (by kernel_rfl) (fun _ _ _ h => h) (by rfl) ?hvr7_8 ?restr7_8
      case hvr7_8 => (intro w' hb; go_simp; try with_reducible rfl)
      simp only [Act.put, List.setIfInBounds_toArray, List.set_cons_zero, List.set_cons_succ]
      refine wpAnyF_take (i := 8) (v := ?vr8_9) (some 29) rfl rfl (by kernel_rfl) (by kernel_rfl) (by kernel_rfl) (fun _ _ _ h => h) (by rfl) ?hvr8_9 ?restr8_9
      case hvr8_9 => (intro w' hb; go_simp; try with_reducible rfl)
      simp only [Act.put, List.setIfInBounds_toArray, List.set_cons_zero, List.set_cons_succ]
      refine wpAnyF_take (i := 9) (v := ?vr9_10) (some 30) rfl rfl (by kernel_rfl) (by kernel_rfl) (by kernel_rfl) (fun _ _ _ h => h) (by rfl) ?hvr9_10 ?restr9_10
      case hvr9_10 => (intro w' hb; go_simp; try with_reducible rfl)
      simp only [Act.put, List.setIfInBounds_toArray, List.set_cons_zero, List.set_cons_succ]
      refine wpAnyF_take (i := 10) (v := ?vr10_11) (some 31) rfl rfl (by kernel_rfl) (by kernel_rfl) (by kernel_rfl) (fun _ _ _ h => h) (by rfl) ?hvr10_11 ?restr10_11
      case hvr10_11 => (intro w' hb; go_simp; try with_reducible rfl)
      simp only [Act.put, List.setIfInBounds_toArray, List.set_cons_zero, List.set_cons_succ]
      refine wpAnyF_take (i := 11) (v := ?vr11_12) (some 32) rfl rfl (by kernel_rfl) (by kernel_rfl) (by kernel_rfl) (fun _ _ _ h => h) (by rfl) ?hvr11_12 ?restr11_12
      case hvr11_12 => (intro w' hb; (have hcw := (hb.cell (p := ⟨b, off + kb, none⟩) (by simp; omega)).trans cb; go_simp; try with_reducible rfl))
      simp only [Act.put, List.setIfInBounds_toArray, List.set_cons_zero, List.set_cons_succ]
      refine wpAnyF_alone (i := 12) rfl (by kernel_rfl) (by rfl) (fun K hK => ?_)
      go_simp
      refine (PA.out _).mono ?_
      rintro e w4 ⟨rfl, rfl⟩
      refine hK.out _ _ (Below.refl _ _) ?_
      clear hK K
      simp only [List.setIfInBounds_toArray, List.set_cons_zero, List.set_cons_succ]
      refine wpAnyF_alone (i := 13) rfl (by kernel_rfl) (by rfl) (fun K hK => ?_)
      go_simp
      have hb : Below (w.heap.size + 1) wr.drew (wr.drew.alloc (.cells #[.int .i32 y] 21)) := (Below.refl _ _).alloc (by have := lt_of_row hz; simp; omega) _
      refine hK.out _ _ hb ?_
      clear hK K
      simp only [List.setIfInBounds_toArray, List.set_cons_zero, List.set_cons_succ]
      refine wpAnyF_alone (i := 14) rfl (by kernel_rfl) (by rfl) (fun K hK => ?_)
      refine wp_append_own _ (.tmp 21) (.tmp 34) 93 rfl (w.heap.size + 1) 21 i0 (.int .i32 0) 1 4 Tryd.underlying93 hi hz0 hz1 hz2 rfl (by decide) u _ _ rfl (hown.drew.alloc _) ⟨wr.heap.size, 0, none⟩ 1 1 [.int .i32 y] rfl rfl ?_ ?_ ?_ ?_ ?_ ?_
      · intro q t hq
        rcases q with _ | q <;> simp at hq
        subst hq
        simp [add_plain]
      · simp [Value.oneCell']
      · simp [maxLen]; omega
      · omega
      · have := lt_of_row hz; simp; omega
      intro v' w5 hown5 hg5 _
      have hb : Below (w.heap.size + 1) (wr.drew.alloc (.cells #[.int .i32 y] 21)) w5 := (Below.refl _ _).grown hg5 (by have := lt_of_row hz; simp; omega) (fun k e => (hown.lt k e).1)
      refine hK.out _ _ hb ?_
      clear hK K
      simp only [List.setIfInBounds_toArray, List.set_cons_zero, List.set_cons_succ]
      refine wpAnyF_take (i := 15) (v := ?vr15_13) (some 5) rfl rfl (by kernel_rfl) (by kernel_rfl) (by kernel_rfl) (fun _ _ _ h => h) (by rfl) ?hvr15_13 ?restr15_13
      case hvr15_13 => (intro w' hb; go_simp; try with_reducible rfl)
      simp only [Act.put, List.setIfInBounds_toArray, List.set_cons_zero, List.set_cons_succ]
      refine wpAnyF_done (by kernel_rfl) ?_ _
      go_wp2_with fail
      go_roundw
      case rel =>
        refine ⟨j + 1, v', by omega, by go_num, rfl, ?_, ?_, ?_⟩
        · rw [TK.out, ← NN.out]
          simpa using hown5
        · exact (hb.block _ (by omega)).trans ((Below.heap_alloc _ _ _ (lt_of_row hz)).trans hz)
        · exact (hwr.trans ((Below.refl _ wr).drew.alloc (by simp; exact hsz) _)).trans (hb.mono (by omega))
      case measure => simp [intOf]; omega
    · obtain rfl : j = 9 := by omega
      have hrn := reads_of_owns hown (fun x hx => by
        have := nineR_in L x (List.mem_of_mem_take hx)
        simp only [inR] at this
        simp [Lit.wf, IntKind.min, IntKind.max, IntKind.signed, IntKind.bits]; omega)
      rw [List.take_of_length_le (by rw [nineR_len]; omega)] at hrn
      have hs2 : (zcells (nineR L)).size = 9 := by rw [zcells_size, nineR_len]
      by_cases hok : L = sealL (L.take 18)
      · have OP := hid (ropen_ok (.slice (some ⟨b, off, none⟩) 20 c) L 18 HL.out wr (HR.out _ hwr) (by have := HL.out; omega) hok)
        obtain rfl : T = true := by rw [← HT.out]; simpa using hok
        clear hok
        go_wp2_with fail
        refine (OP.out).mono ?_
        rintro e w6 ⟨v6, rfl, hb6, _⟩
        have OF9 := hid (rof9_any u (nineR L) (nineR_len L) w6 (hrn.below hb6 (fun b' hb' => by exact (hown.lt b' hb').2)))
        go_wp2_with fail
        refine (OF9.out).mono ?_
        rintro e w7 ⟨rfl, hb7⟩
        have q0 : w7.heap[w.heap.size]? = some (.cells (zcells zeroZ) 38 (0, 0)) := (hb7.block _ (by have := hb6.size; have := lt_of_row hz; omega)).trans ((hb6.block _ (lt_of_row hz)).trans hz)
        have sB : Below w.heap.size w (w7.setRow w.heap.size (zcells (nineR L))) := below_setRow ((hwr.trans (hb6.mono (by have := lt_of_row hz; omega))).trans (hb7.mono (by have := hb6.size; have := lt_of_row hz; omega))) (Nat.le_refl _) _
        have s1 := setRow_heap w7 w.heap.size _ (zcells (nineR L)) _ _ q0
        go_wp2_with ((with_reducible refine at_op (.store 38 (.tmp 2) (.tmp 42)) ?_); refine wpList_store_row rfl 38 (.tmp 2) (.tmp 42) rfl w.heap.size (zcells (nineR L)) rfl rfl _ _ q0 (by rw [hs2]; kernel_rfl) (by rw [hs2]; rfl) (zcells_one _) ?_)
        have lv := run_loadVar_row (P := Tryd.prog) _ w.heap.size _ 38 _ _ _ s1 Tryd.underlying38 rfl (by rw [hs2]; kernel_rfl)
        refine bodyPost_ret (v := .tuple #[.agg (zcells (nineR L)), .bool true, .int .i64 0]) (by simp [results, Tryd.results33, asAddr, lv]) rfl ⟨rfl, sB⟩
      · have OP := hid (ropen_bad (.slice (some ⟨b, off, none⟩) 20 c) L 18 HL.out wr (HR.out _ hwr) (by have := HL.out; omega) hok)
        obtain rfl : T = false := by rw [← HT.out]; simpa using hok
        clear hok
        go_wp2_with fail
        refine (OP.out).mono ?_
        rintro e w6 ⟨rfl, hb6⟩
        have OF9 := hid (rof9_any u (nineR L) (nineR_len L) w6 (hrn.below hb6 (fun b' hb' => by exact (hown.lt b' hb').2)))
        go_wp2_with fail
        refine (OF9.out).mono ?_
        rintro e w7 ⟨rfl, hb7⟩
        have q0 : w7.heap[w.heap.size]? = some (.cells (zcells zeroZ) 38 (0, 0)) := (hb7.block _ (by have := hb6.size; have := lt_of_row hz; omega)).trans ((hb6.block _ (lt_of_row hz)).trans hz)
        have sB : Below w.heap.size w (w7.setRow w.heap.size (zcells (nineR L))) := below_setRow ((hwr.trans (hb6.mono (by have := lt_of_row hz; omega))).trans (hb7.mono (by have := hb6.size; have := lt_of_row hz; omega))) (Nat.le_refl _) _
        have s1 := setRow_heap w7 w.heap.size _ (zcells (nineR L)) _ _ q0
        go_wp2_with ((with_reducible refine at_op (.store 38 (.tmp 2) (.tmp 42)) ?_); refine wpList_store_row rfl 38 (.tmp 2) (.tmp 42) rfl w.heap.size (zcells (nineR L)) rfl rfl _ _ q0 (by rw [hs2]; kernel_rfl) (by rw [hs2]; rfl) (zcells_one _) ?_)
        have lv := run_loadVar_row (P := Tryd.prog) _ w.heap.size _ 38 _ _ _ s1 Tryd.underlying38 rfl (by rw [hs2]; kernel_rfl)
        refine bodyPost_ret (v := .tuple #[.agg (zcells (nineR L)), .bool false, .int .i64 0]) (by simp [results, Tryd.results33, asAddr, lv]) rfl ⟨rfl, sB⟩
end Go.Proofs.YtecbfegohdllbaaDoor
