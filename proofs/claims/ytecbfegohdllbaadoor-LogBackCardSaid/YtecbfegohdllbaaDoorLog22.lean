/- Layer 47 (log): report: a row's report: a contract. -/
import Derived.Test.YtecbfegohdllbaaDoorLog17
import Derived.Deep.MidRow
import Derived.Laws.Cover3
namespace Go.Proofs.YtecbfegohdllbaaDoor
open Go.RowKit
set_option linter.unusedVariables false
set_option linter.unusedSimpArgs false
theorem exec_load_mid {P : Program} {o : Oper} {ρ : Operand → Value} {w : World} (ty : TypeId) (x : Operand) (ho : o.op = .load ty x) (b off : Nat) (hx : ρ x = .pointer (some ⟨b, off, none⟩)) (cs : List Value) (d : TypeDesc) (hc : w.rangeAt b off cs)
    (hu : P.underlying ty = some d) (hd : d.isRow = true) (hi : (P.info? ty).map (·.size) = some cs.length) : (execOp ρ o).run P w = .ok (.value (.agg cs.toArray)) w := by
  unfold execOp
  simp only [ho, hx, Instr.loadAt, Instr.sureAddr, Sem.run_bind, Sem.run_pure, Result.andThen_ok, run_loadVar_mid w b off ty cs d hc hu hd hi]
set_option maxRecDepth 100000 in
set_option maxHeartbeats 1000000 in
theorem lreport_any (Z : List Int) (hZ : RepWf Z) (hR : RightL Z) (w : World) :
    Calls Tryd.prog 105 #[.agg (ocells Z)] w fun e w' => e = .returned (.agg (rcells Z)) ∧ Below w.heap.size w w' := by
  obtain ⟨f, s, u, g, q0, q1, q2, q3, x0, x1, x2, hZe⟩ := eleven_list Z hZ.1
  have HR := hR
  rw [hZe] at HR
  obtain ⟨⟨r1, r2⟩, ⟨r3, r4⟩, ⟨r5, r6⟩, ⟨r7, r8⟩, -⟩ := HR
  have HOC := show ocells Z = #[.int .i32 f, .int .i32 s, .int .i32 u, .int .i32 g, .int .i32 q0, .int .i32 q1, .int .i32 q2, .int .i32 q3, .int .i32 x0, .int .i32 x1, .int .i32 x2] by rw [hZe]; rfl
  have HZC := hid (show rcells Z = #[.int .i64 f, .int .i64 s, .int .i64 u, .int .i64 g, .int .i32 q0, .int .i32 q1, .int .i32 q2, .int .i32 q3, .int .i32 x0, .int .i32 x1, .int .i32 x2] by rw [hZe]; rfl)
  rw [HOC]
  have W0 := hid (show IntKind.i64.wrap f = f from IntWalk.i64_in _ (by omega))
  have W1 := hid (show IntKind.i64.wrap s = s from IntWalk.i64_in _ (by omega))
  have W2 := hid (show IntKind.i64.wrap u = u from IntWalk.i64_in _ (by omega))
  have W3 := hid (show IntKind.i64.wrap g = g from IntWalk.i64_in _ (by omega))
  clear hZe hZ hR HOC
  go_enter Tryd.func105, Tryd.ntmps105
  go_wp2_with fail
  have p1 := (Below.heap_alloc (w.alloc (.cells #[.int .i32 f, .int .i32 s, .int .i32 u, .int .i32 g, .int .i32 q0, .int .i32 q1, .int .i32 q2, .int .i32 q3, .int .i32 x0, .int .i32 x1, .int .i32 x2] 121)) (.cells (rcells zeroR) 50) w.heap.size (by simp)).trans (heap_alloc_new w _)
  have p2 := heap_alloc2_new w (.cells #[.int .i32 f, .int .i32 s, .int .i32 u, .int .i32 g, .int .i32 q0, .int .i32 q1, .int .i32 q2, .int .i32 q3, .int .i32 x0, .int .i32 x1, .int .i32 x2] 121) (.cells (rcells zeroR) 50)
  have hb2 := ((Below.refl _ w).alloc (Nat.le_refl _) (.cells #[.int .i32 f, .int .i32 s, .int .i32 u, .int .i32 g, .int .i32 q0, .int .i32 q1, .int .i32 q2, .int .i32 q3, .int .i32 x0, .int .i32 x1, .int .i32 x2] 121)).alloc (by simp) (.cells (rcells zeroR) 50)
  rw [show (#[.int .i64 0, .int .i64 0, .int .i64 0, .int .i64 0, .int .i32 0, .int .i32 0, .int .i32 0, .int .i32 0, .int .i32 0, .int .i32 0, .int .i32 0] : Array Value) = rcells zeroR from rfl]
  obtain ⟨h, hh⟩ : ∃ h, h = w.heap.size := ⟨_, rfl⟩
  have HHS := hid hh
  rw [← hh] at p1 p2
  rw [← hh]
  clear hh
  generalize (w.alloc (.cells #[.int .i32 f, .int .i32 s, .int .i32 u, .int .i32 g, .int .i32 q0, .int .i32 q1, .int .i32 q2, .int .i32 q3, .int .i32 x0, .int .i32 x1, .int .i32 x2] 121)).alloc (.cells (rcells zeroR) 50) = w2 at *
  have hl1 := lt_of_row p1
  have hl2 := lt_of_row p2
  have k0 := (cell_of_row w2 h 0 _ _ _ p1).trans (rfl : _ = some (Value.int .i32 f))
  have k1 := (cell_of_row w2 h 1 _ _ _ p1).trans (rfl : _ = some (Value.int .i32 s))
  have k2 := (cell_of_row w2 h 2 _ _ _ p1).trans (rfl : _ = some (Value.int .i32 u))
  have k3 := (cell_of_row w2 h 3 _ _ _ p1).trans (rfl : _ = some (Value.int .i32 g))
  have m4 : ∀ W, Below w2.heap.size w2 W → W.rangeAt h 4 [.int .i32 q0, .int .i32 q1, .int .i32 q2, .int .i32 q3] := fun W hW => World.rangeAt_of_block (C := #[.int .i32 f, .int .i32 s, .int .i32 u, .int .i32 g, .int .i32 q0, .int .i32 q1, .int .i32 q2, .int .i32 q3, .int .i32 x0, .int .i32 x1, .int .i32 x2]) ((hW.block h hl1).trans p1) 4 4
  have m8 : ∀ W, Below w2.heap.size w2 W → W.rangeAt h 8 [.int .i32 x0, .int .i32 x1, .int .i32 x2] := fun W hW => World.rangeAt_of_block (C := #[.int .i32 f, .int .i32 s, .int .i32 u, .int .i32 g, .int .i32 q0, .int .i32 q1, .int .i32 q2, .int .i32 q3, .int .i32 x0, .int .i32 x1, .int .i32 x2]) ((hW.block h hl1).trans p1) 8 3
  have M4 := hid m4
  have M8 := hid m8
  clear m4 m8
  refine wp_region_L' (z := 19) (B := w2.heap.size) (n := 20) (l := #[false, false, false, false, false, false, false, false, false, false, false, false, false, false, false, false, false, false, false, false]) (by kernel_rfl) (by kernel_rfl) (by kernel_rfl) ?_
  refine wpAnyL_take (i := 0) (v := ?vp_0_1) (some 3) rfl rfl (by kernel_rfl) (by kernel_rfl) (by kernel_rfl) (fun _ _ _ h => h) (by rfl) [1, 2, 18, 19] (by kernel_rfl) ?hvp_0_1 ?restp_0_1
  case hvp_0_1 => (intro w' hb; go_simp; try with_reducible rfl)
  simp only [Act.put, List.setIfInBounds_toArray, List.set_cons_zero, List.set_cons_succ]
  refine wpAnyL_take (i := 1) (v := ?vp_1_2) (some 4) rfl rfl (by kernel_rfl) (by kernel_rfl) (by kernel_rfl) (fun _ _ _ h => h) (by rfl) [2, 18, 19] (by kernel_rfl) ?hvp_1_2 ?restp_1_2
  case hvp_1_2 => (intro w' hb; (have hcw := (hb.cell (p := ⟨h, 0, none⟩) hl1).trans k0; go_simp; try with_reducible rfl))
  simp only [Act.put, List.setIfInBounds_toArray, List.set_cons_zero, List.set_cons_succ]
  refine wpAnyL_take (i := 2) (v := ?vp_2_3) (some 5) rfl rfl (by kernel_rfl) (by kernel_rfl) (by kernel_rfl) (fun _ _ _ h => h) (by rfl) [18, 19] (by kernel_rfl) ?hvp_2_3 ?restp_2_3
  case hvp_2_3 => (intro w' hb; (have e := W0.out; go_simp; try with_reducible rfl))
  simp only [Act.put, List.setIfInBounds_toArray, List.set_cons_zero, List.set_cons_succ]
  refine wpAnyL_take (i := 3) (v := ?vp_3_4) (some 6) rfl rfl (by kernel_rfl) (by kernel_rfl) (by kernel_rfl) (fun _ _ _ h => h) (by rfl) [4, 5, 18, 19] (by kernel_rfl) ?hvp_3_4 ?restp_3_4
  case hvp_3_4 => (intro w' hb; go_simp; try with_reducible rfl)
  simp only [Act.put, List.setIfInBounds_toArray, List.set_cons_zero, List.set_cons_succ]
  refine wpAnyL_take (i := 4) (v := ?vp_4_5) (some 7) rfl rfl (by kernel_rfl) (by kernel_rfl) (by kernel_rfl) (fun _ _ _ h => h) (by rfl) [5, 18, 19] (by kernel_rfl) ?hvp_4_5 ?restp_4_5
  case hvp_4_5 => (intro w' hb; (have hcw := (hb.cell (p := ⟨h, 1, none⟩) hl1).trans k1; go_simp; try with_reducible rfl))
  simp only [Act.put, List.setIfInBounds_toArray, List.set_cons_zero, List.set_cons_succ]
  refine wpAnyL_take (i := 5) (v := ?vp_5_6) (some 8) rfl rfl (by kernel_rfl) (by kernel_rfl) (by kernel_rfl) (fun _ _ _ h => h) (by rfl) [18, 19] (by kernel_rfl) ?hvp_5_6 ?restp_5_6
  case hvp_5_6 => (intro w' hb; (have e := W1.out; go_simp; try with_reducible rfl))
  simp only [Act.put, List.setIfInBounds_toArray, List.set_cons_zero, List.set_cons_succ]
  refine wpAnyL_take (i := 6) (v := ?vp_6_7) (some 9) rfl rfl (by kernel_rfl) (by kernel_rfl) (by kernel_rfl) (fun _ _ _ h => h) (by rfl) [7, 8, 18, 19] (by kernel_rfl) ?hvp_6_7 ?restp_6_7
  case hvp_6_7 => (intro w' hb; go_simp; try with_reducible rfl)
  simp only [Act.put, List.setIfInBounds_toArray, List.set_cons_zero, List.set_cons_succ]
  refine wpAnyL_take (i := 7) (v := ?vp_7_8) (some 10) rfl rfl (by kernel_rfl) (by kernel_rfl) (by kernel_rfl) (fun _ _ _ h => h) (by rfl) [8, 18, 19] (by kernel_rfl) ?hvp_7_8 ?restp_7_8
  case hvp_7_8 => (intro w' hb; (have hcw := (hb.cell (p := ⟨h, 2, none⟩) hl1).trans k2; go_simp; try with_reducible rfl))
  simp only [Act.put, List.setIfInBounds_toArray, List.set_cons_zero, List.set_cons_succ]
  refine wpAnyL_take (i := 8) (v := ?vp_8_9) (some 11) rfl rfl (by kernel_rfl) (by kernel_rfl) (by kernel_rfl) (fun _ _ _ h => h) (by rfl) [18, 19] (by kernel_rfl) ?hvp_8_9 ?restp_8_9
  case hvp_8_9 => (intro w' hb; (have e := W2.out; go_simp; try with_reducible rfl))
  simp only [Act.put, List.setIfInBounds_toArray, List.set_cons_zero, List.set_cons_succ]
  refine wpAnyL_take (i := 9) (v := ?vp_9_10) (some 12) rfl rfl (by kernel_rfl) (by kernel_rfl) (by kernel_rfl) (fun _ _ _ h => h) (by rfl) [10, 11, 18, 19] (by kernel_rfl) ?hvp_9_10 ?restp_9_10
  case hvp_9_10 => (intro w' hb; go_simp; try with_reducible rfl)
  simp only [Act.put, List.setIfInBounds_toArray, List.set_cons_zero, List.set_cons_succ]
  refine wpAnyL_take (i := 10) (v := ?vp_10_11) (some 13) rfl rfl (by kernel_rfl) (by kernel_rfl) (by kernel_rfl) (fun _ _ _ h => h) (by rfl) [11, 18, 19] (by kernel_rfl) ?hvp_10_11 ?restp_10_11
  case hvp_10_11 => (intro w' hb; (have hcw := (hb.cell (p := ⟨h, 3, none⟩) hl1).trans k3; go_simp; try with_reducible rfl))
  simp only [Act.put, List.setIfInBounds_toArray, List.set_cons_zero, List.set_cons_succ]
  refine wpAnyL_take (i := 11) (v := ?vp_11_12) (some 14) rfl rfl (by kernel_rfl) (by kernel_rfl) (by kernel_rfl) (fun _ _ _ h => h) (by rfl) [18, 19] (by kernel_rfl) ?hvp_11_12 ?restp_11_12
  case hvp_11_12 => (intro w' hb; (have e := W3.out; go_simp; try with_reducible rfl))
  simp only [Act.put, List.setIfInBounds_toArray, List.set_cons_zero, List.set_cons_succ]
  refine wpAnyL_take (i := 12) (v := ?vp_12_13) (some 15) rfl rfl (by kernel_rfl) (by kernel_rfl) (by kernel_rfl) (fun _ _ _ h => h) (by rfl) [13, 14, 18, 19] (by kernel_rfl) ?hvp_12_13 ?restp_12_13
  case hvp_12_13 => (intro w' hb; go_simp; try with_reducible rfl)
  simp only [Act.put, List.setIfInBounds_toArray, List.set_cons_zero, List.set_cons_succ]
  refine wpAnyL_take (i := 13) (v := ?vp_13_14) (some 16) rfl rfl (by kernel_rfl) (by kernel_rfl) (by kernel_rfl) (fun _ _ _ h => h) (by rfl) [14, 18, 19] (by kernel_rfl) ?hvp_13_14 ?restp_13_14
  case hvp_13_14 => (intro w' hb; (have e := run_arrayAt (P := Tryd.prog) w' 48 21 4 (some ⟨h, 4, none⟩) 4 7 Tryd.underlying48 (by decide); go_simp; try with_reducible rfl))
  simp only [Act.put, List.setIfInBounds_toArray, List.set_cons_zero, List.set_cons_succ]
  refine wpAnyL_take (i := 14) (v := ?vp_14_15) (some 17) rfl rfl (by kernel_rfl) (by kernel_rfl) (by kernel_rfl) (fun _ _ _ h => h) (by rfl) [18, 19] (by kernel_rfl) ?hvp_14_15 ?restp_14_15
  case hvp_14_15 => (intro w' hb; (refine exec_load_mid 48 (.tmp 16) ?_ h 4 ?_ [.int .i32 q0, .int .i32 q1, .int .i32 q2, .int .i32 q3] _ (M4.out w' (Below.drewl hb)) Tryd.underlying48 ?_ (by kernel_rfl); rfl; rfl; rfl))
  simp only [Act.put, List.setIfInBounds_toArray, List.set_cons_zero, List.set_cons_succ]
  refine wpAnyL_take (i := 15) (v := ?vp_15_16) (some 18) rfl rfl (by kernel_rfl) (by kernel_rfl) (by kernel_rfl) (fun _ _ _ h => h) (by rfl) [16, 17, 18, 19] (by kernel_rfl) ?hvp_15_16 ?restp_15_16
  case hvp_15_16 => (intro w' hb; go_simp; try with_reducible rfl)
  simp only [Act.put, List.setIfInBounds_toArray, List.set_cons_zero, List.set_cons_succ]
  refine wpAnyL_take (i := 16) (v := ?vp_16_17) (some 19) rfl rfl (by kernel_rfl) (by kernel_rfl) (by kernel_rfl) (fun _ _ _ h => h) (by rfl) [17, 18, 19] (by kernel_rfl) ?hvp_16_17 ?restp_16_17
  case hvp_16_17 => (intro w' hb; (have e := run_arrayAt (P := Tryd.prog) w' 36 21 3 (some ⟨h, 8, none⟩) 3 3 Tryd.underlying36 (by decide); go_simp; try with_reducible rfl))
  simp only [Act.put, List.setIfInBounds_toArray, List.set_cons_zero, List.set_cons_succ]
  refine wpAnyL_take (i := 17) (v := ?vp_17_18) (some 20) rfl rfl (by kernel_rfl) (by kernel_rfl) (by kernel_rfl) (fun _ _ _ h => h) (by rfl) [18, 19] (by kernel_rfl) ?hvp_17_18 ?restp_17_18
  case hvp_17_18 => (intro w' hb; (refine exec_load_mid 36 (.tmp 19) ?_ h 8 ?_ [.int .i32 x0, .int .i32 x1, .int .i32 x2] _ (M8.out w' (Below.drewl hb)) Tryd.underlying36 ?_ (by kernel_rfl); rfl; rfl; rfl))
  simp only [Act.put, List.setIfInBounds_toArray, List.set_cons_zero, List.set_cons_succ]
  refine wpAnyL_take (i := 18) (v := ?vp_18_19) (some 21) rfl rfl (by kernel_rfl) (by kernel_rfl) (by kernel_rfl) (fun _ _ _ h => h) (by rfl) [19] (by kernel_rfl) ?hvp_18_19 ?restp_18_19
  case hvp_18_19 => (intro w' hb; go_simp; try with_reducible rfl)
  simp only [Act.put, List.setIfInBounds_toArray, List.set_cons_zero, List.set_cons_succ]
  refine wpAnyL_alone (i := 19) rfl (by kernel_rfl) (by rfl) (fun K hK => ?_)
  refine wp_store_row 50 (.tmp 2) (.tmp 21) rfl (h + 1) (rcells Z) rfl (by rw [HZC.out]; rfl) _ _ p2 (by rw [HZC.out]; kernel_rfl) (by rw [HZC.out]; rfl) (rcells_one Z) ?_
  simp only [List.getElem_toArray, List.getElem_cons_succ, List.getElem_cons_zero, Act.put, List.setIfInBounds_toArray, List.set_cons_zero, List.set_cons_succ]
  refine hK.out _ _ (fun h => absurd rfl h) ?_
  clear hK K
  simp only [List.setIfInBounds_toArray, List.set_cons_zero, List.set_cons_succ]
  refine wpAnyL_done (by kernel_rfl) ?_ _
  go_wp2_with fail
  have lv := run_loadVar_row (P := Tryd.prog) _ (h + 1) _ 50 (rcells Z) _ _ (setRow_heap w2.drew (h + 1) _ (rcells Z) _ _ p2) Tryd.underlying50 rfl (by rw [HZC.out]; kernel_rfl)
  refine bodyPost_ret (v := .agg (rcells Z)) (by simp [results, Tryd.results105, asAddr, Act.put, lv]) rfl ⟨rfl, below_setRow hb2.drew (by have := HHS.out; omega) _⟩
end Go.Proofs.YtecbfegohdllbaaDoor
