/- Layer 47 (log): the document's bytes of a log: a contract. -/
import Derived.Test.YtecbfegohdllbaaDoorPackC
namespace Go.Proofs.YtecbfegohdllbaaDoor
open Go.RowKit
set_option linter.unusedVariables false
set_option linter.unusedSimpArgs false
theorem own_some {W : World} {base n : Nat} {e : TypeId} {v : Value} {xs : List Value} (h : W.ownsRow base e 1 v n xs) (hn : 0 < n) : ∃ g c, v = .slice (some ⟨g, 0, none⟩) n c ∧ n ≤ c := by
  rcases h.2 with ⟨-, h0⟩ | ⟨g, c, cur, hv, -, -, hc, -⟩
  · omega
  · exact ⟨g, c, hv, hc⟩
theorem own_cell {W : World} {base n c g : Nat} {e : TypeId} {xs : List Value} (h : W.ownsRow base e 1 (.slice (some ⟨g, 0, none⟩) n c) n xs) (j : Nat) (x : Value) (hj : xs[j]? = some x) : W.cell? ⟨g, j, none⟩ = some x := by
  rcases h.2 with ⟨h1, -⟩ | ⟨g', c', cur, hv, -, hg, -, -, -, hx⟩
  · cases h1
  · obtain ⟨h3, -, -⟩ := Value.slice.inj hv
    obtain rfl : g = g' := by injection h3 with h3; injection h3
    refine (cell_of_row W g j _ _ _ hg).trans ?_
    rw [← hx, List.getElem?_take] at hj
    split at hj
    · rw [← Array.getElem?_toList]; exact hj
    · cases hj
theorem shortL_pos (z : Nat) : 0 < (shortL z).length := by
  by_cases h : z < 128
  · rw [shortL_lt h]; exact Nat.zero_lt_one
  · rw [shortL_ge h]; simp
theorem rep_bd32 {Z : List Int} (h : RepWf Z) (hR : RightL Z) (j : Nat) (hj : j < 11) : -2147483648 ≤ Z.getD j 0 ∧ Z.getD j 0 ≤ 2147483647 := by
  have hl := h.1
  rw [List.getD_eq_getElem?_getD, List.getElem?_eq_getElem (by omega)]
  show _ ≤ Z[j] ∧ Z[j] ≤ _
  by_cases h4 : 4 ≤ j
  · exact rep_i32_bd h j h4 (by omega)
  · obtain ⟨f, s, u, g, q0, q1, q2, q3, x0, x1, x2, rfl⟩ := eleven_list Z h.1
    obtain ⟨⟨r1, r2⟩, ⟨r3, r4⟩, ⟨r5, r6⟩, ⟨r7, r8⟩, -⟩ := hR
    rcases (show j = 0 ∨ j = 1 ∨ j = 2 ∨ j = 3 by omega) with rfl | rfl | rfl | rfl <;> simp <;> omega
set_option maxRecDepth 100000 in
set_option maxHeartbeats 2000000 in
theorem rlbytes_any {M gy room : Nat} {u : Value} {L : List (List Int)} (w : World) (h : RG M gy room u L w) :
    Calls Tryd.prog 55 #[.pointer (some ⟨gy, 0, none⟩)] w fun e w' => ∃ v, e = .returned v ∧ Below w.heap.size w w' ∧ w'.ownsRow w.heap.size 5 1 v (logL room L).length ((logL room L).map (Value.int .u8)) := by
  obtain ⟨i0, hi, hz0, hz1, hz2⟩ := info_parts Tryd.infoU8
  obtain ⟨q0, q1, q3, q4, q5, q6, q7, q8⟩ := h
  have hl11 : ∀ Z ∈ L, Z.length = 11 := fun Z hZ => (q5 Z hZ).1.1
  obtain ⟨ua, uc, rfl⟩ := own_slice q1
  have hgl := lt_of_row q0
  have HWF := hid q5
  have RR := hid (fun W (hW : Below w.heap.size w W) => rrow_of_rows (ownsRow_below q1 hW : Rows' M W _ L) hl11)
  have HA := hid (rrow_at (rrow_of_rows q1 hl11) hl11)
  have HL11 := hid hl11
  have k0 : w.cell? ⟨gy, 0, none⟩ = some (.int .i64 room) := (cell_of_row w gy 0 _ _ _ q0).trans rfl
  have k1 : w.cell? ⟨gy, 1, none⟩ = some (.slice ua L.length uc) := (cell_of_row w gy 1 _ _ _ q0).trans rfl
  have KK := hid (fun W (hW : Below w.heap.size w W) => (hW.cell (p := ⟨gy, 1, none⟩) hgl).trans k1)
  obtain ⟨N, hN⟩ : ∃ N, N = L.length := ⟨_, rfl⟩
  have HN := hid hN
  have hNN : (N : Int) ≤ 1000 := by omega
  have hN1 : N ≤ 1000 := by omega
  have hN0 : (0 : Int) ≤ N := by omega
  have hr0 : (0 : Int) ≤ room := by omega
  have hr1 : (room : Int) ≤ 1000 := by omega
  have HH := hid (show headL room N = [(room : Int) / 256, (room : Int) % 256, (N : Int) / 256, (N : Int) % 256] from rfl)
  have HHW := hid (headL_wf room N (by omega) (by omega))
  rw [← hN] at KK HA k1 RR
  have F1 := hid (show IntKind.i64.wrap ((room : Int) / 256) = (room : Int) / 256 by rw [IntWalk.i64_in _ (by omega)])
  have F2 := hid (show ((room : Int).tmod 256) = (room : Int) % 256 by rw [Int.tmod_eq_emod_of_nonneg (by omega)])
  have F3 := hid (show IntKind.i64.wrap ((N : Int) / 256) = (N : Int) / 256 by rw [IntWalk.i64_in _ (by omega)])
  have F4 := hid (show ((N : Int).tmod 256) = (N : Int) % 256 by rw [Int.tmod_eq_emod_of_nonneg (by omega)])
  have G1 := hid (show IntKind.u8.wrap ((room : Int) / 256) = (room : Int) / 256 by rw [IntWalk.u8_in _ (by omega)])
  have G2 := hid (show IntKind.u8.wrap ((room : Int) % 256) = (room : Int) % 256 by rw [IntWalk.u8_in _ (by omega)])
  have G3 := hid (show IntKind.u8.wrap ((N : Int) / 256) = (N : Int) / 256 by rw [IntWalk.u8_in _ (by omega)])
  have G4 := hid (show IntKind.u8.wrap ((N : Int) % 256) = (N : Int) % 256 by rw [IntWalk.u8_in _ (by omega)])
  have E1 := hid (show IntKind.u8.wrap (IntKind.i64.wrap ((room : Int) / 256)) = (room : Int) / 256 by rw [IntWalk.i64_in _ (by omega), IntWalk.u8_in _ (by omega)])
  have E2 := hid (show IntKind.u8.wrap ((room : Int).tmod 256) = (room : Int) % 256 by rw [Int.tmod_eq_emod_of_nonneg (by omega), IntWalk.u8_in _ (by omega)])
  have E3 := hid (show IntKind.u8.wrap (IntKind.i64.wrap ((N : Int) / 256)) = (N : Int) / 256 by rw [IntWalk.i64_in _ (by omega), IntWalk.u8_in _ (by omega)])
  have E4 := hid (show IntKind.u8.wrap ((N : Int).tmod 256) = (N : Int) % 256 by rw [Int.tmod_eq_emod_of_nonneg (by omega), IntWalk.u8_in _ (by omega)])
  clear q0 q1 q3 q4 q5 q6 q7 q8 hl11 hN
  go_enter Tryd.func55, Tryd.ntmps55
  go_wp2_with fail
  refine wp_region_F' (B := w.heap.size) (n := 28) (l := #[false, false, false, false, false, false, false, false, false, false, false, false, false, false, false, false, false, false, false, false, false, false, false, false, false, false, false, false]) (by kernel_rfl) (by kernel_rfl) (by kernel_rfl) ?_
  refine wpAnyF_take (i := 0) (v := ?vp_d_0_1) (some 10) rfl rfl (by kernel_rfl) (by kernel_rfl) (by kernel_rfl) (fun _ _ _ h => h) (by rfl) ?hvp_d_0_1 ?restp_d_0_1
  case hvp_d_0_1 => (intro w' hb; go_simp; try with_reducible rfl)
  simp only [Act.put, List.setIfInBounds_toArray, List.set_cons_zero, List.set_cons_succ]
  refine wpAnyF_take (i := 1) (v := ?vp_d_1_2) (some 11) rfl rfl (by kernel_rfl) (by kernel_rfl) (by kernel_rfl) (fun _ _ _ h => h) (by rfl) ?hvp_d_1_2 ?restp_d_1_2
  case hvp_d_1_2 => (intro w' hb; go_simp; try with_reducible rfl)
  simp only [Act.put, List.setIfInBounds_toArray, List.set_cons_zero, List.set_cons_succ]
  refine wpAnyF_take (i := 2) (v := ?vp_d_2_3) (some 12) rfl rfl (by kernel_rfl) (by kernel_rfl) (by kernel_rfl) (fun _ _ _ h => h) (by rfl) ?hvp_d_2_3 ?restp_d_2_3
  case hvp_d_2_3 => (intro w' hb; go_simp; try with_reducible rfl)
  simp only [Act.put, List.setIfInBounds_toArray, List.set_cons_zero, List.set_cons_succ]
  refine wpAnyF_take (i := 3) (v := ?vp_d_3_4) (some 13) rfl rfl (by kernel_rfl) (by kernel_rfl) (by kernel_rfl) (fun _ _ _ h => h) (by rfl) ?hvp_d_3_4 ?restp_d_3_4
  case hvp_d_3_4 => (intro w' hb; (have hcw := (hb.cell (p := ⟨gy, 0, none⟩) hgl).trans k0; go_simp; try with_reducible rfl))
  simp only [Act.put, List.setIfInBounds_toArray, List.set_cons_zero, List.set_cons_succ]
  refine wpAnyF_take (i := 4) (v := ?vp_d_4_5) (some 14) rfl rfl (by kernel_rfl) (by kernel_rfl) (by kernel_rfl) (fun _ _ _ h => h) (by rfl) ?hvp_d_4_5 ?restp_d_4_5
  case hvp_d_4_5 => (intro w' hb; go_simp; try with_reducible rfl)
  simp only [Act.put, List.setIfInBounds_toArray, List.set_cons_zero, List.set_cons_succ]
  refine wpAnyF_take (i := 5) (v := ?vp_d_5_6) (some 15) rfl rfl (by kernel_rfl) (by kernel_rfl) (by kernel_rfl) (fun _ _ _ h => h) (by rfl) ?hvp_d_5_6 ?restp_d_5_6
  case hvp_d_5_6 => (intro w' hb; go_simp; try with_reducible rfl)
  simp only [Act.put, List.setIfInBounds_toArray, List.set_cons_zero, List.set_cons_succ]
  refine wpAnyF_take (i := 6) (v := ?vp_d_6_7) (some 16) rfl rfl (by kernel_rfl) (by kernel_rfl) (by kernel_rfl) (fun _ _ _ h => h) (by rfl) ?hvp_d_6_7 ?restp_d_6_7
  case hvp_d_6_7 => (intro w' hb; go_simp; try with_reducible rfl)
  simp only [Act.put, List.setIfInBounds_toArray, List.set_cons_zero, List.set_cons_succ]
  refine wpAnyF_take (i := 7) (v := ?vp_d_7_8) (some 17) rfl rfl (by kernel_rfl) (by kernel_rfl) (by kernel_rfl) (fun _ _ _ h => h) (by rfl) ?hvp_d_7_8 ?restp_d_7_8
  case hvp_d_7_8 => (intro w' hb; go_simp; try with_reducible rfl)
  simp only [Act.put, List.setIfInBounds_toArray, List.set_cons_zero, List.set_cons_succ]
  refine wpAnyF_take (i := 8) (v := ?vp_d_8_9) (some 18) rfl rfl (by kernel_rfl) (by kernel_rfl) (by kernel_rfl) (fun _ _ _ h => h) (by rfl) ?hvp_d_8_9 ?restp_d_8_9
  case hvp_d_8_9 => (intro w' hb; go_simp; try with_reducible rfl)
  simp only [Act.put, List.setIfInBounds_toArray, List.set_cons_zero, List.set_cons_succ]
  refine wpAnyF_take (i := 9) (v := ?vp_d_9_10) (some 19) rfl rfl (by kernel_rfl) (by kernel_rfl) (by kernel_rfl) (fun _ _ _ h => h) (by rfl) ?hvp_d_9_10 ?restp_d_9_10
  case hvp_d_9_10 => (intro w' hb; (have hcw := (hb.cell (p := ⟨gy, 0, none⟩) hgl).trans k0; go_simp; try with_reducible rfl))
  simp only [Act.put, List.setIfInBounds_toArray, List.set_cons_zero, List.set_cons_succ]
  refine wpAnyF_take (i := 10) (v := ?vp_d_10_11) (some 20) rfl rfl (by kernel_rfl) (by kernel_rfl) (by kernel_rfl) (fun _ _ _ h => h) (by rfl) ?hvp_d_10_11 ?restp_d_10_11
  case hvp_d_10_11 => (intro w' hb; go_simp; try with_reducible rfl)
  simp only [Act.put, List.setIfInBounds_toArray, List.set_cons_zero, List.set_cons_succ]
  refine wpAnyF_take (i := 11) (v := ?vp_d_11_12) (some 21) rfl rfl (by kernel_rfl) (by kernel_rfl) (by kernel_rfl) (fun _ _ _ h => h) (by rfl) ?hvp_d_11_12 ?restp_d_11_12
  case hvp_d_11_12 => (intro w' hb; go_simp; try with_reducible rfl)
  simp only [Act.put, List.setIfInBounds_toArray, List.set_cons_zero, List.set_cons_succ]
  refine wpAnyF_take (i := 12) (v := ?vp_d_12_13) (some 22) rfl rfl (by kernel_rfl) (by kernel_rfl) (by kernel_rfl) (fun _ _ _ h => h) (by rfl) ?hvp_d_12_13 ?restp_d_12_13
  case hvp_d_12_13 => (intro w' hb; go_simp; try with_reducible rfl)
  simp only [Act.put, List.setIfInBounds_toArray, List.set_cons_zero, List.set_cons_succ]
  refine wpAnyF_take (i := 13) (v := ?vp_d_13_14) (some 23) rfl rfl (by kernel_rfl) (by kernel_rfl) (by kernel_rfl) (fun _ _ _ h => h) (by rfl) ?hvp_d_13_14 ?restp_d_13_14
  case hvp_d_13_14 => (intro w' hb; go_simp; try with_reducible rfl)
  simp only [Act.put, List.setIfInBounds_toArray, List.set_cons_zero, List.set_cons_succ]
  refine wpAnyF_take (i := 14) (v := ?vp_d_14_15) (some 24) rfl rfl (by kernel_rfl) (by kernel_rfl) (by kernel_rfl) (fun _ _ _ h => h) (by rfl) ?hvp_d_14_15 ?restp_d_14_15
  case hvp_d_14_15 => (intro w' hb; go_simp; try with_reducible rfl)
  simp only [Act.put, List.setIfInBounds_toArray, List.set_cons_zero, List.set_cons_succ]
  refine wpAnyF_take (i := 15) (v := ?vp_d_15_16) (some 25) rfl rfl (by kernel_rfl) (by kernel_rfl) (by kernel_rfl) (fun _ _ _ h => h) (by rfl) ?hvp_d_15_16 ?restp_d_15_16
  case hvp_d_15_16 => (intro w' hb; (have hcw := (hb.cell (p := ⟨gy, 1, none⟩) hgl).trans k1; go_simp; try with_reducible rfl))
  simp only [Act.put, List.setIfInBounds_toArray, List.set_cons_zero, List.set_cons_succ]
  refine wpAnyF_take (i := 16) (v := ?vp_d_16_17) (some 26) rfl rfl (by kernel_rfl) (by kernel_rfl) (by kernel_rfl) (fun _ _ _ h => h) (by rfl) ?hvp_d_16_17 ?restp_d_16_17
  case hvp_d_16_17 => (intro w' hb; go_simp; try with_reducible rfl)
  simp only [Act.put, List.setIfInBounds_toArray, List.set_cons_zero, List.set_cons_succ]
  refine wpAnyF_take (i := 17) (v := ?vp_d_17_18) (some 27) rfl rfl (by kernel_rfl) (by kernel_rfl) (by kernel_rfl) (fun _ _ _ h => h) (by rfl) ?hvp_d_17_18 ?restp_d_17_18
  case hvp_d_17_18 => (intro w' hb; go_simp; try with_reducible rfl)
  simp only [Act.put, List.setIfInBounds_toArray, List.set_cons_zero, List.set_cons_succ]
  refine wpAnyF_take (i := 18) (v := ?vp_d_18_19) (some 28) rfl rfl (by kernel_rfl) (by kernel_rfl) (by kernel_rfl) (fun _ _ _ h => h) (by rfl) ?hvp_d_18_19 ?restp_d_18_19
  case hvp_d_18_19 => (intro w' hb; go_simp; try with_reducible rfl)
  simp only [Act.put, List.setIfInBounds_toArray, List.set_cons_zero, List.set_cons_succ]
  refine wpAnyF_take (i := 19) (v := ?vp_d_19_20) (some 29) rfl rfl (by kernel_rfl) (by kernel_rfl) (by kernel_rfl) (fun _ _ _ h => h) (by rfl) ?hvp_d_19_20 ?restp_d_19_20
  case hvp_d_19_20 => (intro w' hb; go_simp; try with_reducible rfl)
  simp only [Act.put, List.setIfInBounds_toArray, List.set_cons_zero, List.set_cons_succ]
  refine wpAnyF_take (i := 20) (v := ?vp_d_20_21) (some 30) rfl rfl (by kernel_rfl) (by kernel_rfl) (by kernel_rfl) (fun _ _ _ h => h) (by rfl) ?hvp_d_20_21 ?restp_d_20_21
  case hvp_d_20_21 => (intro w' hb; go_simp; try with_reducible rfl)
  simp only [Act.put, List.setIfInBounds_toArray, List.set_cons_zero, List.set_cons_succ]
  refine wpAnyF_take (i := 21) (v := ?vp_d_21_22) (some 31) rfl rfl (by kernel_rfl) (by kernel_rfl) (by kernel_rfl) (fun _ _ _ h => h) (by rfl) ?hvp_d_21_22 ?restp_d_21_22
  case hvp_d_21_22 => (intro w' hb; go_simp; try with_reducible rfl)
  simp only [Act.put, List.setIfInBounds_toArray, List.set_cons_zero, List.set_cons_succ]
  refine wpAnyF_take (i := 22) (v := ?vp_d_22_23) (some 32) rfl rfl (by kernel_rfl) (by kernel_rfl) (by kernel_rfl) (fun _ _ _ h => h) (by rfl) ?hvp_d_22_23 ?restp_d_22_23
  case hvp_d_22_23 => (intro w' hb; (have hcw := (hb.cell (p := ⟨gy, 1, none⟩) hgl).trans k1; go_simp; try with_reducible rfl))
  simp only [Act.put, List.setIfInBounds_toArray, List.set_cons_zero, List.set_cons_succ]
  refine wpAnyF_take (i := 23) (v := ?vp_d_23_24) (some 33) rfl rfl (by kernel_rfl) (by kernel_rfl) (by kernel_rfl) (fun _ _ _ h => h) (by rfl) ?hvp_d_23_24 ?restp_d_23_24
  case hvp_d_23_24 => (intro w' hb; go_simp; try with_reducible rfl)
  simp only [Act.put, List.setIfInBounds_toArray, List.set_cons_zero, List.set_cons_succ]
  refine wpAnyF_take (i := 24) (v := ?vp_d_24_25) (some 34) rfl rfl (by kernel_rfl) (by kernel_rfl) (by kernel_rfl) (fun _ _ _ h => h) (by rfl) ?hvp_d_24_25 ?restp_d_24_25
  case hvp_d_24_25 => (intro w' hb; go_simp; try with_reducible rfl)
  simp only [Act.put, List.setIfInBounds_toArray, List.set_cons_zero, List.set_cons_succ]
  refine wpAnyF_take (i := 25) (v := ?vp_d_25_26) (some 35) rfl rfl (by kernel_rfl) (by kernel_rfl) (by kernel_rfl) (fun _ _ _ h => h) (by rfl) ?hvp_d_25_26 ?restp_d_25_26
  case hvp_d_25_26 => (intro w' hb; go_simp; try with_reducible rfl)
  simp only [Act.put, List.setIfInBounds_toArray, List.set_cons_zero, List.set_cons_succ]
  refine wpAnyF_alone (i := 26) rfl (by kernel_rfl) (by rfl) (fun K hK => ?_)
  go_simp
  rw [E1.out, E2.out, E3.out, E4.out]
  have hb : Below w.heap.size w.drew (w.alloc (.cells #[.int .u8 ((room : Int) / 256), .int .u8 ((room : Int) % 256), .int .u8 ((N : Int) / 256), .int .u8 ((N : Int) % 256)] 5)).drew := (Below.refl _ w.drew).alloc (by simp) _
  refine hK.out _ _ hb ?_
  clear hK K
  simp only [List.setIfInBounds_toArray, List.set_cons_zero, List.set_cons_succ]
  refine wpAnyF_take (i := 27) (v := ?vp_d_27_27) (some 3) rfl rfl (by kernel_rfl) (by kernel_rfl) (by kernel_rfl) (fun _ _ _ h => h) (by rfl) ?hvp_d_27_27 ?restp_d_27_27
  case hvp_d_27_27 => (intro w' hb; go_simp; try with_reducible rfl)
  simp only [Act.put, List.setIfInBounds_toArray, List.set_cons_zero, List.set_cons_succ]
  refine wpAnyF_done (by kernel_rfl) ?_ _
  go_wp2_with fail
  simp only [E1.out, E2.out, E3.out, E4.out, F1.out, F2.out, F3.out, F4.out, G1.out, G2.out, G3.out, G4.out]
  have ST0 := hid (show (w.alloc (.cells #[.int .u8 ((room : Int) / 256), .int .u8 ((room : Int) % 256), .int .u8 ((N : Int) / 256), .int .u8 ((N : Int) % 256)] 5)).drew.ownsRow w.heap.size 5 1 (.slice (some ⟨w.heap.size, 0, none⟩) 4 4) (4 + (bodyN L 0).length) ((headL room N ++ bodyN L 0).map (Value.int .u8)) from
    ⟨rfl, .inr ⟨w.heap.size, 4, _, rfl, Nat.le_refl _, heap_alloc_new w _, (by show 4 + 0 ≤ 4; omega), by decide, rfl, rfl⟩⟩)
  have SB0 := hid (show Below w.heap.size w (w.alloc (.cells #[.int .u8 ((room : Int) / 256), .int .u8 ((room : Int) % 256), .int .u8 ((N : Int) / 256), .int .u8 ((N : Int) % 256)] 5)).drew from ((Below.refl _ w).alloc (Nat.le_refl _) _).drew)
  clear hb
  generalize (w.alloc (.cells #[.int .u8 ((room : Int) / 256), .int .u8 ((room : Int) % 256), .int .u8 ((N : Int) / 256), .int .u8 ((N : Int) % 256)] 5)).drew = w4 at *
  go_loopw [3, 4] (fun b i wr => ∃ k : Nat, k ≤ N ∧ i = .int .i64 k ∧ wr.ownsRow w.heap.size 5 1 b (4 + (bodyN L k).length) ((headL room N ++ bodyN L k).map (Value.int .u8)) ∧ Below w.heap.size w wr) (fun _ i _ => N - (intOf i).toNat)
  case atStart => exact ⟨0, by omega, rfl, ST0.out, SB0.out⟩
  case round =>
    obtain ⟨k, hk, rfl, hown, hb⟩ := hrel
    have HOW := hid hown
    have HB := hid hb
    have HSZ := hid hb.size
    have kk1 := KK.out wr hb
    clear hown hb
    by_cases hlt : k < N
    · have hlt' : (k : Int) < N := by omega
      have hkl : k < L.length := by have := HN.out; omega
      obtain ⟨a', c', hv, ha, hc⟩ := HA.out
      obtain ⟨rfl, -, rfl⟩ := Value.slice.inj hv
      obtain ⟨b0, off, rfl⟩ := ha (by omega)
      have z1 : L[k]? = some L[k] := by simp [hkl]
      have HW := hid (HWF.out L[k] (List.getElem_mem hkl)).1
      have HR := hid (HWF.out L[k] (List.getElem_mem hkl)).2
      have HD := hid (show L.getD k zeroR = L[k] by rw [List.getD_eq_getElem?_getD, z1]; rfl)
      have CA := hid (fun W hW => rrow_cells (RR.out W hW) z1)
      have HBN := hid (bodyN_len HL11.out k)
      have hgw : gy < wr.heap.size := by have := HSZ.out; omega
      clear hv ha z1
      generalize L[k] = Z at *
      have HZL := hid HW.out.1
      rcases k with _ | k
      · have HCH := hid (show bodyN L (0 + 1) = bodyN L 0 ++ frameL Z by rw [bodyN_succ]; unfold chunkL; rw [if_pos rfl, HD.out])
        have HFL := hid (frameL_len Z HZL.out)
        go_wp2_with ((with_reducible refine at_op (.load 50 (.tmp 53)) ?_); refine wpR_load_part rfl (.tmp 53) rfl ⟨b0, off, none⟩ rfl Z HZL.out ?_ ?_; (intro i x hj; rw [add_plain]; exact CA.out wr HB.out i x hj _ (by omega)))
        refine (rfput_any Z HW.out _).mono ?_
        rintro e w6 ⟨v6, rfl, hb6, hown6⟩
        rw [putL_right HR.out] at hown6
        rw [putE_right HR.out]
        have HB6 := hid (chain HB.out hb6)
        have HRF := hid (reads_of_owns hown6 (frameL_wf Z HZL.out))
        have HOW6 := hid (ownsRow_below HOW.out hb6)
        have HSZ6 := hid HB6.out.size
        clear hown6 hb6 kk1
        go_wp2_with ((with_reducible refine at_op (.call { callee := .builtin .append, args := #[.tmp 58, .tmp 59], argTypes := #[22, 22] }) ?_); refine wpList_append_reads_at rfl (.tmp 58) (.tmp 59) 22 rfl w.heap.size 5 i0 (.int .u8 0) .u8 1 Tryd.underlying22 hi hz0 hz1 hz2 rfl _ (4 + (bodyN L 0).length) _ rfl HOW6.out _ (frameL Z) rfl HRF.out ?_ ?_ HSZ6.out ?_; (have := HFL.out; simp [maxLen, bodyN]; omega); (have := HFL.out; simp [bodyN]; omega); intro v7 w7 hown7 hg7 hl7)
        have hB7 := HB6.out.grown hg7 HSZ6.out (fun k e => (HOW6.out.lt k e).1)
        rw [HFL.out] at hown7
        go_wp2_with fail
        go_roundw
        case rel =>
          refine ⟨1, by omega, by go_num, ?_, hB7⟩
          rw [HCH.out, List.length_append, HFL.out, ← List.append_assoc, List.map_append, ← Nat.add_assoc]
          exact hown7
        case measure => simp [intOf]; omega
      · have hk1 : k < L.length := by omega
        have z2 : L[k]? = some L[k] := by simp [hk1]
        have HW2 := hid (HWF.out L[k] (List.getElem_mem hk1)).1
        have HR2 := hid (HWF.out L[k] (List.getElem_mem hk1)).2
        have HD2 := hid (show L.getD (k + 1 - 1) zeroR = L[k] by rw [Nat.add_sub_cancel, List.getD_eq_getElem?_getD, z2]; rfl)
        have CA2 := hid (fun W hW => rrow_cells (RR.out W hW) z2)
        clear z2
        generalize L[k] = Y at *
        have HYL := hid HW2.out.1
        have HCH := hid (show bodyN L (k + 1 + 1) = bodyN L (k + 1) ++ deltaN Z Y 11 by rw [bodyN_succ]; unfold chunkL; rw [if_neg (by omega), HD.out, HD2.out])
        obtain ⟨kp, hkp⟩ : ∃ kp, kp = k + 1 := ⟨_, rfl⟩
        rw [← hkp] at hlt' HCH HOW hk hlt HBN CA ⊢
        have hkm : (kp : Int) - 1 = k := by omega
        have hk9 : (k : Int) < N := by omega
        have hkp0 : ¬ (kp : Int) = 0 := by omega
        have HKP := hid hkp
        have IK := hid (show IntKind.i64.wrap (k : Int) = k from IntWalk.i64_in _ (by omega))
        clear hkp hkl hk1
        go_wp2_with fail
        refine wp_region_F' (B := wr.heap.size) (n := 19) (l := #[false, false, false, false, false, false, false, false, false, false, false, false, false, false, false, false, false, false, false]) (by kernel_rfl) (by kernel_rfl) (by kernel_rfl) ?_
        refine wpAnyF_take (i := 0) (v := ?vq_c_0_1) (some 61) rfl rfl (by kernel_rfl) (by kernel_rfl) (by kernel_rfl) (fun _ _ _ h => h) (by rfl) ?hvq_c_0_1 ?restq_c_0_1
        case hvq_c_0_1 => (intro w' hb; go_simp; try with_reducible rfl)
        simp only [Act.put, List.setIfInBounds_toArray, List.set_cons_zero, List.set_cons_succ]
        refine wpAnyF_take (i := 1) (v := ?vq_c_1_2) (some 62) rfl rfl (by kernel_rfl) (by kernel_rfl) (by kernel_rfl) (fun _ _ _ h => h) (by rfl) ?hvq_c_1_2 ?restq_c_1_2
        case hvq_c_1_2 => (intro w' hb; go_simp; try with_reducible rfl)
        simp only [Act.put, List.setIfInBounds_toArray, List.set_cons_zero, List.set_cons_succ]
        refine wpAnyF_take (i := 2) (v := ?vq_c_2_3) (some 63) rfl rfl (by kernel_rfl) (by kernel_rfl) (by kernel_rfl) (fun _ _ _ h => h) (by rfl) ?hvq_c_2_3 ?restq_c_2_3
        case hvq_c_2_3 => (intro w' hb; go_simp; try with_reducible rfl)
        simp only [Act.put, List.setIfInBounds_toArray, List.set_cons_zero, List.set_cons_succ]
        refine wpAnyF_take (i := 3) (v := ?vq_c_3_4) (some 64) rfl rfl (by kernel_rfl) (by kernel_rfl) (by kernel_rfl) (fun _ _ _ h => h) (by rfl) ?hvq_c_3_4 ?restq_c_3_4
        case hvq_c_3_4 => (intro w' hb; (have hcw := (hb.cell (p := ⟨gy, 1, none⟩) hgw).trans kk1; go_simp; try with_reducible rfl))
        simp only [Act.put, List.setIfInBounds_toArray, List.set_cons_zero, List.set_cons_succ]
        refine wpAnyF_take (i := 4) (v := ?vq_c_4_5) (some 65) rfl rfl (by kernel_rfl) (by kernel_rfl) (by kernel_rfl) (fun _ _ _ h => h) (by rfl) ?hvq_c_4_5 ?restq_c_4_5
        case hvq_c_4_5 => (intro w' hb; go_simp; try with_reducible rfl)
        simp only [Act.put, List.setIfInBounds_toArray, List.set_cons_zero, List.set_cons_succ]
        refine wpAnyF_take (i := 5) (v := ?vq_c_5_6) (some 66) rfl rfl (by kernel_rfl) (by kernel_rfl) (by kernel_rfl) (fun _ _ _ h => h) (by rfl) ?hvq_c_5_6 ?restq_c_5_6
        case hvq_c_5_6 => (intro w' hb; go_simp; try with_reducible rfl)
        simp only [Act.put, List.setIfInBounds_toArray, List.set_cons_zero, List.set_cons_succ]
        refine wpAnyF_take (i := 6) (v := ?vq_c_6_7) (some 67) rfl rfl (by kernel_rfl) (by kernel_rfl) (by kernel_rfl) (fun _ _ _ h => h) (by rfl) ?hvq_c_6_7 ?restq_c_6_7
        case hvq_c_6_7 => (intro w' hb; (refine exec_load_part (.tmp 66) ?_ ⟨b0, off + kp * 11, none⟩ ?_ Z HZL.out ?_; rfl; rfl; (intro i x hj; rw [add_plain]; exact CA.out w' (HB.out.trans ((Below.drewl hb).mono HSZ.out)) i x hj _ (by have := HKP.out; omega))))
        simp only [Act.put, List.setIfInBounds_toArray, List.set_cons_zero, List.set_cons_succ]
        refine wpAnyF_take (i := 8) (v := ?vq_c_8_8) (some 69) rfl rfl (by kernel_rfl) (by kernel_rfl) (by kernel_rfl) (fun _ _ _ h => h) (by rfl) ?hvq_c_8_8 ?restq_c_8_8
        case hvq_c_8_8 => (intro w' hb; go_simp; try with_reducible rfl)
        simp only [Act.put, List.setIfInBounds_toArray, List.set_cons_zero, List.set_cons_succ]
        refine wpAnyF_take (i := 9) (v := ?vq_c_9_9) (some 70) rfl rfl (by kernel_rfl) (by kernel_rfl) (by kernel_rfl) (fun _ _ _ h => h) (by rfl) ?hvq_c_9_9 ?restq_c_9_9
        case hvq_c_9_9 => (intro w' hb; go_simp; try with_reducible rfl)
        simp only [Act.put, List.setIfInBounds_toArray, List.set_cons_zero, List.set_cons_succ]
        refine wpAnyF_take (i := 10) (v := ?vq_c_10_10) (some 71) rfl rfl (by kernel_rfl) (by kernel_rfl) (by kernel_rfl) (fun _ _ _ h => h) (by rfl) ?hvq_c_10_10 ?restq_c_10_10
        case hvq_c_10_10 => (intro w' hb; go_simp; try with_reducible rfl)
        simp only [Act.put, List.setIfInBounds_toArray, List.set_cons_zero, List.set_cons_succ]
        refine wpAnyF_take (i := 11) (v := ?vq_c_11_11) (some 72) rfl rfl (by kernel_rfl) (by kernel_rfl) (by kernel_rfl) (fun _ _ _ h => h) (by rfl) ?hvq_c_11_11 ?restq_c_11_11
        case hvq_c_11_11 => (intro w' hb; (have hcw := (hb.cell (p := ⟨gy, 1, none⟩) hgw).trans kk1; go_simp; try with_reducible rfl))
        simp only [Act.put, List.setIfInBounds_toArray, List.set_cons_zero, List.set_cons_succ]
        refine wpAnyF_take (i := 12) (v := ?vq_c_12_12) (some 73) rfl rfl (by kernel_rfl) (by kernel_rfl) (by kernel_rfl) (fun _ _ _ h => h) (by rfl) ?hvq_c_12_12 ?restq_c_12_12
        case hvq_c_12_12 => (intro w' hb; go_simp; try with_reducible rfl)
        simp only [Act.put, List.setIfInBounds_toArray, List.set_cons_zero, List.set_cons_succ]
        refine wpAnyF_take (i := 13) (v := ?vq_c_13_13) (some 74) rfl rfl (by kernel_rfl) (by kernel_rfl) (by kernel_rfl) (fun _ _ _ h => h) (by rfl) ?hvq_c_13_13 ?restq_c_13_13
        case hvq_c_13_13 => (intro w' hb; (have eik := IK.out; go_simp; try with_reducible rfl))
        simp only [Act.put, List.setIfInBounds_toArray, List.set_cons_zero, List.set_cons_succ]
        refine wpAnyF_take (i := 14) (v := ?vq_c_14_14) (some 75) rfl rfl (by kernel_rfl) (by kernel_rfl) (by kernel_rfl) (fun _ _ _ h => h) (by rfl) ?hvq_c_14_14 ?restq_c_14_14
        case hvq_c_14_14 => (intro w' hb; go_simp; try with_reducible rfl)
        simp only [Act.put, List.setIfInBounds_toArray, List.set_cons_zero, List.set_cons_succ]
        refine wpAnyF_take (i := 15) (v := ?vq_c_15_15) (some 76) rfl rfl (by kernel_rfl) (by kernel_rfl) (by kernel_rfl) (fun _ _ _ h => h) (by rfl) ?hvq_c_15_15 ?restq_c_15_15
        case hvq_c_15_15 => (intro w' hb; (refine exec_load_part (.tmp 75) ?_ ⟨b0, off + k * 11, none⟩ ?_ Y HYL.out ?_; rfl; rfl; (intro i x hj; rw [add_plain]; exact CA2.out w' (HB.out.trans ((Below.drewl hb).mono HSZ.out)) i x hj _ (by have := HKP.out; omega))))
        simp only [Act.put, List.setIfInBounds_toArray, List.set_cons_zero, List.set_cons_succ]
        refine wpAnyF_alone (i := 7) rfl (by kernel_rfl) (by rfl) (fun K hK => ?_)
        go_simp
        refine (rnums_any Z HW.out _).mono ?_
        rintro e w8 ⟨nv8, rfl, hb8, hown8⟩
        have hb : Below wr.heap.size wr.drew w8 := hb8.mono (by simp)
        refine hK.out _ _ hb ?_
        clear hK K
        simp only [List.setIfInBounds_toArray, List.set_cons_zero, List.set_cons_succ]
        refine wpAnyF_alone (i := 16) rfl (by kernel_rfl) (by rfl) (fun K hK => ?_)
        go_simp
        refine (rnums_any Y HW2.out _).mono ?_
        rintro e w9 ⟨nv9, rfl, hb9, hown9⟩
        have hb : Below wr.heap.size w8 w9 := hb9.mono (by have := hb8.size; simpa using this)
        refine hK.out _ _ hb ?_
        clear hK K
        simp only [List.setIfInBounds_toArray, List.set_cons_zero, List.set_cons_succ]
        refine wpAnyF_take (i := 17) (v := ?vq_c_17_16) (some 7) rfl rfl (by kernel_rfl) (by kernel_rfl) (by kernel_rfl) (fun _ _ _ h => h) (by rfl) ?hvq_c_17_16 ?restq_c_17_16
        case hvq_c_17_16 => (intro w' hb; go_simp; try with_reducible rfl)
        simp only [Act.put, List.setIfInBounds_toArray, List.set_cons_zero, List.set_cons_succ]
        refine wpAnyF_take (i := 18) (v := ?vq_c_18_17) (some 8) rfl rfl (by kernel_rfl) (by kernel_rfl) (by kernel_rfl) (fun _ _ _ h => h) (by rfl) ?hvq_c_18_17 ?restq_c_18_17
        case hvq_c_18_17 => (intro w' hb; go_simp; try with_reducible rfl)
        simp only [Act.put, List.setIfInBounds_toArray, List.set_cons_zero, List.set_cons_succ]
        refine wpAnyF_done (by kernel_rfl) ?_ _
        generalize wr = wo at *
        have HX9 := hid (own_base (base' := wo.heap.size) (ownsRow_below hown8 hb9) (by simp))
        have HY9 := hid (own_base (base' := wo.heap.size) hown9 (by have := hb8.size; simpa using this))
        have hbb : Below wo.heap.size wo w9 := (Below.drewl (hb8.mono (by simp))).trans hb
        have HO9 := hid (ownsRow_below HOW.out hbb)
        have HB9 := hid (chain HB.out hbb)
        obtain ⟨gx, cx, hnx, hcx⟩ := own_some HX9.out (by decide)
        obtain ⟨gz, cz, hnz, hcz⟩ := own_some HY9.out (by decide)
        subst hnx
        subst hnz
        have HXB := hid (fun j h => rep_bd32 HW.out HR.out j h)
        have HYB := hid (fun j h => rep_bd32 HW2.out HR2.out j h)
        clear hb8 hb9 hown8 hown9 hb hbb kk1
        go_wp2_with fail
        go_loopw [3, 9] (fun b t wr => ∃ j : Nat, j ≤ 11 ∧ t = .int .i64 j ∧ wr.ownsRow w.heap.size 5 1 b (4 + (bodyN L kp).length + (deltaN Z Y j).length) ((headL room N ++ bodyN L kp ++ deltaN Z Y j).map (Value.int .u8)) ∧ wr.ownsRow wo.heap.size 2 1 (.slice (some ⟨gx, 0, none⟩) 11 cx) 11 (Z.map (Value.int .i64)) ∧ wr.ownsRow wo.heap.size 2 1 (.slice (some ⟨gz, 0, none⟩) 11 cz) 11 (Y.map (Value.int .i64)) ∧ Below w.heap.size w wr) (fun _ t _ => 11 - (intOf t).toNat)
        case atStart => exact ⟨0, by omega, rfl, by simpa [deltaN] using HO9.out, HX9.out, HY9.out, HB9.out⟩
        case round =>
          obtain ⟨j, hj, rfl, ho, hx, hy, hbw⟩ := hrel
          have QO := hid ho
          have QX := hid hx
          have QY := hid hy
          have QB := hid hbw
          have QSZ := hid hbw.size
          clear ho hx hy hbw
          by_cases hj11 : j < 11
          · have hj' : (j : Int) < 11 := by omega
            have qx : wr.cell? ⟨gx, j, none⟩ = some (.int .i64 (Z.getD j 0)) := own_cell QX.out j _ (by rw [List.getElem?_map, List.getD_eq_getElem?_getD, List.getElem?_eq_getElem (by rw [HZL.out]; exact hj11)]; rfl)
            have qy : wr.cell? ⟨gz, j, none⟩ = some (.int .i64 (Y.getD j 0)) := own_cell QY.out j _ (by rw [List.getElem?_map, List.getD_eq_getElem?_getD, List.getElem?_eq_getElem (by rw [HYL.out]; exact hj11)]; rfl)
            obtain ⟨x1, x2⟩ := HXB.out j hj11
            obtain ⟨y1, y2⟩ := HYB.out j hj11
            have QDS := hid (deltaN_succ Z Y j)
            have QLN := hid (show 4 + (bodyN L kp).length + (deltaN Z Y j).length ≤ 56000 by have h1 := HBN.out; have h2 := deltaN_len Z Y j; have h3 : kp ≤ 1000 := (by omega); omega)
            generalize Z.getD j 0 = x at *
            generalize Y.getD j 0 = y at *
            have XY := hid (show IntKind.i64.wrap (x - y) = x - y from IntWalk.i64_in _ (by omega))
            have QSL := hid (shortL_len 4 (zig (lowI (x - y))) (by have := zig_lt (x - y); omega))
            go_wp2_with fail
            refine wp_region_L' (z := 12) (B := wr.heap.size) (n := 14) (l := #[false, false, false, false, false, false, false, false, false, false, false, false, false, false]) (by kernel_rfl) (by kernel_rfl) (by kernel_rfl) ?_
            refine wpAnyL_take (i := 0) (v := ?vz_0_1) (some 82) rfl rfl (by kernel_rfl) (by kernel_rfl) (by kernel_rfl) (fun _ _ _ h => h) (by rfl) [12, 13] (by kernel_rfl) ?hvz_0_1 ?restz_0_1
            case hvz_0_1 => (intro w' hb; go_simp; try with_reducible rfl)
            simp only [Act.put, List.setIfInBounds_toArray, List.set_cons_zero, List.set_cons_succ]
            refine wpAnyL_take (i := 1) (v := ?vz_1_2) (some 83) rfl rfl (by kernel_rfl) (by kernel_rfl) (by kernel_rfl) (fun _ _ _ h => h) (by rfl) [3, 4, 9, 10, 11, 12, 13] (by kernel_rfl) ?hvz_1_2 ?restz_1_2
            case hvz_1_2 => (intro w' hb; go_simp; try with_reducible rfl)
            simp only [Act.put, List.setIfInBounds_toArray, List.set_cons_zero, List.set_cons_succ]
            refine wpAnyL_take (i := 2) (v := ?vz_2_3) (some 84) rfl rfl (by kernel_rfl) (by kernel_rfl) (by kernel_rfl) (fun _ _ _ h => h) (by rfl) [3, 4, 9, 10, 11, 12, 13] (by kernel_rfl) ?hvz_2_3 ?restz_2_3
            case hvz_2_3 => (intro w' hb; go_simp; try with_reducible rfl)
            simp only [Act.put, List.setIfInBounds_toArray, List.set_cons_zero, List.set_cons_succ]
            refine wpAnyL_take (i := 3) (v := ?vz_3_4) (some 85) rfl rfl (by kernel_rfl) (by kernel_rfl) (by kernel_rfl) (fun _ _ _ h => h) (by rfl) [4, 9, 10, 11, 12, 13] (by kernel_rfl) ?hvz_3_4 ?restz_3_4
            case hvz_3_4 => (intro w' hb; go_simp; try with_reducible rfl)
            simp only [Act.put, List.setIfInBounds_toArray, List.set_cons_zero, List.set_cons_succ]
            refine wpAnyL_take (i := 4) (v := ?vz_4_5) (some 86) rfl rfl (by kernel_rfl) (by kernel_rfl) (by kernel_rfl) (fun _ _ _ h => h) (by rfl) [9, 10, 11, 12, 13] (by kernel_rfl) ?hvz_4_5 ?restz_4_5
            case hvz_4_5 => (intro w' hb; (have hcw := (hb.cell (p := ⟨gx, j, none⟩) (lt_of_cell qx)).trans qx; go_simp; try with_reducible rfl))
            simp only [Act.put, List.setIfInBounds_toArray, List.set_cons_zero, List.set_cons_succ]
            refine wpAnyL_take (i := 5) (v := ?vz_5_6) (some 87) rfl rfl (by kernel_rfl) (by kernel_rfl) (by kernel_rfl) (fun _ _ _ h => h) (by rfl) [7, 8, 9, 10, 11, 12, 13] (by kernel_rfl) ?hvz_5_6 ?restz_5_6
            case hvz_5_6 => (intro w' hb; go_simp; try with_reducible rfl)
            simp only [Act.put, List.setIfInBounds_toArray, List.set_cons_zero, List.set_cons_succ]
            refine wpAnyL_take (i := 6) (v := ?vz_6_7) (some 88) rfl rfl (by kernel_rfl) (by kernel_rfl) (by kernel_rfl) (fun _ _ _ h => h) (by rfl) [7, 8, 9, 10, 11, 12, 13] (by kernel_rfl) ?hvz_6_7 ?restz_6_7
            case hvz_6_7 => (intro w' hb; go_simp; try with_reducible rfl)
            simp only [Act.put, List.setIfInBounds_toArray, List.set_cons_zero, List.set_cons_succ]
            refine wpAnyL_take (i := 7) (v := ?vz_7_8) (some 89) rfl rfl (by kernel_rfl) (by kernel_rfl) (by kernel_rfl) (fun _ _ _ h => h) (by rfl) [8, 9, 10, 11, 12, 13] (by kernel_rfl) ?hvz_7_8 ?restz_7_8
            case hvz_7_8 => (intro w' hb; go_simp; try with_reducible rfl)
            simp only [Act.put, List.setIfInBounds_toArray, List.set_cons_zero, List.set_cons_succ]
            refine wpAnyL_take (i := 8) (v := ?vz_8_9) (some 90) rfl rfl (by kernel_rfl) (by kernel_rfl) (by kernel_rfl) (fun _ _ _ h => h) (by rfl) [9, 10, 11, 12, 13] (by kernel_rfl) ?hvz_8_9 ?restz_8_9
            case hvz_8_9 => (intro w' hb; (have hcw := (hb.cell (p := ⟨gz, j, none⟩) (lt_of_cell qy)).trans qy; go_simp; try with_reducible rfl))
            simp only [Act.put, List.setIfInBounds_toArray, List.set_cons_zero, List.set_cons_succ]
            refine wpAnyL_take (i := 9) (v := ?vz_9_10) (some 91) rfl rfl (by kernel_rfl) (by kernel_rfl) (by kernel_rfl) (fun _ _ _ h => h) (by rfl) [10, 11, 12, 13] (by kernel_rfl) ?hvz_9_10 ?restz_9_10
            case hvz_9_10 => (intro w' hb; (have exy := XY.out; go_simp; try with_reducible rfl))
            simp only [Act.put, List.setIfInBounds_toArray, List.set_cons_zero, List.set_cons_succ]
            refine wpAnyL_alone (i := 10) rfl (by kernel_rfl) (by rfl) (fun K hK => ?_)
            go_simp
            refine (rlow_any _ _ (by omega)).mono ?_
            rintro e w2 ⟨rfl, rfl⟩
            refine hK.out _ _ (fun _ => (Below.refl _ _)) ?_
            clear hK K
            simp only [List.setIfInBounds_toArray, List.set_cons_zero, List.set_cons_succ]
            refine wpAnyL_alone (i := 11) rfl (by kernel_rfl) (by rfl) (fun K hK => ?_)
            go_simp
            refine (rshort_any _ _ (lowI_bd _)).mono ?_
            rintro e w3 ⟨sv, rfl, hb3, hown3⟩
            have hb : Below wr.heap.size wr.drew w3 := hb3.mono (by simp)
            refine hK.out _ _ (fun _ => (hb)) ?_
            clear hK K
            simp only [List.setIfInBounds_toArray, List.set_cons_zero, List.set_cons_succ]
            refine wpAnyL_alone (i := 12) rfl (by kernel_rfl) (by rfl) (fun K hK => ?_)
            obtain ⟨gs, cs, hsv, hsc⟩ := own_some hown3 (shortL_pos _)
            subst hsv
            have hbq : Below wr.heap.size wr w3 := Below.drewl hb
            obtain ⟨v7, w7, hrun, hown7, hg7, -, hl7⟩ := run_append_own_at (P := Tryd.prog) (w := w3) w.heap.size 22 22 5 i0 (.int .u8 0) 1 1 Tryd.underlying22 hi hz0 hz1 hz2 rfl (by decide) _ _ _ (ownsRow_below QO.out hbq) ⟨gs, 0, none⟩ (shortL (zig (lowI (x - y)))).length cs ((shortL (zig (lowI (x - y)))).map (Value.int .u8)) (by simp)
              (by intro i q hq; rw [add_plain, Nat.zero_add]; exact own_cell hown3 i q hq) (by intro q hq; obtain ⟨_, _, rfl⟩ := List.mem_map.1 hq; rfl) (by have := QLN.out; have := QSL.out; simp [maxLen]; omega) (by have := QLN.out; have := QSL.out; omega) (by have := hbq.size; have := QSZ.out; omega)
            have FIN12 := hid (show w7.ownsRow w.heap.size 5 1 v7 (4 + (bodyN L kp).length + (deltaN Z Y (j + 1)).length) ((headL room N ++ bodyN L kp ++ deltaN Z Y (j + 1)).map (Value.int .u8)) ∧ w7.ownsRow wo.heap.size 2 1 (.slice (some ⟨gx, 0, none⟩) 11 cx) 11 (Z.map (Value.int .i64)) ∧ w7.ownsRow wo.heap.size 2 1 (.slice (some ⟨gz, 0, none⟩) 11 cz) 11 (Y.map (Value.int .i64)) ∧ Below w.heap.size w w7 from by
              refine ⟨?_, (ownsRow_below QX.out hbq).kept hg7 (own_ne (ownsRow_below QX.out hbq) (ownsRow_below QO.out hbq) (by decide)), (ownsRow_below QY.out hbq).kept hg7 (own_ne (ownsRow_below QY.out hbq) (ownsRow_below QO.out hbq) (by decide)), (chain QB.out hbq).grown hg7 (by have := hbq.size; have := QSZ.out; omega) (fun k e => (QO.out.lt k e).1)⟩
              rw [QDS.out, List.length_append, ← List.append_assoc, List.map_append, ← Nat.add_assoc]
              exact hown7)
            refine wp_append_run (.tmp 82) (.tmp 93) 22 rfl rfl rfl hrun ?_
            simp only [List.getElem_toArray, List.getElem_cons_succ, List.getElem_cons_zero, Act.put, List.setIfInBounds_toArray, List.set_cons_zero, List.set_cons_succ]
            clear hown7 hg7 hl7 hrun
            refine hK.out _ _ (fun h => absurd rfl h) ?_
            clear hK K
            simp only [List.setIfInBounds_toArray, List.set_cons_zero, List.set_cons_succ]
            refine wpAnyL_alone (i := 13) rfl (by kernel_rfl) (by rfl) (fun K hK => ?_)
            go_simp
            refine hK.out _ _ (fun _ => (Below.refl _ _)) ?_
            clear hK K
            simp only [List.setIfInBounds_toArray, List.set_cons_zero, List.set_cons_succ]
            refine wpAnyL_done (by kernel_rfl) ?_ _
            go_wp2_with fail
            go_roundw
            case rel => exact ⟨j + 1, by omega, by go_num, FIN12.out⟩
            case measure => simp [intOf]; omega
          · obtain rfl : j = 11 := by omega
            go_wp2_with fail
            go_roundw
            case rel =>
              refine ⟨kp + 1, by omega, by go_num, ?_, QB.out⟩
              rw [HCH.out, List.length_append, ← List.append_assoc, ← Nat.add_assoc]
              exact QO.out
            case measure => simp [intOf]; omega
    · obtain rfl : k = N := by omega
      have HR4 := hid (reads_of_owns (l := headL room k ++ bodyN L k) HOW.out (fun x hx => (List.mem_append.1 hx).elim (HHW.out x) (bodyN_wf HL11.out k x)))
      have HBN := hid (bodyN_len HL11.out k)
      have HLB := hid (show logB room L = headL room k ++ bodyN L k by unfold logB; rw [← HN.out])
      go_wp2_with fail
      refine (rseal_any _ _ _ HR4.out (by have := HBN.out; rw [List.length_append]; have : (headL room k).length = 4 := rfl; omega)).mono ?_
      rintro e w8 ⟨v8, rfl, hb8, hown8⟩
      have HO8 := hid hown8
      have HB8 := hid (chain HB.out hb8)
      clear hown8 hb8
      go_wp2
      go_ret
      refine ⟨_, rfl, HB8.out, ?_⟩
      unfold logL
      rw [HLB.out, show (sealL (headL room k ++ bodyN L k)).length = (headL room k ++ bodyN L k).length + 2 from by unfold sealL; rw [List.length_append]; rfl]
      exact own_base HO8.out HSZ.out
end Go.Proofs.YtecbfegohdllbaaDoor
