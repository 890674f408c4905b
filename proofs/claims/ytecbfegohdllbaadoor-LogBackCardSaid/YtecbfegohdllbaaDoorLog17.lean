/- Layer 47 (log): a log's bytes: a contract. -/
import Derived.Test.YtecbfegohdllbaaDoorLog16
import Derived.Test.YtecbfegohdllbaaDoorEachH
namespace Go.Proofs.YtecbfegohdllbaaDoor
open Go.RowKit
set_option linter.unusedVariables false
set_option linter.unusedSimpArgs false
def zrow : Array Value := #[.int .i32 0, .int .i32 0, .int .i32 0, .int .i32 0, .int .i32 0, .int .i32 0, .int .i32 0, .int .i32 0, .int .i32 0, .int .i32 0, .int .i32 0]
theorem ocells_size {Z : List Int} (h : Z.length = 11) : (ocells Z).size = 11 := by simp [ocells, h]
theorem ocells_one (Z : List Int) : (ocells Z).all (·.oneCell') = true := by
  apply Array.all_eq_true_iff_forall_mem.2
  intro v hv
  simp only [ocells, List.mem_toArray, List.mem_map] at hv
  obtain ⟨_, _, rfl⟩ := hv
  rfl
theorem ocells_at {Z : List Int} (h : Z.length = 11) (j : Nat) (hj : j < 11) : (ocells Z)[j]? = some (.int .i32 (Z.getD j 0)) := by
  unfold ocells
  rw [List.getElem?_toArray, List.getElem?_map, List.getD_eq_getElem?_getD, List.getElem?_eq_getElem (by omega)]
  rfl
theorem wp_alloc_lrow {o : Oper} {a : Act} {w : World} {K : Act → World → Prop} {Q : Exit → Act → World → Prop} (ho : o.op = .alloc 121)
    (h : ∀ g w', g = w.heap.size → w' = w.alloc (.cells zrow 121) → K (a.put o.dst (.pointer (some ⟨g, 0, none⟩))) w') : o.wp Tryd.prog a w K Q := by
  have h' := h _ _ rfl rfl
  unfold Oper.wp execOp
  simp only [ho]
  go_simp
  exact h'
theorem wp_store_lrow {o : Oper} {a : Act} {w : World} {K : Act → World → Prop} {Q : Exit → Act → World → Prop} (x y : Operand) (ho : o.op = .store 121 x y)
    (g B : Nat) (Z : List Int) (old : Array Value) (hZ : Z.length = 11) (hx : a.eval x = .pointer (some ⟨g, 0, none⟩)) (hy : a.eval y = .agg (ocells Z)) (hg : w.heap[g]? = some (.cells old 121 (0, 0))) (hs : old.size = 11) (hB : B ≤ g)
    (h : ∀ w', w'.heap[g]? = some (.cells (ocells Z) 121 (0, 0)) → (∀ k, k ≠ g → w'.heap[k]? = w.heap[k]?) → Below B w w' → K (a.put o.dst undef) w') : o.wp Tryd.prog a w K Q := by
  refine wp_store_row 121 x y ho g (ocells Z) hx hy _ _ hg (by rw [ocells_size hZ]; kernel_rfl) (by rw [hs, ocells_size hZ]) (ocells_one Z) ?_
  exact h _ (setRow_heap _ _ _ _ _ _ hg) (fun k hk => setRow_other _ _ _ _ hk) (below_setRow (Below.refl _ _) hB _)
set_option maxRecDepth 100000 in
set_option maxHeartbeats 4000000 in
theorem lbytes_any {M g room f : Nat} {ring : Value} {R : List (List Int)} (a0 a1 : Addr) (w : World) (h : LG M g room ring R f w) (hF : FE a0 a1 w) :
    Calls Tryd.prog 54 #[.pointer (some ⟨g, 0, none⟩)] w fun e w' => ∃ v, e = .returned v ∧ Below w.heap.size w w' ∧ w'.ownsRow w.heap.size 5 1 v (logL room (ringL R f)).length ((logL room (ringL R f)).map (Value.int .u8)) := by
  obtain ⟨i0, hi, hz0, hz1, hz2⟩ := info_parts Tryd.infoU8
  have HALL := hid (lall_any w h)
  have F0 := hid hF
  obtain ⟨q0, q1, q2, q3, q4, q5, q6, q7, q8, q9⟩ := h
  have hfle : f ≤ R.length := by
    by_cases h : R.length < room
    · have := q8 h; omega
    · omega
  have HWF := hid (show ∀ Z ∈ ringL R f, RepWf Z ∧ RightL Z from fun Z hZ => by
    rcases List.mem_append.1 hZ with h1 | h1
    · exact q4 Z (List.mem_of_mem_drop h1)
    · exact q4 Z (List.mem_of_mem_take h1))
  have HL11 := hid (show ∀ Z ∈ ringL R f, Z.length = 11 from fun Z hZ => (HWF.out Z hZ).1.1)
  have hN1 : (ringL R f).length ≤ 1000 := by rw [ringL_len hfle]; omega
  have hgl := lt_of_row q0
  have LV := hid (live_row g room _ _ w (by omega) q0)
  have k0 : w.cell? ⟨g, 0, none⟩ = some (.int .i64 room) := (cell_of_row w g 0 _ _ _ q0).trans rfl
  have hr0 : (0 : Int) ≤ room := by omega
  have hr1 : (room : Int) ≤ 1000 := by omega
  have HF4 := hid hF.1
  generalize ringL R f = L at *
  obtain ⟨N, hN⟩ : ∃ N, N = L.length := ⟨_, rfl⟩
  have HN := hid hN
  rw [← hN] at hN1
  have hNN : (N : Int) ≤ 1000 := by omega
  have hN0 : (0 : Int) ≤ N := by omega
  have HHW := hid (headL_wf room N (by omega) (by omega))
  have G1 := hid (show IntKind.u8.wrap ((room : Int) / 256) = (room : Int) / 256 by rw [IntWalk.u8_in _ (by omega)])
  have G2 := hid (show IntKind.u8.wrap (room : Int) = (room : Int) % 256 by rw [IntKind.wrap_u8])
  have G3 := hid (show IntKind.u8.wrap ((N : Int) / 256) = (N : Int) / 256 by rw [IntWalk.u8_in _ (by omega)])
  have G4 := hid (show IntKind.u8.wrap (N : Int) = (N : Int) % 256 by rw [IntKind.wrap_u8])
  clear q0 q1 q2 q3 q4 q5 q6 q7 q8 q9 hF hfle
  go_enter Tryd.func54, Tryd.ntmps54
  go_wp2_with fail
  refine LV.out.mono ?_
  rintro e w1 ⟨rfl, rfl⟩
  go_wp2_with fail
  refine HALL.out.mono ?_
  rintro e w3 ⟨u3, rfl, hb3, hrow3⟩
  obtain ⟨ua, uc, rfl⟩ := own_slice hrow3
  have k3 := (hb3.cell (p := ⟨g, 0, none⟩) hgl).trans k0
  have hg3 : g < w3.heap.size := by have := hb3.size; omega
  have RR := hid (fun W (hW : Below w3.heap.size w3 W) => rrow_of_rows (ownsRow_below hrow3 hW : Rows' w.heap.size W _ L) HL11.out)
  have HA := hid (rrow_at (rrow_of_rows hrow3 HL11.out) HL11.out)
  have HB3 := hid hb3
  have HS3 := hid hb3.size
  rw [← HN.out] at RR HA
  rw [← HN.out]
  clear hb3 hrow3 k0 hN
  go_wp2_with fail
  refine wp_region_F' (B := w3.heap.size) (n := 20) (l := #[false, false, false, false, false, false, false, false, false, false, false, false, false, false, false, false, false, false, false, false]) (by kernel_rfl) (by kernel_rfl) (by kernel_rfl) ?_
  refine wpAnyF_take (i := 0) (v := ?vp_d_0_1) (some 17) rfl rfl (by kernel_rfl) (by kernel_rfl) (by kernel_rfl) (fun _ _ _ h => h) (by rfl) ?hvp_d_0_1 ?restp_d_0_1
  case hvp_d_0_1 => (intro w' hb; go_simp; try with_reducible rfl)
  simp only [Act.put, List.setIfInBounds_toArray, List.set_cons_zero, List.set_cons_succ]
  refine wpAnyF_take (i := 1) (v := ?vp_d_1_2) (some 18) rfl rfl (by kernel_rfl) (by kernel_rfl) (by kernel_rfl) (fun _ _ _ h => h) (by rfl) ?hvp_d_1_2 ?restp_d_1_2
  case hvp_d_1_2 => (intro w' hb; go_simp; try with_reducible rfl)
  simp only [Act.put, List.setIfInBounds_toArray, List.set_cons_zero, List.set_cons_succ]
  refine wpAnyF_take (i := 2) (v := ?vp_d_2_3) (some 19) rfl rfl (by kernel_rfl) (by kernel_rfl) (by kernel_rfl) (fun _ _ _ h => h) (by rfl) ?hvp_d_2_3 ?restp_d_2_3
  case hvp_d_2_3 => (intro w' hb; go_simp; try with_reducible rfl)
  simp only [Act.put, List.setIfInBounds_toArray, List.set_cons_zero, List.set_cons_succ]
  refine wpAnyF_take (i := 3) (v := ?vp_d_3_4) (some 20) rfl rfl (by kernel_rfl) (by kernel_rfl) (by kernel_rfl) (fun _ _ _ h => h) (by rfl) ?hvp_d_3_4 ?restp_d_3_4
  case hvp_d_3_4 => (intro w' hb; (have hcw := (hb.cell (p := ⟨g, 0, none⟩) hg3).trans k3; go_simp; try with_reducible rfl))
  simp only [Act.put, List.setIfInBounds_toArray, List.set_cons_zero, List.set_cons_succ]
  refine wpAnyF_take (i := 4) (v := ?vp_d_4_5) (some 21) rfl rfl (by kernel_rfl) (by kernel_rfl) (by kernel_rfl) (fun _ _ _ h => h) (by rfl) ?hvp_d_4_5 ?restp_d_4_5
  case hvp_d_4_5 => (intro w' hb; go_simp; try with_reducible rfl)
  simp only [Act.put, List.setIfInBounds_toArray, List.set_cons_zero, List.set_cons_succ]
  refine wpAnyF_take (i := 5) (v := ?vp_d_5_6) (some 22) rfl rfl (by kernel_rfl) (by kernel_rfl) (by kernel_rfl) (fun _ _ _ h => h) (by rfl) ?hvp_d_5_6 ?restp_d_5_6
  case hvp_d_5_6 => (intro w' hb; go_simp; try with_reducible rfl)
  simp only [Act.put, List.setIfInBounds_toArray, List.set_cons_zero, List.set_cons_succ]
  refine wpAnyF_take (i := 6) (v := ?vp_d_6_7) (some 23) rfl rfl (by kernel_rfl) (by kernel_rfl) (by kernel_rfl) (fun _ _ _ h => h) (by rfl) ?hvp_d_6_7 ?restp_d_6_7
  case hvp_d_6_7 => (intro w' hb; go_simp; try with_reducible rfl)
  simp only [Act.put, List.setIfInBounds_toArray, List.set_cons_zero, List.set_cons_succ]
  refine wpAnyF_take (i := 7) (v := ?vp_d_7_8) (some 24) rfl rfl (by kernel_rfl) (by kernel_rfl) (by kernel_rfl) (fun _ _ _ h => h) (by rfl) ?hvp_d_7_8 ?restp_d_7_8
  case hvp_d_7_8 => (intro w' hb; go_simp; try with_reducible rfl)
  simp only [Act.put, List.setIfInBounds_toArray, List.set_cons_zero, List.set_cons_succ]
  refine wpAnyF_take (i := 8) (v := ?vp_d_8_9) (some 25) rfl rfl (by kernel_rfl) (by kernel_rfl) (by kernel_rfl) (fun _ _ _ h => h) (by rfl) ?hvp_d_8_9 ?restp_d_8_9
  case hvp_d_8_9 => (intro w' hb; go_simp; try with_reducible rfl)
  simp only [Act.put, List.setIfInBounds_toArray, List.set_cons_zero, List.set_cons_succ]
  refine wpAnyF_take (i := 9) (v := ?vp_d_9_10) (some 26) rfl rfl (by kernel_rfl) (by kernel_rfl) (by kernel_rfl) (fun _ _ _ h => h) (by rfl) ?hvp_d_9_10 ?restp_d_9_10
  case hvp_d_9_10 => (intro w' hb; (have hcw := (hb.cell (p := ⟨g, 0, none⟩) hg3).trans k3; go_simp; try with_reducible rfl))
  simp only [Act.put, List.setIfInBounds_toArray, List.set_cons_zero, List.set_cons_succ]
  refine wpAnyF_take (i := 10) (v := ?vp_d_10_11) (some 27) rfl rfl (by kernel_rfl) (by kernel_rfl) (by kernel_rfl) (fun _ _ _ h => h) (by rfl) ?hvp_d_10_11 ?restp_d_10_11
  case hvp_d_10_11 => (intro w' hb; go_simp; try with_reducible rfl)
  simp only [Act.put, List.setIfInBounds_toArray, List.set_cons_zero, List.set_cons_succ]
  refine wpAnyF_take (i := 11) (v := ?vp_d_11_12) (some 28) rfl rfl (by kernel_rfl) (by kernel_rfl) (by kernel_rfl) (fun _ _ _ h => h) (by rfl) ?hvp_d_11_12 ?restp_d_11_12
  case hvp_d_11_12 => (intro w' hb; go_simp; try with_reducible rfl)
  simp only [Act.put, List.setIfInBounds_toArray, List.set_cons_zero, List.set_cons_succ]
  refine wpAnyF_take (i := 12) (v := ?vp_d_12_13) (some 29) rfl rfl (by kernel_rfl) (by kernel_rfl) (by kernel_rfl) (fun _ _ _ h => h) (by rfl) ?hvp_d_12_13 ?restp_d_12_13
  case hvp_d_12_13 => (intro w' hb; go_simp; try with_reducible rfl)
  simp only [Act.put, List.setIfInBounds_toArray, List.set_cons_zero, List.set_cons_succ]
  refine wpAnyF_take (i := 13) (v := ?vp_d_13_14) (some 30) rfl rfl (by kernel_rfl) (by kernel_rfl) (by kernel_rfl) (fun _ _ _ h => h) (by rfl) ?hvp_d_13_14 ?restp_d_13_14
  case hvp_d_13_14 => (intro w' hb; go_simp; try with_reducible rfl)
  simp only [Act.put, List.setIfInBounds_toArray, List.set_cons_zero, List.set_cons_succ]
  refine wpAnyF_take (i := 14) (v := ?vp_d_14_15) (some 31) rfl rfl (by kernel_rfl) (by kernel_rfl) (by kernel_rfl) (fun _ _ _ h => h) (by rfl) ?hvp_d_14_15 ?restp_d_14_15
  case hvp_d_14_15 => (intro w' hb; go_simp; try with_reducible rfl)
  simp only [Act.put, List.setIfInBounds_toArray, List.set_cons_zero, List.set_cons_succ]
  refine wpAnyF_take (i := 15) (v := ?vp_d_15_16) (some 32) rfl rfl (by kernel_rfl) (by kernel_rfl) (by kernel_rfl) (fun _ _ _ h => h) (by rfl) ?hvp_d_15_16 ?restp_d_15_16
  case hvp_d_15_16 => (intro w' hb; go_simp; try with_reducible rfl)
  simp only [Act.put, List.setIfInBounds_toArray, List.set_cons_zero, List.set_cons_succ]
  refine wpAnyF_take (i := 16) (v := ?vp_d_16_17) (some 33) rfl rfl (by kernel_rfl) (by kernel_rfl) (by kernel_rfl) (fun _ _ _ h => h) (by rfl) ?hvp_d_16_17 ?restp_d_16_17
  case hvp_d_16_17 => (intro w' hb; go_simp; try with_reducible rfl)
  simp only [Act.put, List.setIfInBounds_toArray, List.set_cons_zero, List.set_cons_succ]
  refine wpAnyF_take (i := 17) (v := ?vp_d_17_18) (some 34) rfl rfl (by kernel_rfl) (by kernel_rfl) (by kernel_rfl) (fun _ _ _ h => h) (by rfl) ?hvp_d_17_18 ?restp_d_17_18
  case hvp_d_17_18 => (intro w' hb; go_simp; try with_reducible rfl)
  simp only [Act.put, List.setIfInBounds_toArray, List.set_cons_zero, List.set_cons_succ]
  refine wpAnyF_alone (i := 18) rfl (by kernel_rfl) (by rfl) (fun K hK => ?_)
  go_simp
  simp only [G1.out, G2.out, G3.out, G4.out]
  have hb : Below w3.heap.size w3.drew (w3.alloc (.cells #[.int .u8 ((room : Int) / 256), .int .u8 ((room : Int) % 256), .int .u8 ((N : Int) / 256), .int .u8 ((N : Int) % 256)] 5)).drew := (Below.refl _ w3.drew).alloc (by simp) _
  refine hK.out _ _ hb ?_
  clear hK K
  simp only [List.setIfInBounds_toArray, List.set_cons_zero, List.set_cons_succ]
  refine wpAnyF_take (i := 19) (v := ?vp_d_19_19) (some 4) rfl rfl (by kernel_rfl) (by kernel_rfl) (by kernel_rfl) (fun _ _ _ h => h) (by rfl) ?hvp_d_19_19 ?restp_d_19_19
  case hvp_d_19_19 => (intro w' hb; go_simp; try with_reducible rfl)
  simp only [Act.put, List.setIfInBounds_toArray, List.set_cons_zero, List.set_cons_succ]
  refine wpAnyF_done (by kernel_rfl) ?_ _
  go_wp2_with fail
  try simp only [G1.out, G2.out, G3.out, G4.out]
  have ST0 := hid (show (w3.alloc (.cells #[.int .u8 ((room : Int) / 256), .int .u8 ((room : Int) % 256), .int .u8 ((N : Int) / 256), .int .u8 ((N : Int) % 256)] 5)).drew.ownsRow w3.heap.size 5 1 (.slice (some ⟨w3.heap.size, 0, none⟩) 4 4) (4 + (bodyN L 0).length) ((headL room N ++ bodyN L 0).map (Value.int .u8)) from
    ⟨rfl, .inr ⟨w3.heap.size, 4, _, rfl, Nat.le_refl _, heap_alloc_new w3 _, (by show 4 + 0 ≤ 4; omega), by decide, rfl, rfl⟩⟩)
  have SB0 := hid (show Below w3.heap.size w3 (w3.alloc (.cells #[.int .u8 ((room : Int) / 256), .int .u8 ((room : Int) % 256), .int .u8 ((N : Int) / 256), .int .u8 ((N : Int) % 256)] 5)).drew from ((Below.refl _ w3).alloc (Nat.le_refl _) _).drew)
  have FCW := hid (fun W (hW : Below w3.heap.size w3 W) => F0.out.later (chain HB3.out hW))
  clear hb LV HALL
  generalize (w3.alloc (.cells #[.int .u8 ((room : Int) / 256), .int .u8 ((room : Int) % 256), .int .u8 ((N : Int) / 256), .int .u8 ((N : Int) % 256)] 5)).drew = w4 at *
  go_loopw [4, 38] (fun b i wr => ∃ k : Nat, k ≤ N ∧ i = .int .i64 k ∧ wr.ownsRow w3.heap.size 5 1 b (4 + (bodyN L k).length) ((headL room N ++ bodyN L k).map (Value.int .u8)) ∧ Below w3.heap.size w3 wr) (fun _ i _ => N - (intOf i).toNat)
  case atStart => exact ⟨0, by omega, rfl, ST0.out, SB0.out⟩
  case round =>
    obtain ⟨k, hk, rfl, hown, hb⟩ := hrel
    have HOW := hid hown
    have HB := hid hb
    have HSZ := hid hb.size
    clear hown hb
    by_cases hlt : k < N
    · have hlt' : (k : Int) < N := by omega
      have hkl : k < L.length := by have := HN.out; omega
      obtain ⟨a', c', hv, ha, hc⟩ := HA.out
      obtain ⟨rfl, -, rfl⟩ := Value.slice.inj hv
      obtain ⟨b0, off, rfl⟩ := ha (by omega)
      have z1 : L[k]? = some L[k] := by simp [hkl]
      have HW := hid (HWF.out L[k] (List.getElem_mem hkl)).1
      have HR := hid (HWF.out L[k] (List.getElem_mem hkl)).2
      have HD := hid (show L.getD k zeroR = L[k] by rw [List.getD_eq_getElem?_getD, z1]; rfl)
      have CA := hid (fun W hW => rrow_cells (RR.out W hW) z1)
      have HBN := hid (bodyN_len HL11.out k)
      clear hv ha z1
      generalize L[k] = Z at *
      have HZL := hid HW.out.1
      rcases k with _ | k
      · have HCH := hid (show bodyN L (0 + 1) = bodyN L 0 ++ frameL Z by rw [bodyN_succ]; unfold chunkL; rw [if_pos rfl, HD.out])
        have HFL := hid (frameL_len Z HZL.out)
        go_wp2_with (first | ((with_reducible refine at_op (.load 50 (.tmp 41)) ?_); refine wpR_load_part rfl (.tmp 41) rfl ⟨b0, off, none⟩ rfl Z HZL.out ?_ ?_; (intro i x hj; rw [add_plain]; exact CA.out wr HB.out i x hj _ (by omega))) | ((with_reducible refine at_op (.alloc 50) ?_); refine wpR_alloc rfl rfl ?_; intro g7 w7 hg7 hR7 hb7; have hl7 : wr.heap.size ≤ g7 := Nat.le_of_eq hg7.symm; clear hg7) | ((with_reducible refine at_op (.store 50 (.tmp 6) (.tmp 42)) ?_); refine wpR_put rfl (.tmp 6) (.tmp 42) rfl g7 wr.heap.size Z zeroR HZL.out rfl rfl rfl hR7 hl7 ?_; intro w8 hR8 hb8) | ((with_reducible refine at_op (.load 50 (.tmp 6)) ?_); refine wpR_get rfl (.tmp 6) rfl g7 rfl Z HZL.out hR8 ?_))
        have HB8 := hid (HB.out.trans ((hb7.trans hb8).mono HSZ.out))
        refine (fput_e Z HW.out a0 a1 _ (FCW.out _ HB8.out)).mono ?_
        rintro e w6 ⟨v6, rfl, hb6, hown6⟩
        rw [putL_right HR.out] at hown6
        rw [putE_right HR.out]
        have HB6 := hid (chain HB8.out hb6)
        have HRF := hid (reads_of_owns hown6 (frameL_wf Z HZL.out))
        have HOW6 := hid (ownsRow_below (ownsRow_below HOW.out (hb7.trans hb8)) hb6)
        have HSZ6 := hid HB6.out.size
        clear hown6 hb6 hb7 hb8 hR8 hR7
        go_wp2_with ((with_reducible refine at_op (.call { callee := .builtin .append, args := #[.tmp 50, .tmp 51], argTypes := #[22, 22] }) ?_); refine wpList_append_reads_at rfl (.tmp 50) (.tmp 51) 22 rfl w3.heap.size 5 i0 (.int .u8 0) .u8 1 Tryd.underlying22 hi hz0 hz1 hz2 rfl _ (4 + (bodyN L 0).length) _ rfl HOW6.out _ (frameL Z) rfl HRF.out ?_ ?_ HSZ6.out ?_; (have := HFL.out; simp [maxLen, bodyN]; omega); (have := HFL.out; simp [bodyN]; omega); intro v7 w9 hown7 hg7 hl9)
        have hB7 := HB6.out.grown hg7 HSZ6.out (fun k e => (HOW6.out.lt k e).1)
        rw [HFL.out] at hown7
        go_wp2_with fail
        go_roundw
        case rel =>
          refine ⟨1, by omega, by go_num, ?_, hB7⟩
          rw [HCH.out, List.length_append, HFL.out, ← List.append_assoc, List.map_append, ← Nat.add_assoc]
          exact hown7
        case measure => simp [intOf]; omega
      · have hk1 : k < L.length := by omega
        have z2 : L[k]? = some L[k] := by simp [hk1]
        have HW2 := hid (HWF.out L[k] (List.getElem_mem hk1)).1
        have HR2 := hid (HWF.out L[k] (List.getElem_mem hk1)).2
        have HD2 := hid (show L.getD (k + 1 - 1) zeroR = L[k] by rw [Nat.add_sub_cancel, List.getD_eq_getElem?_getD, z2]; rfl)
        have CA2 := hid (fun W hW => rrow_cells (RR.out W hW) z2)
        clear z2
        generalize L[k] = Y at *
        have HYL := hid HW2.out.1
        have HCH := hid (show bodyN L (k + 1 + 1) = bodyN L (k + 1) ++ deltaN Z Y 11 by rw [bodyN_succ]; unfold chunkL; rw [if_neg (by omega), HD.out, HD2.out])
        obtain ⟨kp, hkp⟩ : ∃ kp, kp = k + 1 := ⟨_, rfl⟩
        rw [← hkp] at hlt' HCH HOW hk hlt HBN CA ⊢
        have hkm : (kp : Int) - 1 = k := by omega
        have hk9 : (k : Int) < N := by omega
        have hkp0 : ¬ (kp : Int) = 0 := by omega
        have HKP := hid hkp
        have IK := hid (show IntKind.i64.wrap (k : Int) = k from IntWalk.i64_in _ (by omega))
        clear hkp hkl hk1
        go_wp2_with (first | ((with_reducible refine at_op (.load 50 (.tmp 41)) ?_); refine wpR_load_part rfl (.tmp 41) rfl ⟨b0, off + kp * 11, none⟩ rfl Z HZL.out ?_ ?_; (intro i x hj; rw [add_plain]; exact CA.out wr HB.out i x hj _ (by omega))) | ((with_reducible refine at_op (.alloc 50) ?_); refine wpR_alloc rfl rfl ?_; intro g7 w7 hg7 hR7 hb7; have hl7 : wr.heap.size ≤ g7 := Nat.le_of_eq hg7.symm; clear hg7) | ((with_reducible refine at_op (.store 50 (.tmp 6) (.tmp 42)) ?_); refine wpR_put rfl (.tmp 6) (.tmp 42) rfl g7 wr.heap.size Z zeroR HZL.out rfl rfl rfl hR7 hl7 ?_; intro w8 hR8 hb8))
        have HB8 := hid (HB.out.trans ((hb7.trans hb8).mono HSZ.out))
        have HSZ8 := hid HB8.out.size
        have HO8 := hid (ownsRow_below HOW.out (hb7.trans hb8))
        clear hR7 hb7 hb8 hl7 HOW
        have hm := (Two.refl w8 (.cells zrow 121)).later ((Below.refl _ w8).drew)
        refine wp_then_two ?ACT (fun gA gB w' => w8.heap.size ≤ gA ∧ w8.heap.size ≤ gB ∧ gA ≠ gB ∧ w'.heap[gA]? = some (.cells (ocells Z) 121 (0, 0)) ∧ w'.heap[gB]? = some (.cells (ocells Y) 121 (0, 0)) ∧ Below w8.heap.size w8 w') ?reg ?rest
        case reg =>
          refine wp_region_F' (B := w8.heap.size) (n := 12) (l := #[false, false, false, false, false, false, false, false, false, false, false, false]) (by kernel_rfl) (by kernel_rfl) (by kernel_rfl) ?_
          refine wpAnyF_take (i := 0) (v := ?vq_0_1) (some 53) rfl rfl (by kernel_rfl) (by kernel_rfl) (by kernel_rfl) (fun _ _ _ h => h) (by rfl) ?hvq_0_1 ?restq_0_1
          case hvq_0_1 => (intro w' hb; (refine exec_load_part (.tmp 6) ?_ ⟨g7, 0, none⟩ ?_ Z HZL.out ?_; rfl; rfl; (intro i x hj; rw [add_plain, Nat.zero_add]; exact (cell_of_row w' g7 i _ _ _ ((hb.block g7 (lt_of_row hR8)).trans hR8)).trans (by rw [← hj, Array.getElem?_toList]))))
          simp only [Act.put, List.setIfInBounds_toArray, List.set_cons_zero, List.set_cons_succ]
          refine wpAnyF_take (i := 2) (v := ?vq_2_2) (some 55) rfl rfl (by kernel_rfl) (by kernel_rfl) (by kernel_rfl) (fun _ _ _ h => h) (by rfl) ?hvq_2_2 ?restq_2_2
          case hvq_2_2 => (intro w' hb; go_simp; try with_reducible rfl)
          simp only [Act.put, List.setIfInBounds_toArray, List.set_cons_zero, List.set_cons_succ]
          refine wpAnyF_take (i := 3) (v := ?vq_3_3) (some 56) rfl rfl (by kernel_rfl) (by kernel_rfl) (by kernel_rfl) (fun _ _ _ h => h) (by rfl) ?hvq_3_3 ?restq_3_3
          case hvq_3_3 => (intro w' hb; go_simp; try with_reducible rfl)
          simp only [Act.put, List.setIfInBounds_toArray, List.set_cons_zero, List.set_cons_succ]
          refine wpAnyF_take (i := 4) (v := ?vq_4_4) (some 57) rfl rfl (by kernel_rfl) (by kernel_rfl) (by kernel_rfl) (fun _ _ _ h => h) (by rfl) ?hvq_4_4 ?restq_4_4
          case hvq_4_4 => (intro w' hb; (have eik := IK.out; go_simp; try with_reducible rfl))
          simp only [Act.put, List.setIfInBounds_toArray, List.set_cons_zero, List.set_cons_succ]
          refine wpAnyF_take (i := 5) (v := ?vq_5_5) (some 58) rfl rfl (by kernel_rfl) (by kernel_rfl) (by kernel_rfl) (fun _ _ _ h => h) (by rfl) ?hvq_5_5 ?restq_5_5
          case hvq_5_5 => (intro w' hb; go_simp; try with_reducible rfl)
          simp only [Act.put, List.setIfInBounds_toArray, List.set_cons_zero, List.set_cons_succ]
          refine wpAnyF_take (i := 6) (v := ?vq_6_6) (some 59) rfl rfl (by kernel_rfl) (by kernel_rfl) (by kernel_rfl) (fun _ _ _ h => h) (by rfl) ?hvq_6_6 ?restq_6_6
          case hvq_6_6 => (intro w' hb; (refine exec_load_part (.tmp 58) ?_ ⟨b0, off + k * 11, none⟩ ?_ Y HYL.out ?_; rfl; rfl; (intro i x hj; rw [add_plain]; exact CA2.out w' (HB8.out.trans ((Below.drewl hb).mono HSZ8.out)) i x hj _ (by omega))))
          simp only [Act.put, List.setIfInBounds_toArray, List.set_cons_zero, List.set_cons_succ]
          refine wpAnyF_three (i := 1) (j := 8) (m := 9) (by kernel_rfl) rfl (by rfl) rfl (by rfl) rfl (by rfl) (fun K hK => ?_) (fun K hK => ?_) (fun K hK => ?_)
          · go_simp
            refine (lof_any Z HW.out HR.out _).mono ?_
            rintro e w4 ⟨rfl, hb4⟩
            have hb := hb4.mono hm.bel.size
            have hm := hm.later hb4
            clear hb4
            refine hK.out _ _ ⟨hb, ?_⟩
            clear hK K
            simp only [List.setIfInBounds_toArray, List.set_cons_zero, List.set_cons_succ]
            refine wpAnyF_three (i := 7) (j := 8) (m := 9) (by kernel_rfl) rfl (by rfl) rfl (by rfl) rfl (by rfl) (fun K hK => ?_) (fun K hK => ?_) (fun K hK => ?_)
            · go_simp
              refine (lof_any Y HW2.out HR2.out _).mono ?_
              rintro e w4 ⟨rfl, hb4⟩
              have hb := hb4.mono hm.bel.size
              have hm := hm.later hb4
              clear hb4
              refine hK.out _ _ ⟨hb, ?_⟩
              clear hK K
              simp only [List.setIfInBounds_toArray, List.set_cons_zero, List.set_cons_succ]
              refine wpAnyF_two (i := 8) (j := 9) (by kernel_rfl) rfl (by rfl) rfl (by rfl) (fun K hK => ?_) (fun K hK => ?_)
              · refine wp_alloc_lrow rfl ?_
                intro gA wa hga hwa
                simp only [List.getElem_toArray, List.getElem_cons_succ, List.getElem_cons_zero, Act.put, List.setIfInBounds_toArray, List.set_cons_zero, List.set_cons_succ]
                have hb := alloc_below hwa hm.bel.size
                have hm := hm.setA' hga hwa
                clear hga hwa
                refine hK.out _ _ ⟨hb, ?_⟩
                clear hK K
                simp only [List.setIfInBounds_toArray, List.set_cons_zero, List.set_cons_succ]
                refine wpAnyF_alone (i := 9) rfl (by kernel_rfl) (by rfl) (fun K hK => ?_)
                refine wp_alloc_lrow rfl ?_
                intro gB wa hga hwa
                simp only [List.getElem_toArray, List.getElem_cons_succ, List.getElem_cons_zero, Act.put, List.setIfInBounds_toArray, List.set_cons_zero, List.set_cons_succ]
                have hb := alloc_below hwa hm.bel.size
                have hm := hm.setB' hga hwa
                clear hga hwa
                refine hK.out _ _ hb ?_
                clear hK K
                simp only [List.setIfInBounds_toArray, List.set_cons_zero, List.set_cons_succ]
                refine wpAnyF_alone (i := 10) rfl (by kernel_rfl) (by rfl) (fun K hK => ?_)
                obtain ⟨ma1, ma2⟩ := hm.a gA rfl
                obtain ⟨mb1, mb2⟩ := hm.b gB rfl
                have mne := hm.ne gA gB rfl rfl
                refine wp_store_lrow (.tmp 9) (.tmp 54) rfl gA w8.heap.size Z zrow HZL.out rfl rfl ma2 rfl ma1 ?_
                intro wb hA hAo hb
                have hB0 := (hAo gB mne.symm).trans mb2
                have hm2 := hm.bel.trans hb
                simp only [List.getElem_toArray, List.getElem_cons_succ, List.getElem_cons_zero, Act.put, List.setIfInBounds_toArray, List.set_cons_zero, List.set_cons_succ]
                refine hK.out _ _ hb ?_
                clear hK K
                simp only [List.setIfInBounds_toArray, List.set_cons_zero, List.set_cons_succ]
                refine wpAnyF_alone (i := 11) rfl (by kernel_rfl) (by rfl) (fun K hK => ?_)
                refine wp_store_lrow (.tmp 10) (.tmp 60) rfl gB w8.heap.size Y zrow HYL.out rfl rfl hB0 rfl mb1 ?_
                intro wc hB hBo hb
                have hA2 := (hBo gA mne).trans hA
                have hm3 := hm2.trans hb
                simp only [List.getElem_toArray, List.getElem_cons_succ, List.getElem_cons_zero, Act.put, List.setIfInBounds_toArray, List.set_cons_zero, List.set_cons_succ]
                refine hK.out _ _ hb ?_
                clear hK K
                simp only [List.setIfInBounds_toArray, List.set_cons_zero, List.set_cons_succ]
                refine wpAnyF_done (by kernel_rfl) ?_ _
                refine ⟨gA, gB, ⟨ma1, mb1, mne, hA2, hB, hm3⟩, ?_⟩
                with_reducible rfl
              · refine wp_alloc_lrow rfl ?_
                intro gB wa hga hwa
                simp only [List.getElem_toArray, List.getElem_cons_succ, List.getElem_cons_zero, Act.put, List.setIfInBounds_toArray, List.set_cons_zero, List.set_cons_succ]
                have hb := alloc_below hwa hm.bel.size
                have hm := hm.setB' hga hwa
                clear hga hwa
                refine hK.out _ _ ⟨hb, ?_⟩
                clear hK K
                simp only [List.setIfInBounds_toArray, List.set_cons_zero, List.set_cons_succ]
                refine wpAnyF_alone (i := 8) rfl (by kernel_rfl) (by rfl) (fun K hK => ?_)
                refine wp_alloc_lrow rfl ?_
                intro gA wa hga hwa
                simp only [List.getElem_toArray, List.getElem_cons_succ, List.getElem_cons_zero, Act.put, List.setIfInBounds_toArray, List.set_cons_zero, List.set_cons_succ]
                have hb := alloc_below hwa hm.bel.size
                have hm := hm.setA' hga hwa
                clear hga hwa
                refine hK.out _ _ hb ?_
                clear hK K
                simp only [List.setIfInBounds_toArray, List.set_cons_zero, List.set_cons_succ]
                refine wpAnyF_alone (i := 10) rfl (by kernel_rfl) (by rfl) (fun K hK => ?_)
                obtain ⟨ma1, ma2⟩ := hm.a gA rfl
                obtain ⟨mb1, mb2⟩ := hm.b gB rfl
                have mne := hm.ne gA gB rfl rfl
                refine wp_store_lrow (.tmp 9) (.tmp 54) rfl gA w8.heap.size Z zrow HZL.out rfl rfl ma2 rfl ma1 ?_
                intro wb hA hAo hb
                have hB0 := (hAo gB mne.symm).trans mb2
                have hm2 := hm.bel.trans hb
                simp only [List.getElem_toArray, List.getElem_cons_succ, List.getElem_cons_zero, Act.put, List.setIfInBounds_toArray, List.set_cons_zero, List.set_cons_succ]
                refine hK.out _ _ hb ?_
                clear hK K
                simp only [List.setIfInBounds_toArray, List.set_cons_zero, List.set_cons_succ]
                refine wpAnyF_alone (i := 11) rfl (by kernel_rfl) (by rfl) (fun K hK => ?_)
                refine wp_store_lrow (.tmp 10) (.tmp 60) rfl gB w8.heap.size Y zrow HYL.out rfl rfl hB0 rfl mb1 ?_
                intro wc hB hBo hb
                have hA2 := (hBo gA mne).trans hA
                have hm3 := hm2.trans hb
                simp only [List.getElem_toArray, List.getElem_cons_succ, List.getElem_cons_zero, Act.put, List.setIfInBounds_toArray, List.set_cons_zero, List.set_cons_succ]
                refine hK.out _ _ hb ?_
                clear hK K
                simp only [List.setIfInBounds_toArray, List.set_cons_zero, List.set_cons_succ]
                refine wpAnyF_done (by kernel_rfl) ?_ _
                refine ⟨gA, gB, ⟨ma1, mb1, mne, hA2, hB, hm3⟩, ?_⟩
                with_reducible rfl
            · refine wp_alloc_lrow rfl ?_
              intro gA wa hga hwa
              simp only [List.getElem_toArray, List.getElem_cons_succ, List.getElem_cons_zero, Act.put, List.setIfInBounds_toArray, List.set_cons_zero, List.set_cons_succ]
              have hb := alloc_below hwa hm.bel.size
              have hm := hm.setA' hga hwa
              clear hga hwa
              refine hK.out _ _ ⟨hb, ?_⟩
              clear hK K
              simp only [List.setIfInBounds_toArray, List.set_cons_zero, List.set_cons_succ]
              refine wpAnyF_two (i := 7) (j := 9) (by kernel_rfl) rfl (by rfl) rfl (by rfl) (fun K hK => ?_) (fun K hK => ?_)
              · go_simp
                refine (lof_any Y HW2.out HR2.out _).mono ?_
                rintro e w4 ⟨rfl, hb4⟩
                have hb := hb4.mono hm.bel.size
                have hm := hm.later hb4
                clear hb4
                refine hK.out _ _ ⟨hb, ?_⟩
                clear hK K
                simp only [List.setIfInBounds_toArray, List.set_cons_zero, List.set_cons_succ]
                refine wpAnyF_alone (i := 9) rfl (by kernel_rfl) (by rfl) (fun K hK => ?_)
                refine wp_alloc_lrow rfl ?_
                intro gB wa hga hwa
                simp only [List.getElem_toArray, List.getElem_cons_succ, List.getElem_cons_zero, Act.put, List.setIfInBounds_toArray, List.set_cons_zero, List.set_cons_succ]
                have hb := alloc_below hwa hm.bel.size
                have hm := hm.setB' hga hwa
                clear hga hwa
                refine hK.out _ _ hb ?_
                clear hK K
                simp only [List.setIfInBounds_toArray, List.set_cons_zero, List.set_cons_succ]
                refine wpAnyF_alone (i := 10) rfl (by kernel_rfl) (by rfl) (fun K hK => ?_)
                obtain ⟨ma1, ma2⟩ := hm.a gA rfl
                obtain ⟨mb1, mb2⟩ := hm.b gB rfl
                have mne := hm.ne gA gB rfl rfl
                refine wp_store_lrow (.tmp 9) (.tmp 54) rfl gA w8.heap.size Z zrow HZL.out rfl rfl ma2 rfl ma1 ?_
                intro wb hA hAo hb
                have hB0 := (hAo gB mne.symm).trans mb2
                have hm2 := hm.bel.trans hb
                simp only [List.getElem_toArray, List.getElem_cons_succ, List.getElem_cons_zero, Act.put, List.setIfInBounds_toArray, List.set_cons_zero, List.set_cons_succ]
                refine hK.out _ _ hb ?_
                clear hK K
                simp only [List.setIfInBounds_toArray, List.set_cons_zero, List.set_cons_succ]
                refine wpAnyF_alone (i := 11) rfl (by kernel_rfl) (by rfl) (fun K hK => ?_)
                refine wp_store_lrow (.tmp 10) (.tmp 60) rfl gB w8.heap.size Y zrow HYL.out rfl rfl hB0 rfl mb1 ?_
                intro wc hB hBo hb
                have hA2 := (hBo gA mne).trans hA
                have hm3 := hm2.trans hb
                simp only [List.getElem_toArray, List.getElem_cons_succ, List.getElem_cons_zero, Act.put, List.setIfInBounds_toArray, List.set_cons_zero, List.set_cons_succ]
                refine hK.out _ _ hb ?_
                clear hK K
                simp only [List.setIfInBounds_toArray, List.set_cons_zero, List.set_cons_succ]
                refine wpAnyF_done (by kernel_rfl) ?_ _
                refine ⟨gA, gB, ⟨ma1, mb1, mne, hA2, hB, hm3⟩, ?_⟩
                with_reducible rfl
              · refine wp_alloc_lrow rfl ?_
                intro gB wa hga hwa
                simp only [List.getElem_toArray, List.getElem_cons_succ, List.getElem_cons_zero, Act.put, List.setIfInBounds_toArray, List.set_cons_zero, List.set_cons_succ]
                have hb := alloc_below hwa hm.bel.size
                have hm := hm.setB' hga hwa
                clear hga hwa
                refine hK.out _ _ ⟨hb, ?_⟩
                clear hK K
                simp only [List.setIfInBounds_toArray, List.set_cons_zero, List.set_cons_succ]
                refine wpAnyF_alone (i := 7) rfl (by kernel_rfl) (by rfl) (fun K hK => ?_)
                go_simp
                refine (lof_any Y HW2.out HR2.out _).mono ?_
                rintro e w4 ⟨rfl, hb4⟩
                have hb := hb4.mono hm.bel.size
                have hm := hm.later hb4
                clear hb4
                refine hK.out _ _ hb ?_
                clear hK K
                simp only [List.setIfInBounds_toArray, List.set_cons_zero, List.set_cons_succ]
                refine wpAnyF_alone (i := 10) rfl (by kernel_rfl) (by rfl) (fun K hK => ?_)
                obtain ⟨ma1, ma2⟩ := hm.a gA rfl
                obtain ⟨mb1, mb2⟩ := hm.b gB rfl
                have mne := hm.ne gA gB rfl rfl
                refine wp_store_lrow (.tmp 9) (.tmp 54) rfl gA w8.heap.size Z zrow HZL.out rfl rfl ma2 rfl ma1 ?_
                intro wb hA hAo hb
                have hB0 := (hAo gB mne.symm).trans mb2
                have hm2 := hm.bel.trans hb
                simp only [List.getElem_toArray, List.getElem_cons_succ, List.getElem_cons_zero, Act.put, List.setIfInBounds_toArray, List.set_cons_zero, List.set_cons_succ]
                refine hK.out _ _ hb ?_
                clear hK K
                simp only [List.setIfInBounds_toArray, List.set_cons_zero, List.set_cons_succ]
                refine wpAnyF_alone (i := 11) rfl (by kernel_rfl) (by rfl) (fun K hK => ?_)
                refine wp_store_lrow (.tmp 10) (.tmp 60) rfl gB w8.heap.size Y zrow HYL.out rfl rfl hB0 rfl mb1 ?_
                intro wc hB hBo hb
                have hA2 := (hBo gA mne).trans hA
                have hm3 := hm2.trans hb
                simp only [List.getElem_toArray, List.getElem_cons_succ, List.getElem_cons_zero, Act.put, List.setIfInBounds_toArray, List.set_cons_zero, List.set_cons_succ]
                refine hK.out _ _ hb ?_
                clear hK K
                simp only [List.setIfInBounds_toArray, List.set_cons_zero, List.set_cons_succ]
                refine wpAnyF_done (by kernel_rfl) ?_ _
                refine ⟨gA, gB, ⟨ma1, mb1, mne, hA2, hB, hm3⟩, ?_⟩
                with_reducible rfl
            · refine wp_alloc_lrow rfl ?_
              intro gB wa hga hwa
              simp only [List.getElem_toArray, List.getElem_cons_succ, List.getElem_cons_zero, Act.put, List.setIfInBounds_toArray, List.set_cons_zero, List.set_cons_succ]
              have hb := alloc_below hwa hm.bel.size
              have hm := hm.setB' hga hwa
              clear hga hwa
              refine hK.out _ _ ⟨hb, ?_⟩
              clear hK K
              simp only [List.setIfInBounds_toArray, List.set_cons_zero, List.set_cons_succ]
              refine wpAnyF_two (i := 7) (j := 8) (by kernel_rfl) rfl (by rfl) rfl (by rfl) (fun K hK => ?_) (fun K hK => ?_)
              · go_simp
                refine (lof_any Y HW2.out HR2.out _).mono ?_
                rintro e w4 ⟨rfl, hb4⟩
                have hb := hb4.mono hm.bel.size
                have hm := hm.later hb4
                clear hb4
                refine hK.out _ _ ⟨hb, ?_⟩
                clear hK K
                simp only [List.setIfInBounds_toArray, List.set_cons_zero, List.set_cons_succ]
                refine wpAnyF_alone (i := 8) rfl (by kernel_rfl) (by rfl) (fun K hK => ?_)
                refine wp_alloc_lrow rfl ?_
                intro gA wa hga hwa
                simp only [List.getElem_toArray, List.getElem_cons_succ, List.getElem_cons_zero, Act.put, List.setIfInBounds_toArray, List.set_cons_zero, List.set_cons_succ]
                have hb := alloc_below hwa hm.bel.size
                have hm := hm.setA' hga hwa
                clear hga hwa
                refine hK.out _ _ hb ?_
                clear hK K
                simp only [List.setIfInBounds_toArray, List.set_cons_zero, List.set_cons_succ]
                refine wpAnyF_alone (i := 10) rfl (by kernel_rfl) (by rfl) (fun K hK => ?_)
                obtain ⟨ma1, ma2⟩ := hm.a gA rfl
                obtain ⟨mb1, mb2⟩ := hm.b gB rfl
                have mne := hm.ne gA gB rfl rfl
                refine wp_store_lrow (.tmp 9) (.tmp 54) rfl gA w8.heap.size Z zrow HZL.out rfl rfl ma2 rfl ma1 ?_
                intro wb hA hAo hb
                have hB0 := (hAo gB mne.symm).trans mb2
                have hm2 := hm.bel.trans hb
                simp only [List.getElem_toArray, List.getElem_cons_succ, List.getElem_cons_zero, Act.put, List.setIfInBounds_toArray, List.set_cons_zero, List.set_cons_succ]
                refine hK.out _ _ hb ?_
                clear hK K
                simp only [List.setIfInBounds_toArray, List.set_cons_zero, List.set_cons_succ]
                refine wpAnyF_alone (i := 11) rfl (by kernel_rfl) (by rfl) (fun K hK => ?_)
                refine wp_store_lrow (.tmp 10) (.tmp 60) rfl gB w8.heap.size Y zrow HYL.out rfl rfl hB0 rfl mb1 ?_
                intro wc hB hBo hb
                have hA2 := (hBo gA mne).trans hA
                have hm3 := hm2.trans hb
                simp only [List.getElem_toArray, List.getElem_cons_succ, List.getElem_cons_zero, Act.put, List.setIfInBounds_toArray, List.set_cons_zero, List.set_cons_succ]
                refine hK.out _ _ hb ?_
                clear hK K
                simp only [List.setIfInBounds_toArray, List.set_cons_zero, List.set_cons_succ]
                refine wpAnyF_done (by kernel_rfl) ?_ _
                refine ⟨gA, gB, ⟨ma1, mb1, mne, hA2, hB, hm3⟩, ?_⟩
                with_reducible rfl
              · refine wp_alloc_lrow rfl ?_
                intro gA wa hga hwa
                simp only [List.getElem_toArray, List.getElem_cons_succ, List.getElem_cons_zero, Act.put, List.setIfInBounds_toArray, List.set_cons_zero, List.set_cons_succ]
                have hb := alloc_below hwa hm.bel.size
                have hm := hm.setA' hga hwa
                clear hga hwa
                refine hK.out _ _ ⟨hb, ?_⟩
                clear hK K
                simp only [List.setIfInBounds_toArray, List.set_cons_zero, List.set_cons_succ]
                refine wpAnyF_alone (i := 7) rfl (by kernel_rfl) (by rfl) (fun K hK => ?_)
                go_simp
                refine (lof_any Y HW2.out HR2.out _).mono ?_
                rintro e w4 ⟨rfl, hb4⟩
                have hb := hb4.mono hm.bel.size
                have hm := hm.later hb4
                clear hb4
                refine hK.out _ _ hb ?_
                clear hK K
                simp only [List.setIfInBounds_toArray, List.set_cons_zero, List.set_cons_succ]
                refine wpAnyF_alone (i := 10) rfl (by kernel_rfl) (by rfl) (fun K hK => ?_)
                obtain ⟨ma1, ma2⟩ := hm.a gA rfl
                obtain ⟨mb1, mb2⟩ := hm.b gB rfl
                have mne := hm.ne gA gB rfl rfl
                refine wp_store_lrow (.tmp 9) (.tmp 54) rfl gA w8.heap.size Z zrow HZL.out rfl rfl ma2 rfl ma1 ?_
                intro wb hA hAo hb
                have hB0 := (hAo gB mne.symm).trans mb2
                have hm2 := hm.bel.trans hb
                simp only [List.getElem_toArray, List.getElem_cons_succ, List.getElem_cons_zero, Act.put, List.setIfInBounds_toArray, List.set_cons_zero, List.set_cons_succ]
                refine hK.out _ _ hb ?_
                clear hK K
                simp only [List.setIfInBounds_toArray, List.set_cons_zero, List.set_cons_succ]
                refine wpAnyF_alone (i := 11) rfl (by kernel_rfl) (by rfl) (fun K hK => ?_)
                refine wp_store_lrow (.tmp 10) (.tmp 60) rfl gB w8.heap.size Y zrow HYL.out rfl rfl hB0 rfl mb1 ?_
                intro wc hB hBo hb
                have hA2 := (hBo gA mne).trans hA
                have hm3 := hm2.trans hb
                simp only [List.getElem_toArray, List.getElem_cons_succ, List.getElem_cons_zero, Act.put, List.setIfInBounds_toArray, List.set_cons_zero, List.set_cons_succ]
                refine hK.out _ _ hb ?_
                clear hK K
                simp only [List.setIfInBounds_toArray, List.set_cons_zero, List.set_cons_succ]
                refine wpAnyF_done (by kernel_rfl) ?_ _
                refine ⟨gA, gB, ⟨ma1, mb1, mne, hA2, hB, hm3⟩, ?_⟩
                with_reducible rfl
          · refine wp_alloc_lrow rfl ?_
            intro gA wa hga hwa
            simp only [List.getElem_toArray, List.getElem_cons_succ, List.getElem_cons_zero, Act.put, List.setIfInBounds_toArray, List.set_cons_zero, List.set_cons_succ]
            have hb := alloc_below hwa hm.bel.size
            have hm := hm.setA' hga hwa
            clear hga hwa
            refine hK.out _ _ ⟨hb, ?_⟩
            clear hK K
            simp only [List.setIfInBounds_toArray, List.set_cons_zero, List.set_cons_succ]
            refine wpAnyF_two (i := 1) (j := 9) (by kernel_rfl) rfl (by rfl) rfl (by rfl) (fun K hK => ?_) (fun K hK => ?_)
            · go_simp
              refine (lof_any Z HW.out HR.out _).mono ?_
              rintro e w4 ⟨rfl, hb4⟩
              have hb := hb4.mono hm.bel.size
              have hm := hm.later hb4
              clear hb4
              refine hK.out _ _ ⟨hb, ?_⟩
              clear hK K
              simp only [List.setIfInBounds_toArray, List.set_cons_zero, List.set_cons_succ]
              refine wpAnyF_two (i := 7) (j := 9) (by kernel_rfl) rfl (by rfl) rfl (by rfl) (fun K hK => ?_) (fun K hK => ?_)
              · go_simp
                refine (lof_any Y HW2.out HR2.out _).mono ?_
                rintro e w4 ⟨rfl, hb4⟩
                have hb := hb4.mono hm.bel.size
                have hm := hm.later hb4
                clear hb4
                refine hK.out _ _ ⟨hb, ?_⟩
                clear hK K
                simp only [List.setIfInBounds_toArray, List.set_cons_zero, List.set_cons_succ]
                refine wpAnyF_alone (i := 9) rfl (by kernel_rfl) (by rfl) (fun K hK => ?_)
                refine wp_alloc_lrow rfl ?_
                intro gB wa hga hwa
                simp only [List.getElem_toArray, List.getElem_cons_succ, List.getElem_cons_zero, Act.put, List.setIfInBounds_toArray, List.set_cons_zero, List.set_cons_succ]
                have hb := alloc_below hwa hm.bel.size
                have hm := hm.setB' hga hwa
                clear hga hwa
                refine hK.out _ _ hb ?_
                clear hK K
                simp only [List.setIfInBounds_toArray, List.set_cons_zero, List.set_cons_succ]
                refine wpAnyF_alone (i := 10) rfl (by kernel_rfl) (by rfl) (fun K hK => ?_)
                obtain ⟨ma1, ma2⟩ := hm.a gA rfl
                obtain ⟨mb1, mb2⟩ := hm.b gB rfl
                have mne := hm.ne gA gB rfl rfl
                refine wp_store_lrow (.tmp 9) (.tmp 54) rfl gA w8.heap.size Z zrow HZL.out rfl rfl ma2 rfl ma1 ?_
                intro wb hA hAo hb
                have hB0 := (hAo gB mne.symm).trans mb2
                have hm2 := hm.bel.trans hb
                simp only [List.getElem_toArray, List.getElem_cons_succ, List.getElem_cons_zero, Act.put, List.setIfInBounds_toArray, List.set_cons_zero, List.set_cons_succ]
                refine hK.out _ _ hb ?_
                clear hK K
                simp only [List.setIfInBounds_toArray, List.set_cons_zero, List.set_cons_succ]
                refine wpAnyF_alone (i := 11) rfl (by kernel_rfl) (by rfl) (fun K hK => ?_)
                refine wp_store_lrow (.tmp 10) (.tmp 60) rfl gB w8.heap.size Y zrow HYL.out rfl rfl hB0 rfl mb1 ?_
                intro wc hB hBo hb
                have hA2 := (hBo gA mne).trans hA
                have hm3 := hm2.trans hb
                simp only [List.getElem_toArray, List.getElem_cons_succ, List.getElem_cons_zero, Act.put, List.setIfInBounds_toArray, List.set_cons_zero, List.set_cons_succ]
                refine hK.out _ _ hb ?_
                clear hK K
                simp only [List.setIfInBounds_toArray, List.set_cons_zero, List.set_cons_succ]
                refine wpAnyF_done (by kernel_rfl) ?_ _
                refine ⟨gA, gB, ⟨ma1, mb1, mne, hA2, hB, hm3⟩, ?_⟩
                with_reducible rfl
              · refine wp_alloc_lrow rfl ?_
                intro gB wa hga hwa
                simp only [List.getElem_toArray, List.getElem_cons_succ, List.getElem_cons_zero, Act.put, List.setIfInBounds_toArray, List.set_cons_zero, List.set_cons_succ]
                have hb := alloc_below hwa hm.bel.size
                have hm := hm.setB' hga hwa
                clear hga hwa
                refine hK.out _ _ ⟨hb, ?_⟩
                clear hK K
                simp only [List.setIfInBounds_toArray, List.set_cons_zero, List.set_cons_succ]
                refine wpAnyF_alone (i := 7) rfl (by kernel_rfl) (by rfl) (fun K hK => ?_)
                go_simp
                refine (lof_any Y HW2.out HR2.out _).mono ?_
                rintro e w4 ⟨rfl, hb4⟩
                have hb := hb4.mono hm.bel.size
                have hm := hm.later hb4
                clear hb4
                refine hK.out _ _ hb ?_
                clear hK K
                simp only [List.setIfInBounds_toArray, List.set_cons_zero, List.set_cons_succ]
                refine wpAnyF_alone (i := 10) rfl (by kernel_rfl) (by rfl) (fun K hK => ?_)
                obtain ⟨ma1, ma2⟩ := hm.a gA rfl
                obtain ⟨mb1, mb2⟩ := hm.b gB rfl
                have mne := hm.ne gA gB rfl rfl
                refine wp_store_lrow (.tmp 9) (.tmp 54) rfl gA w8.heap.size Z zrow HZL.out rfl rfl ma2 rfl ma1 ?_
                intro wb hA hAo hb
                have hB0 := (hAo gB mne.symm).trans mb2
                have hm2 := hm.bel.trans hb
                simp only [List.getElem_toArray, List.getElem_cons_succ, List.getElem_cons_zero, Act.put, List.setIfInBounds_toArray, List.set_cons_zero, List.set_cons_succ]
                refine hK.out _ _ hb ?_
                clear hK K
                simp only [List.setIfInBounds_toArray, List.set_cons_zero, List.set_cons_succ]
                refine wpAnyF_alone (i := 11) rfl (by kernel_rfl) (by rfl) (fun K hK => ?_)
                refine wp_store_lrow (.tmp 10) (.tmp 60) rfl gB w8.heap.size Y zrow HYL.out rfl rfl hB0 rfl mb1 ?_
                intro wc hB hBo hb
                have hA2 := (hBo gA mne).trans hA
                have hm3 := hm2.trans hb
                simp only [List.getElem_toArray, List.getElem_cons_succ, List.getElem_cons_zero, Act.put, List.setIfInBounds_toArray, List.set_cons_zero, List.set_cons_succ]
                refine hK.out _ _ hb ?_
                clear hK K
                simp only [List.setIfInBounds_toArray, List.set_cons_zero, List.set_cons_succ]
                refine wpAnyF_done (by kernel_rfl) ?_ _
                refine ⟨gA, gB, ⟨ma1, mb1, mne, hA2, hB, hm3⟩, ?_⟩
                with_reducible rfl
            · refine wp_alloc_lrow rfl ?_
              intro gB wa hga hwa
              simp only [List.getElem_toArray, List.getElem_cons_succ, List.getElem_cons_zero, Act.put, List.setIfInBounds_toArray, List.set_cons_zero, List.set_cons_succ]
              have hb := alloc_below hwa hm.bel.size
              have hm := hm.setB' hga hwa
              clear hga hwa
              refine hK.out _ _ ⟨hb, ?_⟩
              clear hK K
              simp only [List.setIfInBounds_toArray, List.set_cons_zero, List.set_cons_succ]
              refine wpAnyF_alone (i := 1) rfl (by kernel_rfl) (by rfl) (fun K hK => ?_)
              go_simp
              refine (lof_any Z HW.out HR.out _).mono ?_
              rintro e w4 ⟨rfl, hb4⟩
              have hb := hb4.mono hm.bel.size
              have hm := hm.later hb4
              clear hb4
              refine hK.out _ _ hb ?_
              clear hK K
              simp only [List.setIfInBounds_toArray, List.set_cons_zero, List.set_cons_succ]
              refine wpAnyF_alone (i := 7) rfl (by kernel_rfl) (by rfl) (fun K hK => ?_)
              go_simp
              refine (lof_any Y HW2.out HR2.out _).mono ?_
              rintro e w4 ⟨rfl, hb4⟩
              have hb := hb4.mono hm.bel.size
              have hm := hm.later hb4
              clear hb4
              refine hK.out _ _ hb ?_
              clear hK K
              simp only [List.setIfInBounds_toArray, List.set_cons_zero, List.set_cons_succ]
              refine wpAnyF_alone (i := 10) rfl (by kernel_rfl) (by rfl) (fun K hK => ?_)
              obtain ⟨ma1, ma2⟩ := hm.a gA rfl
              obtain ⟨mb1, mb2⟩ := hm.b gB rfl
              have mne := hm.ne gA gB rfl rfl
              refine wp_store_lrow (.tmp 9) (.tmp 54) rfl gA w8.heap.size Z zrow HZL.out rfl rfl ma2 rfl ma1 ?_
              intro wb hA hAo hb
              have hB0 := (hAo gB mne.symm).trans mb2
              have hm2 := hm.bel.trans hb
              simp only [List.getElem_toArray, List.getElem_cons_succ, List.getElem_cons_zero, Act.put, List.setIfInBounds_toArray, List.set_cons_zero, List.set_cons_succ]
              refine hK.out _ _ hb ?_
              clear hK K
              simp only [List.setIfInBounds_toArray, List.set_cons_zero, List.set_cons_succ]
              refine wpAnyF_alone (i := 11) rfl (by kernel_rfl) (by rfl) (fun K hK => ?_)
              refine wp_store_lrow (.tmp 10) (.tmp 60) rfl gB w8.heap.size Y zrow HYL.out rfl rfl hB0 rfl mb1 ?_
              intro wc hB hBo hb
              have hA2 := (hBo gA mne).trans hA
              have hm3 := hm2.trans hb
              simp only [List.getElem_toArray, List.getElem_cons_succ, List.getElem_cons_zero, Act.put, List.setIfInBounds_toArray, List.set_cons_zero, List.set_cons_succ]
              refine hK.out _ _ hb ?_
              clear hK K
              simp only [List.setIfInBounds_toArray, List.set_cons_zero, List.set_cons_succ]
              refine wpAnyF_done (by kernel_rfl) ?_ _
              refine ⟨gA, gB, ⟨ma1, mb1, mne, hA2, hB, hm3⟩, ?_⟩
              with_reducible rfl
          · refine wp_alloc_lrow rfl ?_
            intro gB wa hga hwa
            simp only [List.getElem_toArray, List.getElem_cons_succ, List.getElem_cons_zero, Act.put, List.setIfInBounds_toArray, List.set_cons_zero, List.set_cons_succ]
            have hb := alloc_below hwa hm.bel.size
            have hm := hm.setB' hga hwa
            clear hga hwa
            refine hK.out _ _ ⟨hb, ?_⟩
            clear hK K
            simp only [List.setIfInBounds_toArray, List.set_cons_zero, List.set_cons_succ]
            refine wpAnyF_two (i := 1) (j := 8) (by kernel_rfl) rfl (by rfl) rfl (by rfl) (fun K hK => ?_) (fun K hK => ?_)
            · go_simp
              refine (lof_any Z HW.out HR.out _).mono ?_
              rintro e w4 ⟨rfl, hb4⟩
              have hb := hb4.mono hm.bel.size
              have hm := hm.later hb4
              clear hb4
              refine hK.out _ _ ⟨hb, ?_⟩
              clear hK K
              simp only [List.setIfInBounds_toArray, List.set_cons_zero, List.set_cons_succ]
              refine wpAnyF_two (i := 7) (j := 8) (by kernel_rfl) rfl (by rfl) rfl (by rfl) (fun K hK => ?_) (fun K hK => ?_)
              · go_simp
                refine (lof_any Y HW2.out HR2.out _).mono ?_
                rintro e w4 ⟨rfl, hb4⟩
                have hb := hb4.mono hm.bel.size
                have hm := hm.later hb4
                clear hb4
                refine hK.out _ _ ⟨hb, ?_⟩
                clear hK K
                simp only [List.setIfInBounds_toArray, List.set_cons_zero, List.set_cons_succ]
                refine wpAnyF_alone (i := 8) rfl (by kernel_rfl) (by rfl) (fun K hK => ?_)
                refine wp_alloc_lrow rfl ?_
                intro gA wa hga hwa
                simp only [List.getElem_toArray, List.getElem_cons_succ, List.getElem_cons_zero, Act.put, List.setIfInBounds_toArray, List.set_cons_zero, List.set_cons_succ]
                have hb := alloc_below hwa hm.bel.size
                have hm := hm.setA' hga hwa
                clear hga hwa
                refine hK.out _ _ hb ?_
                clear hK K
                simp only [List.setIfInBounds_toArray, List.set_cons_zero, List.set_cons_succ]
                refine wpAnyF_alone (i := 10) rfl (by kernel_rfl) (by rfl) (fun K hK => ?_)
                obtain ⟨ma1, ma2⟩ := hm.a gA rfl
                obtain ⟨mb1, mb2⟩ := hm.b gB rfl
                have mne := hm.ne gA gB rfl rfl
                refine wp_store_lrow (.tmp 9) (.tmp 54) rfl gA w8.heap.size Z zrow HZL.out rfl rfl ma2 rfl ma1 ?_
                intro wb hA hAo hb
                have hB0 := (hAo gB mne.symm).trans mb2
                have hm2 := hm.bel.trans hb
                simp only [List.getElem_toArray, List.getElem_cons_succ, List.getElem_cons_zero, Act.put, List.setIfInBounds_toArray, List.set_cons_zero, List.set_cons_succ]
                refine hK.out _ _ hb ?_
                clear hK K
                simp only [List.setIfInBounds_toArray, List.set_cons_zero, List.set_cons_succ]
                refine wpAnyF_alone (i := 11) rfl (by kernel_rfl) (by rfl) (fun K hK => ?_)
                refine wp_store_lrow (.tmp 10) (.tmp 60) rfl gB w8.heap.size Y zrow HYL.out rfl rfl hB0 rfl mb1 ?_
                intro wc hB hBo hb
                have hA2 := (hBo gA mne).trans hA
                have hm3 := hm2.trans hb
                simp only [List.getElem_toArray, List.getElem_cons_succ, List.getElem_cons_zero, Act.put, List.setIfInBounds_toArray, List.set_cons_zero, List.set_cons_succ]
                refine hK.out _ _ hb ?_
                clear hK K
                simp only [List.setIfInBounds_toArray, List.set_cons_zero, List.set_cons_succ]
                refine wpAnyF_done (by kernel_rfl) ?_ _
                refine ⟨gA, gB, ⟨ma1, mb1, mne, hA2, hB, hm3⟩, ?_⟩
                with_reducible rfl
              · refine wp_alloc_lrow rfl ?_
                intro gA wa hga hwa
                simp only [List.getElem_toArray, List.getElem_cons_succ, List.getElem_cons_zero, Act.put, List.setIfInBounds_toArray, List.set_cons_zero, List.set_cons_succ]
                have hb := alloc_below hwa hm.bel.size
                have hm := hm.setA' hga hwa
                clear hga hwa
                refine hK.out _ _ ⟨hb, ?_⟩
                clear hK K
                simp only [List.setIfInBounds_toArray, List.set_cons_zero, List.set_cons_succ]
                refine wpAnyF_alone (i := 7) rfl (by kernel_rfl) (by rfl) (fun K hK => ?_)
                go_simp
                refine (lof_any Y HW2.out HR2.out _).mono ?_
                rintro e w4 ⟨rfl, hb4⟩
                have hb := hb4.mono hm.bel.size
                have hm := hm.later hb4
                clear hb4
                refine hK.out _ _ hb ?_
                clear hK K
                simp only [List.setIfInBounds_toArray, List.set_cons_zero, List.set_cons_succ]
                refine wpAnyF_alone (i := 10) rfl (by kernel_rfl) (by rfl) (fun K hK => ?_)
                obtain ⟨ma1, ma2⟩ := hm.a gA rfl
                obtain ⟨mb1, mb2⟩ := hm.b gB rfl
                have mne := hm.ne gA gB rfl rfl
                refine wp_store_lrow (.tmp 9) (.tmp 54) rfl gA w8.heap.size Z zrow HZL.out rfl rfl ma2 rfl ma1 ?_
                intro wb hA hAo hb
                have hB0 := (hAo gB mne.symm).trans mb2
                have hm2 := hm.bel.trans hb
                simp only [List.getElem_toArray, List.getElem_cons_succ, List.getElem_cons_zero, Act.put, List.setIfInBounds_toArray, List.set_cons_zero, List.set_cons_succ]
                refine hK.out _ _ hb ?_
                clear hK K
                simp only [List.setIfInBounds_toArray, List.set_cons_zero, List.set_cons_succ]
                refine wpAnyF_alone (i := 11) rfl (by kernel_rfl) (by rfl) (fun K hK => ?_)
                refine wp_store_lrow (.tmp 10) (.tmp 60) rfl gB w8.heap.size Y zrow HYL.out rfl rfl hB0 rfl mb1 ?_
                intro wc hB hBo hb
                have hA2 := (hBo gA mne).trans hA
                have hm3 := hm2.trans hb
                simp only [List.getElem_toArray, List.getElem_cons_succ, List.getElem_cons_zero, Act.put, List.setIfInBounds_toArray, List.set_cons_zero, List.set_cons_succ]
                refine hK.out _ _ hb ?_
                clear hK K
                simp only [List.setIfInBounds_toArray, List.set_cons_zero, List.set_cons_succ]
                refine wpAnyF_done (by kernel_rfl) ?_ _
                refine ⟨gA, gB, ⟨ma1, mb1, mne, hA2, hB, hm3⟩, ?_⟩
                with_reducible rfl
            · refine wp_alloc_lrow rfl ?_
              intro gA wa hga hwa
              simp only [List.getElem_toArray, List.getElem_cons_succ, List.getElem_cons_zero, Act.put, List.setIfInBounds_toArray, List.set_cons_zero, List.set_cons_succ]
              have hb := alloc_below hwa hm.bel.size
              have hm := hm.setA' hga hwa
              clear hga hwa
              refine hK.out _ _ ⟨hb, ?_⟩
              clear hK K
              simp only [List.setIfInBounds_toArray, List.set_cons_zero, List.set_cons_succ]
              refine wpAnyF_alone (i := 1) rfl (by kernel_rfl) (by rfl) (fun K hK => ?_)
              go_simp
              refine (lof_any Z HW.out HR.out _).mono ?_
              rintro e w4 ⟨rfl, hb4⟩
              have hb := hb4.mono hm.bel.size
              have hm := hm.later hb4
              clear hb4
              refine hK.out _ _ hb ?_
              clear hK K
              simp only [List.setIfInBounds_toArray, List.set_cons_zero, List.set_cons_succ]
              refine wpAnyF_alone (i := 7) rfl (by kernel_rfl) (by rfl) (fun K hK => ?_)
              go_simp
              refine (lof_any Y HW2.out HR2.out _).mono ?_
              rintro e w4 ⟨rfl, hb4⟩
              have hb := hb4.mono hm.bel.size
              have hm := hm.later hb4
              clear hb4
              refine hK.out _ _ hb ?_
              clear hK K
              simp only [List.setIfInBounds_toArray, List.set_cons_zero, List.set_cons_succ]
              refine wpAnyF_alone (i := 10) rfl (by kernel_rfl) (by rfl) (fun K hK => ?_)
              obtain ⟨ma1, ma2⟩ := hm.a gA rfl
              obtain ⟨mb1, mb2⟩ := hm.b gB rfl
              have mne := hm.ne gA gB rfl rfl
              refine wp_store_lrow (.tmp 9) (.tmp 54) rfl gA w8.heap.size Z zrow HZL.out rfl rfl ma2 rfl ma1 ?_
              intro wb hA hAo hb
              have hB0 := (hAo gB mne.symm).trans mb2
              have hm2 := hm.bel.trans hb
              simp only [List.getElem_toArray, List.getElem_cons_succ, List.getElem_cons_zero, Act.put, List.setIfInBounds_toArray, List.set_cons_zero, List.set_cons_succ]
              refine hK.out _ _ hb ?_
              clear hK K
              simp only [List.setIfInBounds_toArray, List.set_cons_zero, List.set_cons_succ]
              refine wpAnyF_alone (i := 11) rfl (by kernel_rfl) (by rfl) (fun K hK => ?_)
              refine wp_store_lrow (.tmp 10) (.tmp 60) rfl gB w8.heap.size Y zrow HYL.out rfl rfl hB0 rfl mb1 ?_
              intro wc hB hBo hb
              have hA2 := (hBo gA mne).trans hA
              have hm3 := hm2.trans hb
              simp only [List.getElem_toArray, List.getElem_cons_succ, List.getElem_cons_zero, Act.put, List.setIfInBounds_toArray, List.set_cons_zero, List.set_cons_succ]
              refine hK.out _ _ hb ?_
              clear hK K
              simp only [List.setIfInBounds_toArray, List.set_cons_zero, List.set_cons_succ]
              refine wpAnyF_done (by kernel_rfl) ?_ _
              refine ⟨gA, gB, ⟨ma1, mb1, mne, hA2, hB, hm3⟩, ?_⟩
              with_reducible rfl
        intro gA gB w9 h9
        have HA9 := hid h9.2.2.2.1
        have HBB9 := hid h9.2.2.2.2.1
        have HB9 := hid (HB8.out.trans (h9.2.2.2.2.2.mono HSZ8.out))
        have HO9 := hid (ownsRow_below HO8.out h9.2.2.2.2.2)
        have HXB := hid (fun j h => rep_bd32 HW.out HR.out j h)
        have HYB := hid (fun j h => rep_bd32 HW2.out HR2.out j h)
        clear h9 hR8 HO8 HB8 HSZ8 HB
        generalize wr = wo at *
        go_wp2_with fail
        go_loopw [4, 61] (fun b t wr => ∃ j : Nat, j ≤ 11 ∧ t = .int .i64 j ∧ wr.ownsRow w3.heap.size 5 1 b (4 + (bodyN L kp).length + (deltaN Z Y j).length) ((headL room N ++ bodyN L kp ++ deltaN Z Y j).map (Value.int .u8)) ∧ wr.heap[gA]? = some (.cells (ocells Z) 121 (0, 0)) ∧ wr.heap[gB]? = some (.cells (ocells Y) 121 (0, 0)) ∧ Below w3.heap.size w3 wr) (fun _ t _ => 11 - (intOf t).toNat)
        case atStart => exact ⟨0, by omega, rfl, by simpa [deltaN] using HO9.out, HA9.out, HBB9.out, HB9.out⟩
        case round =>
          obtain ⟨j, hj, rfl, ho, hx, hy, hbw⟩ := hrel
          have QO := hid ho
          have QA := hid hx
          have QBB := hid hy
          have QB := hid hbw
          have QSZ := hid hbw.size
          clear ho hx hy hbw
          by_cases hj11 : j < 11
          · have hj' : (j : Int) < 11 := by omega
            have qx : wr.cell? ⟨gA, j, none⟩ = some (.int .i32 (Z.getD j 0)) := (cell_of_row wr gA j _ _ _ QA.out).trans (ocells_at HZL.out j hj11)
            have qy : wr.cell? ⟨gB, j, none⟩ = some (.int .i32 (Y.getD j 0)) := (cell_of_row wr gB j _ _ _ QBB.out).trans (ocells_at HYL.out j hj11)
            obtain ⟨x1, x2⟩ := HXB.out j hj11
            obtain ⟨y1, y2⟩ := HYB.out j hj11
            have QDS := hid (deltaN_succ Z Y j)
            have QLN := hid (show 4 + (bodyN L kp).length + (deltaN Z Y j).length ≤ 56000 by have h1 := HBN.out; have h2 := deltaN_len Z Y j; have h3 : kp ≤ 1000 := (by omega); omega)
            generalize Z.getD j 0 = x at *
            generalize Y.getD j 0 = y at *
            have XY := hid (show IntKind.i32.wrap (x - y) = lowI (x - y) from IntKind.wrap_i32 _)
            go_wp2_with fail
            refine wp_region_L' (z := 8) (B := wr.heap.size) (n := 10) (l := #[false, false, false, false, false, false, false, false, false, false]) (by kernel_rfl) (by kernel_rfl) (by kernel_rfl) ?_
            refine wpAnyL_take (i := 0) (v := ?vz_c_0_1) (some 64) rfl rfl (by kernel_rfl) (by kernel_rfl) (by kernel_rfl) (fun _ _ _ h => h) (by rfl) [8, 9] (by kernel_rfl) ?hvz_c_0_1 ?restz_c_0_1
            case hvz_c_0_1 => (intro w' hb; go_simp; try with_reducible rfl)
            simp only [Act.put, List.setIfInBounds_toArray, List.set_cons_zero, List.set_cons_succ]
            refine wpAnyL_take (i := 1) (v := ?vz_c_1_2) (some 65) rfl rfl (by kernel_rfl) (by kernel_rfl) (by kernel_rfl) (fun _ _ _ h => h) (by rfl) [2, 3, 7, 8, 9] (by kernel_rfl) ?hvz_c_1_2 ?restz_c_1_2
            case hvz_c_1_2 => (intro w' hb; go_simp; try with_reducible rfl)
            simp only [Act.put, List.setIfInBounds_toArray, List.set_cons_zero, List.set_cons_succ]
            refine wpAnyL_take (i := 2) (v := ?vz_c_2_3) (some 66) rfl rfl (by kernel_rfl) (by kernel_rfl) (by kernel_rfl) (fun _ _ _ h => h) (by rfl) [3, 7, 8, 9] (by kernel_rfl) ?hvz_c_2_3 ?restz_c_2_3
            case hvz_c_2_3 => (intro w' hb; go_simp; try with_reducible rfl)
            simp only [Act.put, List.setIfInBounds_toArray, List.set_cons_zero, List.set_cons_succ]
            refine wpAnyL_take (i := 3) (v := ?vz_c_3_4) (some 67) rfl rfl (by kernel_rfl) (by kernel_rfl) (by kernel_rfl) (fun _ _ _ h => h) (by rfl) [7, 8, 9] (by kernel_rfl) ?hvz_c_3_4 ?restz_c_3_4
            case hvz_c_3_4 => (intro w' hb; (have hcw := (hb.cell (p := ⟨gA, j, none⟩) (lt_of_cell qx)).trans qx; go_simp; try with_reducible rfl))
            simp only [Act.put, List.setIfInBounds_toArray, List.set_cons_zero, List.set_cons_succ]
            refine wpAnyL_take (i := 4) (v := ?vz_c_4_5) (some 68) rfl rfl (by kernel_rfl) (by kernel_rfl) (by kernel_rfl) (fun _ _ _ h => h) (by rfl) [5, 6, 7, 8, 9] (by kernel_rfl) ?hvz_c_4_5 ?restz_c_4_5
            case hvz_c_4_5 => (intro w' hb; go_simp; try with_reducible rfl)
            simp only [Act.put, List.setIfInBounds_toArray, List.set_cons_zero, List.set_cons_succ]
            refine wpAnyL_take (i := 5) (v := ?vz_c_5_6) (some 69) rfl rfl (by kernel_rfl) (by kernel_rfl) (by kernel_rfl) (fun _ _ _ h => h) (by rfl) [6, 7, 8, 9] (by kernel_rfl) ?hvz_c_5_6 ?restz_c_5_6
            case hvz_c_5_6 => (intro w' hb; go_simp; try with_reducible rfl)
            simp only [Act.put, List.setIfInBounds_toArray, List.set_cons_zero, List.set_cons_succ]
            refine wpAnyL_take (i := 6) (v := ?vz_c_6_7) (some 70) rfl rfl (by kernel_rfl) (by kernel_rfl) (by kernel_rfl) (fun _ _ _ h => h) (by rfl) [7, 8, 9] (by kernel_rfl) ?hvz_c_6_7 ?restz_c_6_7
            case hvz_c_6_7 => (intro w' hb; (have hcw := (hb.cell (p := ⟨gB, j, none⟩) (lt_of_cell qy)).trans qy; go_simp; try with_reducible rfl))
            simp only [Act.put, List.setIfInBounds_toArray, List.set_cons_zero, List.set_cons_succ]
            refine wpAnyL_take (i := 7) (v := ?vz_c_7_8) (some 71) rfl rfl (by kernel_rfl) (by kernel_rfl) (by kernel_rfl) (fun _ _ _ h => h) (by rfl) [8, 9] (by kernel_rfl) ?hvz_c_7_8 ?restz_c_7_8
            case hvz_c_7_8 => (intro w' hb; (have exy := XY.out; go_simp; try with_reducible rfl))
            simp only [Act.put, List.setIfInBounds_toArray, List.set_cons_zero, List.set_cons_succ]
            refine wpAnyL_alone (i := 8) rfl (by kernel_rfl) (by rfl) (fun K hK => ?_)
            go_simp
            refine (short_any w3.heap.size _ _ _ (lowI (x - y)) wr.drew (lowI_bd _) QO.out (by have := QLN.out; omega) QSZ.out).mono ?_
            rintro e w7 ⟨v7, rfl, hown7, hg7, -⟩
            have FIN15 := hid (show w7.ownsRow w3.heap.size 5 1 v7 (4 + (bodyN L kp).length + (deltaN Z Y (j + 1)).length) ((headL room N ++ bodyN L kp ++ deltaN Z Y (j + 1)).map (Value.int .u8)) ∧ w7.heap[gA]? = some (.cells (ocells Z) 121 (0, 0)) ∧ w7.heap[gB]? = some (.cells (ocells Y) 121 (0, 0)) ∧ Below w3.heap.size w3 w7 from by
              refine ⟨?_, (hg7.block gA (lt_of_row QA.out) (fun e => row_not' QO.out QA.out (by decide) (by first | exact e | exact e.symm))).trans QA.out, (hg7.block gB (lt_of_row QBB.out) (fun e => row_not' QO.out QBB.out (by decide) (by first | exact e | exact e.symm))).trans QBB.out, (QB.out.drew).grown hg7 (by simpa using QSZ.out) (fun k e => (QO.out.lt k e).1)⟩
              rw [QDS.out, List.length_append, ← List.append_assoc, List.map_append, ← Nat.add_assoc]
              exact hown7)
            clear hown7 hg7
            refine hK.out _ _ (fun h => absurd rfl h) ?_
            clear hK K
            simp only [List.setIfInBounds_toArray, List.set_cons_zero, List.set_cons_succ]
            refine wpAnyL_alone (i := 9) rfl (by kernel_rfl) (by rfl) (fun K hK => ?_)
            go_simp
            refine hK.out _ _ (fun _ => (Below.refl _ _)) ?_
            clear hK K
            simp only [List.setIfInBounds_toArray, List.set_cons_zero, List.set_cons_succ]
            refine wpAnyL_done (by kernel_rfl) ?_ _
            go_wp2_with fail
            go_roundw
            case rel => exact ⟨j + 1, by omega, by go_num, FIN15.out⟩
            case measure => simp [intOf]; omega
          · obtain rfl : j = 11 := by omega
            go_wp2_with fail
            go_roundw
            case rel =>
              refine ⟨kp + 1, by omega, by go_num, ?_, QB.out⟩
              rw [HCH.out, List.length_append, ← List.append_assoc, ← Nat.add_assoc]
              exact QO.out
            case measure => simp [intOf]; omega
    · obtain rfl : k = N := by omega
      have HR4 := hid (reads_of_owns (l := headL room k ++ bodyN L k) HOW.out (fun x hx => (List.mem_append.1 hx).elim (HHW.out x) (bodyN_wf HL11.out k x)))
      have HBN := hid (bodyN_len HL11.out k)
      have HLB := hid (show logB room L = headL room k ++ bodyN L k by unfold logB; rw [← HN.out])
      go_wp2_with fail
      refine (seal_any _ _ _ HR4.out (FCW.out _ HB.out).1 (by have := HBN.out; rw [List.length_append]; have : (headL room k).length = 4 := rfl; omega)).mono ?_
      rintro e w8 ⟨v8, rfl, hb8, hown8⟩
      have HO8 := hid hown8
      have HB8 := hid (HB3.out.trans ((chain HB.out hb8).mono HS3.out))
      clear hown8 hb8
      go_wp2
      go_ret
      refine ⟨_, rfl, HB8.out, ?_⟩
      unfold logL
      rw [HLB.out, show (sealL (headL room k ++ bodyN L k)).length = (headL room k ++ bodyN L k).length + 2 from by unfold sealL; rw [List.length_append]; rfl]
      exact own_base HO8.out (Nat.le_trans HS3.out HSZ.out)
end Go.Proofs.YtecbfegohdllbaaDoor
