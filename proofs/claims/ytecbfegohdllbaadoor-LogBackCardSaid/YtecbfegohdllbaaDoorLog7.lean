/- Layer 47 (log): Add: contracts. -/
import Derived.Test.YtecbfegohdllbaaDoorPackB
import Derived.Test.YtecbfegohdllbaaDoorPackJ
namespace Go.Proofs.YtecbfegohdllbaaDoor
open Go.RowKit
set_option linter.unusedVariables false
set_option linter.unusedSimpArgs false
/-- what a log has behind an Add -/
def addL (room : Nat) (L : List (List Int)) (Z : List Int) : List (List Int) := (if L.length = room then L.drop 1 else L) ++ [Z]
theorem addL_more {room : Nat} {L : List (List Int)} {Z : List Int} (h : L.length ≠ room) : addL room L Z = L ++ [Z] := by unfold addL; rw [if_neg h]
theorem addL_over {room : Nat} {L : List (List Int)} {Z : List Int} (h : L.length = room) : addL room L Z = L.drop 1 ++ [Z] := by unfold addL; rw [if_pos h]
theorem ringL_zero (R : List (List Int)) : ringL R 0 = R := by simp [ringL]
theorem ringL_len {R : List (List Int)} {f : Nat} (h : f ≤ R.length) : (ringL R f).length = R.length := by simp [ringL]; omega
set_option maxRecDepth 100000 in
set_option maxHeartbeats 1000000 in
theorem ladd_wrong {M g room f : Nat} {ring : Value} {R : List (List Int)} (Z : List Int) (a0 a1 : Addr) (w : World) (h : LG M g room ring R f w) (hZ : RepWf Z) (hR : ¬ RightL Z) (hF : FE a0 a1 w) :
    Calls Tryd.prog 51 #[.pointer (some ⟨g, 0, none⟩), .agg (rcells Z)] w fun e w' => e = .returned (.int .i64 6) ∧ Below w.heap.size w w' := by
  obtain ⟨q0, q1, q2, q3, q4, q5, q6, q7, q8, q9⟩ := h
  have HZ := hid hZ.1
  have HRW := hid hZ
  have HRR := hid hR
  have hl11 : ∀ Z ∈ R, Z.length = 11 := fun Z hZ => (q4 Z hZ).1.1
  obtain ⟨ua, uc, rfl⟩ := own_slice q1
  have hgl := lt_of_row q0
  have Q0 := hid (fun W (hW : Below w.heap.size w W) => (hW.block g hgl).trans q0)
  have FP := hid (fun W (hW : Below w.heap.size w W) => fput_e Z hZ a0 a1 W (hF.later hW))
  have hroom : (0 : Int) < room := by omega
  have HRM := hid hroom
  clear hF
  go_enter Tryd.func51, Tryd.ntmps51
  go_wp2_with ((with_reducible refine at_op (.box 50 (.tmp 1)) ?_); refine wpR_box rfl (.tmp 1) rfl Z rfl ?_; intro g3 w3 hg3 hR3 hb3; have hl3 : w.heap.size ≤ g3 := Nat.le_of_eq hg3.symm; clear hg3)
  have hB3 : Below w.heap.size w w3 := hb3
  refine (live_row g room _ _ w3 HRM.out (Q0.out w3 hB3)).mono ?_
  rintro e w4 ⟨rfl, rfl⟩
  go_wp2_with ((with_reducible refine at_op (.load 50 (.tmp 3)) ?_); refine wpR_get rfl (.tmp 3) rfl g3 rfl Z HZ.out hR3 ?_)
  refine (FP.out w3 hB3).mono ?_
  rintro e w4 ⟨v4, rfl, hb4, -⟩
  rw [putE_wrong HRR.out]
  have hB4 := chain hB3 hb4
  have hR4 := hR3.later hb4
  have hsz4 : w.heap.size ≤ w4.heap.size := hB4.size
  have hg34 : g3 < w4.heap.size := lt_of_row hR4
  have P0 := Q0.out w4 hB4
  clear hb4 hb3 FP Q0
  go_wp2
  go_ret
  exact ⟨rfl, hB4⟩
set_option maxRecDepth 100000 in
set_option maxHeartbeats 1000000 in
theorem ladd_more {M g room f : Nat} {ring : Value} {R : List (List Int)} (Z : List Int) (a0 a1 : Addr) (w : World) (h : LG M g room ring R f w) (hZ : RepWf Z) (hR : RightL Z) (hF : FE a0 a1 w) (hlt : R.length < room) :
    Calls Tryd.prog 51 #[.pointer (some ⟨g, 0, none⟩), .agg (rcells Z)] w fun e w' => e = .returned (.int .i64 0) ∧ ∃ ring' R' f', LG M g room ring' R' f' w' ∧ ringL R' f' = addL room (ringL R f) Z ∧ Kept g ring.ownBlock w w' ∧ (ring'.ownBlock = ring.ownBlock ∨ ∃ j, ring'.ownBlock = some j ∧ w.heap.size ≤ j) := by
  obtain ⟨i0, hi0, hz0, hz1, hz2⟩ := info_parts Tryd.infoRep
  obtain ⟨q0, q1, q2, q3, q4, q5, q6, q7, q8, q9⟩ := h
  have HZ := hid hZ.1
  have HRW := hid hZ
  have HRR := hid hR
  have hl11 : ∀ Z ∈ R, Z.length = 11 := fun Z hZ => (q4 Z hZ).1.1
  obtain ⟨ua, uc, rfl⟩ := own_slice q1
  have hgl := lt_of_row q0
  have Q0 := hid (fun W (hW : Below w.heap.size w W) => (hW.block g hgl).trans q0)
  have FP := hid (fun W (hW : Below w.heap.size w W) => fput_e Z hZ a0 a1 W (hF.later hW))
  have hroom : (0 : Int) < room := by omega
  have HRM := hid hroom
  clear hF
  have HF0 := hid (q8 hlt)
  have HLT := hid hlt
  have HLEN := hid (show R.length ≤ 1000 by omega)
  have HLG := hid (show 1 ≤ room ∧ room ≤ 1000 ∧ (∀ Z ∈ R, RepWf Z ∧ RightL Z) from ⟨q5, q6, q4⟩)
  have HOWN := hid q1
  have hlt' : (R.length : Int) < room := by omega
  clear q0 q1 q4 q5 q6 q7 q8 q9 hl11 hlt hZ hR
  go_enter Tryd.func51, Tryd.ntmps51
  go_wp2_with ((with_reducible refine at_op (.box 50 (.tmp 1)) ?_); refine wpR_box rfl (.tmp 1) rfl Z rfl ?_; intro g3 w3 hg3 hR3 hb3; have hl3 : w.heap.size ≤ g3 := Nat.le_of_eq hg3.symm; clear hg3)
  have hB3 : Below w.heap.size w w3 := hb3
  refine (live_row g room _ _ w3 HRM.out (Q0.out w3 hB3)).mono ?_
  rintro e w4 ⟨rfl, rfl⟩
  go_wp2_with ((with_reducible refine at_op (.load 50 (.tmp 3)) ?_); refine wpR_get rfl (.tmp 3) rfl g3 rfl Z HZ.out hR3 ?_)
  refine (FP.out w3 hB3).mono ?_
  rintro e w4 ⟨v4, rfl, hb4, -⟩
  rw [putE_right HRR.out]
  have hB4 := chain hB3 hb4
  have hR4 := hR3.later hb4
  have hsz4 : w.heap.size ≤ w4.heap.size := hB4.size
  have hg34 : g3 < w4.heap.size := lt_of_row hR4
  have P0 := Q0.out w4 hB4
  clear hb4 hb3 FP Q0
  have k0 : w4.cell? ⟨g, 0, none⟩ = some (.int .i64 room) := (cell_of_row w4 g 0 _ _ _ P0).trans rfl
  have k1 : w4.cell? ⟨g, 1, none⟩ = some (.slice ua R.length uc) := (cell_of_row w4 g 1 _ _ _ P0).trans rfl
  have k2 : w4.cell? ⟨g, 2, none⟩ = some (.int .i64 f) := (cell_of_row w4 g 2 _ _ _ P0).trans rfl
  have hg4 : g < w4.heap.size := by omega
  go_wp2_with fail
  refine wp_region_F' (B := w4.heap.size) (n := 10) (l := #[false, false, false, false, false, false, false, false, false, false]) (by kernel_rfl) (by kernel_rfl) (by kernel_rfl) ?_
  refine wpAnyF_take (i := 0) (v := ?vp_0_1) (some 18) rfl rfl (by kernel_rfl) (by kernel_rfl) (by kernel_rfl) (fun _ _ _ h => h) (by rfl) ?hvp_0_1 ?restp_0_1
  case hvp_0_1 => (intro w' hb; go_simp; try with_reducible rfl)
  simp only [Act.put, List.setIfInBounds_toArray, List.set_cons_zero, List.set_cons_succ]
  refine wpAnyF_take (i := 1) (v := ?vp_1_2) (some 19) rfl rfl (by kernel_rfl) (by kernel_rfl) (by kernel_rfl) (fun _ _ _ h => h) (by rfl) ?hvp_1_2 ?restp_1_2
  case hvp_1_2 => (intro w' hb; go_simp; try with_reducible rfl)
  simp only [Act.put, List.setIfInBounds_toArray, List.set_cons_zero, List.set_cons_succ]
  refine wpAnyF_take (i := 2) (v := ?vp_2_3) (some 20) rfl rfl (by kernel_rfl) (by kernel_rfl) (by kernel_rfl) (fun _ _ _ h => h) (by rfl) ?hvp_2_3 ?restp_2_3
  case hvp_2_3 => (intro w' hb; go_simp; try with_reducible rfl)
  simp only [Act.put, List.setIfInBounds_toArray, List.set_cons_zero, List.set_cons_succ]
  refine wpAnyF_take (i := 3) (v := ?vp_3_4) (some 21) rfl rfl (by kernel_rfl) (by kernel_rfl) (by kernel_rfl) (fun _ _ _ h => h) (by rfl) ?hvp_3_4 ?restp_3_4
  case hvp_3_4 => (intro w' hb; (have hcw := (hb.cell (p := ⟨g, 1, none⟩) hg4).trans k1; go_simp; try with_reducible rfl))
  simp only [Act.put, List.setIfInBounds_toArray, List.set_cons_zero, List.set_cons_succ]
  refine wpAnyF_take (i := 4) (v := ?vp_4_5) (some 22) rfl rfl (by kernel_rfl) (by kernel_rfl) (by kernel_rfl) (fun _ _ _ h => h) (by rfl) ?hvp_4_5 ?restp_4_5
  case hvp_4_5 => (intro w' hb; go_simp; try with_reducible rfl)
  simp only [Act.put, List.setIfInBounds_toArray, List.set_cons_zero, List.set_cons_succ]
  refine wpAnyF_take (i := 5) (v := ?vp_5_6) (some 23) rfl rfl (by kernel_rfl) (by kernel_rfl) (by kernel_rfl) (fun _ _ _ h => h) (by rfl) ?hvp_5_6 ?restp_5_6
  case hvp_5_6 => (intro w' hb; go_simp; try with_reducible rfl)
  simp only [Act.put, List.setIfInBounds_toArray, List.set_cons_zero, List.set_cons_succ]
  refine wpAnyF_take (i := 6) (v := ?vp_6_7) (some 24) rfl rfl (by kernel_rfl) (by kernel_rfl) (by kernel_rfl) (fun _ _ _ h => h) (by rfl) ?hvp_6_7 ?restp_6_7
  case hvp_6_7 => (intro w' hb; go_simp; try with_reducible rfl)
  simp only [Act.put, List.setIfInBounds_toArray, List.set_cons_zero, List.set_cons_succ]
  refine wpAnyF_take (i := 7) (v := ?vp_7_8) (some 25) rfl rfl (by kernel_rfl) (by kernel_rfl) (by kernel_rfl) (fun _ _ _ h => h) (by rfl) ?hvp_7_8 ?restp_7_8
  case hvp_7_8 => (intro w' hb; go_simp; try with_reducible rfl)
  simp only [Act.put, List.setIfInBounds_toArray, List.set_cons_zero, List.set_cons_succ]
  refine wpAnyF_take (i := 8) (v := ?vp_8_9) (some 26) rfl rfl (by kernel_rfl) (by kernel_rfl) (by kernel_rfl) (fun _ _ _ h => h) (by rfl) ?hvp_8_9 ?restp_8_9
  case hvp_8_9 => (intro w' hb; (have hcw := (hb.cell (p := ⟨g, 0, none⟩) hg4).trans k0; go_simp; try with_reducible rfl))
  simp only [Act.put, List.setIfInBounds_toArray, List.set_cons_zero, List.set_cons_succ]
  refine wpAnyF_take (i := 9) (v := ?vp_9_10) (some 27) rfl rfl (by kernel_rfl) (by kernel_rfl) (by kernel_rfl) (fun _ _ _ h => h) (by rfl) ?hvp_9_10 ?restp_9_10
  case hvp_9_10 => (intro w' hb; go_simp; try with_reducible rfl)
  simp only [Act.put, List.setIfInBounds_toArray, List.set_cons_zero, List.set_cons_succ]
  refine wpAnyF_done (by kernel_rfl) ?_ _
  go_wp2_with fail
  refine wp_region_L' (z := 10) (B := M) (n := 11) (l := #[false, false, false, false, false, false, false, false, false, false, false]) (by kernel_rfl) (by kernel_rfl) (by kernel_rfl) ?_
  refine wpAnyL_take (i := 0) (v := ?vq_c_0_1) (some 28) rfl rfl (by kernel_rfl) (by kernel_rfl) (by kernel_rfl) (fun _ _ _ h => h) (by rfl) [8, 9, 10] (by kernel_rfl) ?hvq_c_0_1 ?restq_c_0_1
  case hvq_c_0_1 => (intro w' hb; go_simp; try with_reducible rfl)
  simp only [Act.put, List.setIfInBounds_toArray, List.set_cons_zero, List.set_cons_succ]
  refine wpAnyL_take (i := 1) (v := ?vq_c_1_2) (some 29) rfl rfl (by kernel_rfl) (by kernel_rfl) (by kernel_rfl) (fun _ _ _ h => h) (by rfl) [2, 3, 4, 7, 8, 9, 10] (by kernel_rfl) ?hvq_c_1_2 ?restq_c_1_2
  case hvq_c_1_2 => (intro w' hb; go_simp; try with_reducible rfl)
  simp only [Act.put, List.setIfInBounds_toArray, List.set_cons_zero, List.set_cons_succ]
  refine wpAnyL_take (i := 2) (v := ?vq_c_2_3) (some 30) rfl rfl (by kernel_rfl) (by kernel_rfl) (by kernel_rfl) (fun _ _ _ h => h) (by rfl) [3, 4, 7, 8, 9, 10] (by kernel_rfl) ?hvq_c_2_3 ?restq_c_2_3
  case hvq_c_2_3 => (intro w' hb; go_simp; try with_reducible rfl)
  simp only [Act.put, List.setIfInBounds_toArray, List.set_cons_zero, List.set_cons_succ]
  refine wpAnyL_take (i := 3) (v := ?vq_c_3_4) (some 31) rfl rfl (by kernel_rfl) (by kernel_rfl) (by kernel_rfl) (fun _ _ _ h => h) (by rfl) [4, 7, 8, 9, 10] (by kernel_rfl) ?hvq_c_3_4 ?restq_c_3_4
  case hvq_c_3_4 => (intro w' hb; go_simp; try with_reducible rfl)
  simp only [Act.put, List.setIfInBounds_toArray, List.set_cons_zero, List.set_cons_succ]
  refine wpAnyL_take (i := 4) (v := ?vq_c_4_5) (some 32) rfl rfl (by kernel_rfl) (by kernel_rfl) (by kernel_rfl) (fun _ _ _ h => h) (by rfl) [7, 8, 9, 10] (by kernel_rfl) ?hvq_c_4_5 ?restq_c_4_5
  case hvq_c_4_5 => (intro w' hb; (have hcw := (hb.cell (p := ⟨g, 1, none⟩) q2).trans k1; go_simp; try with_reducible rfl))
  simp only [Act.put, List.setIfInBounds_toArray, List.set_cons_zero, List.set_cons_succ]
  refine wpAnyL_alone (i := 5) rfl (by kernel_rfl) (by rfl) (fun K hK => ?_)
  refine wp_load_row 50 (.tmp 3) rfl g3 rfl _ _ _ _ hR4 Tryd.underlying50 rfl (by rw [rcells_size _ HZ.out]; kernel_rfl) ?_
  simp only [List.getElem_toArray, List.getElem_cons_succ, List.getElem_cons_zero, Act.put, List.setIfInBounds_toArray, List.set_cons_zero, List.set_cons_succ]
  refine hK.out _ _ (fun _ => (Below.refl _ _)) ?_
  clear hK K
  simp only [List.setIfInBounds_toArray, List.set_cons_zero, List.set_cons_succ]
  refine wpAnyL_alone (i := 6) rfl (by kernel_rfl) (by rfl) (fun K hK => ?_)
  refine wp_slice1_rep (.tmp 33) rfl Z HZ.out rfl ?_
  intro g8 w8 hg8 hR8 hb8
  have hb8' : Below w4.heap.size w4 w8 := Below.drewl (Below.drewl (by simpa using hb8))
  refine hK.out _ _ (fun _ => (hb8.mono (by simp; omega))) ?_
  clear hK K
  simp only [List.setIfInBounds_toArray, List.set_cons_zero, List.set_cons_succ]
  refine wpAnyL_alone (i := 7) rfl (by kernel_rfl) (by rfl) (fun K hK => ?_)
  obtain ⟨v9, w9, hrun, hown9, hg9, -, hl9⟩ := run_append_own_at (P := Tryd.prog) (w := w8) M 60 60 50 i0 (.agg (rcells zeroR)) 11 64 Tryd.underlying60 hi0 hz0 hz1 hz2 rfl (by decide) _ R.length (repCells R) (ownsRow_below (ownsRow_below HOWN.out hB4) hb8') ⟨g8, 0, none⟩ 1 1 (rcells Z).toList (rcells_list_len Z HZ.out)
    (by intro j t hj; rw [add_plain, Nat.zero_add]; exact (cell_of_row w8 g8 j _ _ _ hR8).trans (by rw [← hj, Array.getElem?_toList])) (by intro t ht; exact Array.all_eq_true_iff_forall_mem.1 (rcells_one Z) t (by simpa using ht)) (by have := HLEN.out; simp [maxLen]; omega) (by have := HLEN.out; omega) (by have := hb8'.size; omega)
  obtain ⟨va9, vc9, rfl⟩ := own_slice hown9
  refine wp_append_run (.tmp 32) (.tmp 34) 60 rfl rfl rfl hrun ?_
  have hbM : Below M w8 w9 := (Below.refl _ w8).grown hg9 (by have := hb8'.size; omega) (fun k e => (HOWN.out.lt k e).1)
  have hgb : w9.heap[g]? = some (.cells #[.int .i64 room, .slice ua R.length uc, .int .i64 f] 117 (0, 0)) := (hbM.block g q2).trans ((hb8'.block g hg4).trans P0)
  have cw2 := (cell_of_row w9 g 1 _ _ _ hgb).trans (rfl : _ = some (Value.slice ua R.length uc))
  have fw2 := frozen_of_row w9 g 1 _ _ hgb
  refine hK.out _ _ (fun _ => (hbM)) ?_
  clear hK K
  simp only [List.setIfInBounds_toArray, List.set_cons_zero, List.set_cons_succ]
  refine wpAnyL_take (i := 8) (v := ?vq_c_8_6) (some 36) rfl rfl (by kernel_rfl) (by kernel_rfl) (by kernel_rfl) (fun _ _ _ h => h) (by rfl) [9, 10] (by kernel_rfl) ?hvq_c_8_6 ?restq_c_8_6
  case hvq_c_8_6 => (intro w' hb; go_simp; try with_reducible rfl)
  simp only [Act.put, List.setIfInBounds_toArray, List.set_cons_zero, List.set_cons_succ]
  refine wpAnyL_take (i := 9) (v := ?vq_c_9_7) (some 37) rfl rfl (by kernel_rfl) (by kernel_rfl) (by kernel_rfl) (fun _ _ _ h => h) (by rfl) [10] (by kernel_rfl) ?hvq_c_9_7 ?restq_c_9_7
  case hvq_c_9_7 => (intro w' hb; go_simp; try with_reducible rfl)
  simp only [Act.put, List.setIfInBounds_toArray, List.set_cons_zero, List.set_cons_succ]
  refine wpAnyL_alone (i := 10) rfl (by kernel_rfl) (by rfl) (fun K hK => ?_)
  go_simp
  refine hK.out _ _ (fun h => absurd rfl h) ?_
  clear hK K
  simp only [List.setIfInBounds_toArray, List.set_cons_zero, List.set_cons_succ]
  refine wpAnyL_done (by kernel_rfl) ?_ _
  have hs9 : (w9.setCell ⟨g, 1, none⟩ (.slice va9 (R.length + 1) vc9)).heap[g]? = some (.cells #[.int .i64 room, .slice va9 (R.length + 1) vc9, .int .i64 f] 117 (0, 0)) := by simp [World.setCell, Array.getElem?_modify, hgb]
  have FIN := hid (show ∃ ring' R' f', LG M g room ring' R' f' (w9.setCell ⟨g, 1, none⟩ (.slice va9 (R.length + 1) vc9)) ∧ ringL R' f' = addL room (ringL R f) Z ∧ Kept g (Value.ownBlock (.slice ua R.length uc)) w (w9.setCell ⟨g, 1, none⟩ (.slice va9 (R.length + 1) vc9)) ∧ (ring'.ownBlock = Value.ownBlock (.slice ua R.length uc) ∨ ∃ j, ring'.ownBlock = some j ∧ w.heap.size ≤ j) from by
    have hf0 : f = 0 := HF0.out
    subst hf0
    refine ⟨.slice va9 (R.length + 1) vc9, R ++ [Z], 0, ⟨by rw [hs9], ?_, q2, ?_, ?_, HLG.out.1, HLG.out.2.1, ?_, (fun _ => rfl), HLG.out.1⟩, ?_, ?_, ?_⟩
    · have := own_set_other' (off := 1) (u := .slice va9 (R.length + 1) vc9) hown9 (row_not' hown9 hgb (by decide))
      unfold Rows'
      rw [List.length_append, repCells_snoc]
      exact this
    · have := hb8'.size; have := hg9.size; simp; omega
    · intro Y hY
      rcases List.mem_append.1 hY with h | h
      · exact HLG.out.2.2 Y h
      · rw [List.mem_singleton.1 h]; exact ⟨HRW.out, HRR.out⟩
    · rw [List.length_append]; have := HLT.out; simp; omega
    · rw [ring_more, addL_more (by rw [ringL_zero]; have := HLT.out; omega)]
    · exact ((Kept.of_below (hB4.trans (hb8'.mono hsz4))).trans (Kept.grown hg9)).set 1 _
    · rcases hl9 with e | e
      · exact .inl e
      · exact .inr ⟨_, e, by have := hb8'.size; omega⟩)
  clear hs9 hown9 hg9 hl9 hbM hgb cw2 fw2 hb8' hb8 hR8 hrun HOWN
  go_wp2
  go_ret
  exact ⟨rfl, FIN.out⟩
set_option maxRecDepth 100000 in
set_option maxHeartbeats 1000000 in
theorem ladd_over {M g room f : Nat} {ring : Value} {R : List (List Int)} (Z : List Int) (a0 a1 : Addr) (w : World) (h : LG M g room ring R f w) (hZ : RepWf Z) (hR : RightL Z) (hF : FE a0 a1 w) (heq : R.length = room) :
    Calls Tryd.prog 51 #[.pointer (some ⟨g, 0, none⟩), .agg (rcells Z)] w fun e w' => e = .returned (.int .i64 0) ∧ ∃ ring' R' f', LG M g room ring' R' f' w' ∧ ringL R' f' = addL room (ringL R f) Z ∧ Kept g ring.ownBlock w w' ∧ (ring'.ownBlock = ring.ownBlock ∨ ∃ j, ring'.ownBlock = some j ∧ w.heap.size ≤ j) := by
  obtain ⟨i0, hi0, hz0, hz1, hz2⟩ := info_parts Tryd.infoRep
  obtain ⟨q0, q1, q2, q3, q4, q5, q6, q7, q8, q9⟩ := h
  have HZ := hid hZ.1
  have HRW := hid hZ
  have HRR := hid hR
  have hl11 : ∀ Z ∈ R, Z.length = 11 := fun Z hZ => (q4 Z hZ).1.1
  obtain ⟨ua, uc, rfl⟩ := own_slice q1
  have hgl := lt_of_row q0
  have Q0 := hid (fun W (hW : Below w.heap.size w W) => (hW.block g hgl).trans q0)
  have FP := hid (fun W (hW : Below w.heap.size w W) => fput_e Z hZ a0 a1 W (hF.later hW))
  have hroom : (0 : Int) < room := by omega
  have HRM := hid hroom
  clear hF
  have hfR : f < R.length := by omega
  obtain ⟨g', c, cur, hv, r1, r2, r3, r4, r5⟩ := rows_set (Z := Z) q1 hl11 hZ.1 hfR
  obtain ⟨rfl, -, rfl⟩ := Value.slice.inj hv
  simp only [Nat.mul_comm 11 f] at r5 r3
  have HR5 := hid r5
  have HR2 := hid r2
  have HFIT := hid r3
  have hgl' := lt_of_row r2
  have HLG := hid (show 1 ≤ room ∧ room ≤ 1000 ∧ (∀ Z ∈ R, RepWf Z ∧ RightL Z) from ⟨q5, q6, q4⟩)
  have HOV := hid (show ringL (R.set f Z) ((f + 1) % room) = addL room (ringL R f) Z from by rw [addL_over (by rw [ringL_len (by omega)]; exact heq), ← heq]; exact ring_over R Z f hfR)
  have HR0 := hid (show ¬ room = 0 by omega)
  obtain ⟨fn, hfn⟩ : ∃ fn, fn = (f + 1) % room := ⟨_, rfl⟩
  rw [← hfn] at HOV
  have HFN := hid (show fn < room by rw [hfn]; exact Nat.mod_lt _ (by omega))
  have HTM := hid (show (IntKind.i64.wrap ((f : Int) + 1)).tmod room = (fn : Int) from by rw [hfn, IntWalk.i64_in _ (by omega), Int.tmod_eq_emod_of_nonneg (by omega)]; push_cast; rfl)
  clear hfn
  have HEQ := hid heq
  have hge' : ¬ (R.length : Int) < room := by omega
  have hfr : (f : Int) < R.length := by omega
  have hr1 : (room : Int) ≤ 1000 := by omega
  clear q0 q1 q4 q5 q6 q7 q8 q9 hl11 heq hZ hR r2 r3 r5 hv
  go_enter Tryd.func51, Tryd.ntmps51
  go_wp2_with ((with_reducible refine at_op (.box 50 (.tmp 1)) ?_); refine wpR_box rfl (.tmp 1) rfl Z rfl ?_; intro g3 w3 hg3 hR3 hb3; have hl3 : w.heap.size ≤ g3 := Nat.le_of_eq hg3.symm; clear hg3)
  have hB3 : Below w.heap.size w w3 := hb3
  refine (live_row g room _ _ w3 HRM.out (Q0.out w3 hB3)).mono ?_
  rintro e w4 ⟨rfl, rfl⟩
  go_wp2_with ((with_reducible refine at_op (.load 50 (.tmp 3)) ?_); refine wpR_get rfl (.tmp 3) rfl g3 rfl Z HZ.out hR3 ?_)
  refine (FP.out w3 hB3).mono ?_
  rintro e w4 ⟨v4, rfl, hb4, -⟩
  rw [putE_right HRR.out]
  have hB4 := chain hB3 hb4
  have hR4 := hR3.later hb4
  have hsz4 : w.heap.size ≤ w4.heap.size := hB4.size
  have hg34 : g3 < w4.heap.size := lt_of_row hR4
  have P0 := Q0.out w4 hB4
  clear hb4 hb3 FP Q0
  have k0 : w4.cell? ⟨g, 0, none⟩ = some (.int .i64 room) := (cell_of_row w4 g 0 _ _ _ P0).trans rfl
  have k1 : w4.cell? ⟨g, 1, none⟩ = some (.slice (some ⟨g', 0, none⟩) R.length uc) := (cell_of_row w4 g 1 _ _ _ P0).trans rfl
  have k2 : w4.cell? ⟨g, 2, none⟩ = some (.int .i64 f) := (cell_of_row w4 g 2 _ _ _ P0).trans rfl
  have hg4 : g < w4.heap.size := by omega
  have hcur4 := (hB4.block g' hgl').trans HR2.out
  have hne : g' ≠ g := by omega
  go_wp2_with fail
  refine wp_region_F' (B := w4.heap.size) (n := 10) (l := #[false, false, false, false, false, false, false, false, false, false]) (by kernel_rfl) (by kernel_rfl) (by kernel_rfl) ?_
  refine wpAnyF_take (i := 0) (v := ?vp_e_0_1) (some 18) rfl rfl (by kernel_rfl) (by kernel_rfl) (by kernel_rfl) (fun _ _ _ h => h) (by rfl) ?hvp_e_0_1 ?restp_e_0_1
  case hvp_e_0_1 => (intro w' hb; go_simp; try with_reducible rfl)
  simp only [Act.put, List.setIfInBounds_toArray, List.set_cons_zero, List.set_cons_succ]
  refine wpAnyF_take (i := 1) (v := ?vp_e_1_2) (some 19) rfl rfl (by kernel_rfl) (by kernel_rfl) (by kernel_rfl) (fun _ _ _ h => h) (by rfl) ?hvp_e_1_2 ?restp_e_1_2
  case hvp_e_1_2 => (intro w' hb; go_simp; try with_reducible rfl)
  simp only [Act.put, List.setIfInBounds_toArray, List.set_cons_zero, List.set_cons_succ]
  refine wpAnyF_take (i := 2) (v := ?vp_e_2_3) (some 20) rfl rfl (by kernel_rfl) (by kernel_rfl) (by kernel_rfl) (fun _ _ _ h => h) (by rfl) ?hvp_e_2_3 ?restp_e_2_3
  case hvp_e_2_3 => (intro w' hb; go_simp; try with_reducible rfl)
  simp only [Act.put, List.setIfInBounds_toArray, List.set_cons_zero, List.set_cons_succ]
  refine wpAnyF_take (i := 3) (v := ?vp_e_3_4) (some 21) rfl rfl (by kernel_rfl) (by kernel_rfl) (by kernel_rfl) (fun _ _ _ h => h) (by rfl) ?hvp_e_3_4 ?restp_e_3_4
  case hvp_e_3_4 => (intro w' hb; (have hcw := (hb.cell (p := ⟨g, 1, none⟩) hg4).trans k1; go_simp; try with_reducible rfl))
  simp only [Act.put, List.setIfInBounds_toArray, List.set_cons_zero, List.set_cons_succ]
  refine wpAnyF_take (i := 4) (v := ?vp_e_4_5) (some 22) rfl rfl (by kernel_rfl) (by kernel_rfl) (by kernel_rfl) (fun _ _ _ h => h) (by rfl) ?hvp_e_4_5 ?restp_e_4_5
  case hvp_e_4_5 => (intro w' hb; go_simp; try with_reducible rfl)
  simp only [Act.put, List.setIfInBounds_toArray, List.set_cons_zero, List.set_cons_succ]
  refine wpAnyF_take (i := 5) (v := ?vp_e_5_6) (some 23) rfl rfl (by kernel_rfl) (by kernel_rfl) (by kernel_rfl) (fun _ _ _ h => h) (by rfl) ?hvp_e_5_6 ?restp_e_5_6
  case hvp_e_5_6 => (intro w' hb; go_simp; try with_reducible rfl)
  simp only [Act.put, List.setIfInBounds_toArray, List.set_cons_zero, List.set_cons_succ]
  refine wpAnyF_take (i := 6) (v := ?vp_e_6_7) (some 24) rfl rfl (by kernel_rfl) (by kernel_rfl) (by kernel_rfl) (fun _ _ _ h => h) (by rfl) ?hvp_e_6_7 ?restp_e_6_7
  case hvp_e_6_7 => (intro w' hb; go_simp; try with_reducible rfl)
  simp only [Act.put, List.setIfInBounds_toArray, List.set_cons_zero, List.set_cons_succ]
  refine wpAnyF_take (i := 7) (v := ?vp_e_7_8) (some 25) rfl rfl (by kernel_rfl) (by kernel_rfl) (by kernel_rfl) (fun _ _ _ h => h) (by rfl) ?hvp_e_7_8 ?restp_e_7_8
  case hvp_e_7_8 => (intro w' hb; go_simp; try with_reducible rfl)
  simp only [Act.put, List.setIfInBounds_toArray, List.set_cons_zero, List.set_cons_succ]
  refine wpAnyF_take (i := 8) (v := ?vp_e_8_9) (some 26) rfl rfl (by kernel_rfl) (by kernel_rfl) (by kernel_rfl) (fun _ _ _ h => h) (by rfl) ?hvp_e_8_9 ?restp_e_8_9
  case hvp_e_8_9 => (intro w' hb; (have hcw := (hb.cell (p := ⟨g, 0, none⟩) hg4).trans k0; go_simp; try with_reducible rfl))
  simp only [Act.put, List.setIfInBounds_toArray, List.set_cons_zero, List.set_cons_succ]
  refine wpAnyF_take (i := 9) (v := ?vp_e_9_10) (some 27) rfl rfl (by kernel_rfl) (by kernel_rfl) (by kernel_rfl) (fun _ _ _ h => h) (by rfl) ?hvp_e_9_10 ?restp_e_9_10
  case hvp_e_9_10 => (intro w' hb; go_simp; try with_reducible rfl)
  simp only [Act.put, List.setIfInBounds_toArray, List.set_cons_zero, List.set_cons_succ]
  refine wpAnyF_done (by kernel_rfl) ?_ _
  go_wp2_with fail
  refine wp_region_L' (z := 10) (B := w4.heap.size) (n := 11) (l := #[false, false, false, false, false, false, false, false, false, false, false]) (by kernel_rfl) (by kernel_rfl) (by kernel_rfl) ?_
  refine wpAnyL_take (i := 0) (v := ?vq_f_0_1) (some 38) rfl rfl (by kernel_rfl) (by kernel_rfl) (by kernel_rfl) (fun _ _ _ h => h) (by rfl) [1, 2, 3, 9, 10] (by kernel_rfl) ?hvq_f_0_1 ?restq_f_0_1
  case hvq_f_0_1 => (intro w' hb; go_simp; try with_reducible rfl)
  simp only [Act.put, List.setIfInBounds_toArray, List.set_cons_zero, List.set_cons_succ]
  refine wpAnyL_take (i := 1) (v := ?vq_f_1_2) (some 39) rfl rfl (by kernel_rfl) (by kernel_rfl) (by kernel_rfl) (fun _ _ _ h => h) (by rfl) [2, 3, 9, 10] (by kernel_rfl) ?hvq_f_1_2 ?restq_f_1_2
  case hvq_f_1_2 => (intro w' hb; go_simp; try with_reducible rfl)
  simp only [Act.put, List.setIfInBounds_toArray, List.set_cons_zero, List.set_cons_succ]
  refine wpAnyL_take (i := 2) (v := ?vq_f_2_3) (some 40) rfl rfl (by kernel_rfl) (by kernel_rfl) (by kernel_rfl) (fun _ _ _ h => h) (by rfl) [3, 9, 10] (by kernel_rfl) ?hvq_f_2_3 ?restq_f_2_3
  case hvq_f_2_3 => (intro w' hb; go_simp; try with_reducible rfl)
  simp only [Act.put, List.setIfInBounds_toArray, List.set_cons_zero, List.set_cons_succ]
  refine wpAnyL_take (i := 3) (v := ?vq_f_3_4) (some 41) rfl rfl (by kernel_rfl) (by kernel_rfl) (by kernel_rfl) (fun _ _ _ h => h) (by rfl) [9, 10] (by kernel_rfl) ?hvq_f_3_4 ?restq_f_3_4
  case hvq_f_3_4 => (intro w' hb; (have hcw := (hb.cell (p := ⟨g, 1, none⟩) hg4).trans k1; go_simp; try with_reducible rfl))
  simp only [Act.put, List.setIfInBounds_toArray, List.set_cons_zero, List.set_cons_succ]
  refine wpAnyL_take (i := 4) (v := ?vq_f_4_5) (some 42) rfl rfl (by kernel_rfl) (by kernel_rfl) (by kernel_rfl) (fun _ _ _ h => h) (by rfl) [5, 6, 7, 9, 10] (by kernel_rfl) ?hvq_f_4_5 ?restq_f_4_5
  case hvq_f_4_5 => (intro w' hb; go_simp; try with_reducible rfl)
  simp only [Act.put, List.setIfInBounds_toArray, List.set_cons_zero, List.set_cons_succ]
  refine wpAnyL_take (i := 5) (v := ?vq_f_5_6) (some 43) rfl rfl (by kernel_rfl) (by kernel_rfl) (by kernel_rfl) (fun _ _ _ h => h) (by rfl) [6, 7, 9, 10] (by kernel_rfl) ?hvq_f_5_6 ?restq_f_5_6
  case hvq_f_5_6 => (intro w' hb; go_simp; try with_reducible rfl)
  simp only [Act.put, List.setIfInBounds_toArray, List.set_cons_zero, List.set_cons_succ]
  refine wpAnyL_take (i := 6) (v := ?vq_f_6_7) (some 44) rfl rfl (by kernel_rfl) (by kernel_rfl) (by kernel_rfl) (fun _ _ _ h => h) (by rfl) [7, 9, 10] (by kernel_rfl) ?hvq_f_6_7 ?restq_f_6_7
  case hvq_f_6_7 => (intro w' hb; go_simp; try with_reducible rfl)
  simp only [Act.put, List.setIfInBounds_toArray, List.set_cons_zero, List.set_cons_succ]
  refine wpAnyL_take (i := 7) (v := ?vq_f_7_8) (some 45) rfl rfl (by kernel_rfl) (by kernel_rfl) (by kernel_rfl) (fun _ _ _ h => h) (by rfl) [9, 10] (by kernel_rfl) ?hvq_f_7_8 ?restq_f_7_8
  case hvq_f_7_8 => (intro w' hb; (have hcw := (hb.cell (p := ⟨g, 2, none⟩) hg4).trans k2; go_simp; try with_reducible rfl))
  simp only [Act.put, List.setIfInBounds_toArray, List.set_cons_zero, List.set_cons_succ]
  refine wpAnyL_alone (i := 8) rfl (by kernel_rfl) (by rfl) (fun K hK => ?_)
  refine wp_load_row 50 (.tmp 3) rfl g3 rfl _ _ _ _ hR4 Tryd.underlying50 rfl (by rw [rcells_size _ HZ.out]; kernel_rfl) ?_
  simp only [List.getElem_toArray, List.getElem_cons_succ, List.getElem_cons_zero, Act.put, List.setIfInBounds_toArray, List.set_cons_zero, List.set_cons_succ]
  refine hK.out _ _ (fun _ => (Below.refl _ _)) ?_
  clear hK K
  simp only [List.setIfInBounds_toArray, List.set_cons_zero, List.set_cons_succ]
  refine wpAnyL_take (i := 9) (v := ?vq_f_9_9) (some 47) rfl rfl (by kernel_rfl) (by kernel_rfl) (by kernel_rfl) (fun _ _ _ h => h) (by rfl) [10] (by kernel_rfl) ?hvq_f_9_9 ?restq_f_9_9
  case hvq_f_9_9 => (intro w' hb; go_simp; try with_reducible rfl)
  simp only [Act.put, List.setIfInBounds_toArray, List.set_cons_zero, List.set_cons_succ]
  refine wpAnyL_alone (i := 10) rfl (by kernel_rfl) (by rfl) (fun K hK => ?_)
  refine wp_store_in (.tmp 47) (.tmp 46) rfl g' (f * 11) _ cur Z HZ.out rfl rfl hcur4 HFIT.out ?_
  refine hK.out _ _ (fun h => absurd rfl h) ?_
  clear hK K
  simp only [List.setIfInBounds_toArray, List.set_cons_zero, List.set_cons_succ]
  refine wpAnyL_done (by kernel_rfl) ?_ _
  try simp only [← List.append_assoc]
  have hrow5 := HR5.out w4.drew.drew hcur4
  have P5 : (w4.drew.drew.setRow g' (cur.toList.take (f * 11) ++ (rcells Z).toList ++ cur.toList.drop (f * 11 + 11)).toArray).heap[g]? = some (.cells #[.int .i64 room, .slice (some ⟨g', 0, none⟩) R.length uc, .int .i64 f] 117 (0, 0)) := (setRow_other _ _ _ _ hne.symm).trans P0
  have hK5 := (((Kept.of_below (g := g) (r := some g') hB4).drew).drew).setRow (j := g') rfl (cur.toList.take (f * 11) ++ (rcells Z).toList ++ cur.toList.drop (f * 11 + 11)).toArray
  have hs5 : M ≤ (w4.drew.drew.setRow g' (cur.toList.take (f * 11) ++ (rcells Z).toList ++ cur.toList.drop (f * 11 + 11)).toArray).heap.size := by simp; omega
  generalize w4.drew.drew.setRow g' (cur.toList.take (f * 11) ++ (rcells Z).toList ++ cur.toList.drop (f * 11 + 11)).toArray = w5 at *
  have k0' : w5.cell? ⟨g, 0, none⟩ = some (.int .i64 room) := (cell_of_row w5 g 0 _ _ _ P5).trans rfl
  have k2' : w5.cell? ⟨g, 2, none⟩ = some (.int .i64 f) := (cell_of_row w5 g 2 _ _ _ P5).trans rfl
  have hg5 : g < w5.heap.size := by omega
  have HR55 := hid hrow5
  clear k0 k1 k2 hB4 hR4 hsz4 hg34 P0 hg4 hcur4 HR5 HR2 hrow5 hB3 hR3 hl3
  go_wp2_with fail
  refine wp_region_L' (z := 13) (B := w5.heap.size) (n := 14) (l := #[false, false, false, false, false, false, false, false, false, false, false, false, false, false]) (by kernel_rfl) (by kernel_rfl) (by kernel_rfl) ?_
  refine wpAnyL_take (i := 0) (v := ?vo_d_0_1) (some 48) rfl rfl (by kernel_rfl) (by kernel_rfl) (by kernel_rfl) (fun _ _ _ h => h) (by rfl) [11, 12, 13] (by kernel_rfl) ?hvo_d_0_1 ?resto_d_0_1
  case hvo_d_0_1 => (intro w' hb; go_simp; try with_reducible rfl)
  simp only [Act.put, List.setIfInBounds_toArray, List.set_cons_zero, List.set_cons_succ]
  refine wpAnyL_take (i := 1) (v := ?vo_d_1_2) (some 49) rfl rfl (by kernel_rfl) (by kernel_rfl) (by kernel_rfl) (fun _ _ _ h => h) (by rfl) [2, 3, 4, 5, 10, 11, 12, 13] (by kernel_rfl) ?hvo_d_1_2 ?resto_d_1_2
  case hvo_d_1_2 => (intro w' hb; go_simp; try with_reducible rfl)
  simp only [Act.put, List.setIfInBounds_toArray, List.set_cons_zero, List.set_cons_succ]
  refine wpAnyL_take (i := 2) (v := ?vo_d_2_3) (some 50) rfl rfl (by kernel_rfl) (by kernel_rfl) (by kernel_rfl) (fun _ _ _ h => h) (by rfl) [3, 4, 5, 10, 11, 12, 13] (by kernel_rfl) ?hvo_d_2_3 ?resto_d_2_3
  case hvo_d_2_3 => (intro w' hb; go_simp; try with_reducible rfl)
  simp only [Act.put, List.setIfInBounds_toArray, List.set_cons_zero, List.set_cons_succ]
  refine wpAnyL_take (i := 3) (v := ?vo_d_3_4) (some 51) rfl rfl (by kernel_rfl) (by kernel_rfl) (by kernel_rfl) (fun _ _ _ h => h) (by rfl) [4, 5, 10, 11, 12, 13] (by kernel_rfl) ?hvo_d_3_4 ?resto_d_3_4
  case hvo_d_3_4 => (intro w' hb; go_simp; try with_reducible rfl)
  simp only [Act.put, List.setIfInBounds_toArray, List.set_cons_zero, List.set_cons_succ]
  refine wpAnyL_take (i := 4) (v := ?vo_d_4_5) (some 52) rfl rfl (by kernel_rfl) (by kernel_rfl) (by kernel_rfl) (fun _ _ _ h => h) (by rfl) [5, 10, 11, 12, 13] (by kernel_rfl) ?hvo_d_4_5 ?resto_d_4_5
  case hvo_d_4_5 => (intro w' hb; (have hcw := (hb.cell (p := ⟨g, 2, none⟩) hg5).trans k2'; go_simp; try with_reducible rfl))
  simp only [Act.put, List.setIfInBounds_toArray, List.set_cons_zero, List.set_cons_succ]
  refine wpAnyL_take (i := 5) (v := ?vo_d_5_6) (some 53) rfl rfl (by kernel_rfl) (by kernel_rfl) (by kernel_rfl) (fun _ _ _ h => h) (by rfl) [10, 11, 12, 13] (by kernel_rfl) ?hvo_d_5_6 ?resto_d_5_6
  case hvo_d_5_6 => (intro w' hb; go_simp; try with_reducible rfl)
  simp only [Act.put, List.setIfInBounds_toArray, List.set_cons_zero, List.set_cons_succ]
  refine wpAnyL_take (i := 6) (v := ?vo_d_6_7) (some 54) rfl rfl (by kernel_rfl) (by kernel_rfl) (by kernel_rfl) (fun _ _ _ h => h) (by rfl) [7, 8, 9, 10, 11, 12, 13] (by kernel_rfl) ?hvo_d_6_7 ?resto_d_6_7
  case hvo_d_6_7 => (intro w' hb; go_simp; try with_reducible rfl)
  simp only [Act.put, List.setIfInBounds_toArray, List.set_cons_zero, List.set_cons_succ]
  refine wpAnyL_take (i := 7) (v := ?vo_d_7_8) (some 55) rfl rfl (by kernel_rfl) (by kernel_rfl) (by kernel_rfl) (fun _ _ _ h => h) (by rfl) [8, 9, 10, 11, 12, 13] (by kernel_rfl) ?hvo_d_7_8 ?resto_d_7_8
  case hvo_d_7_8 => (intro w' hb; go_simp; try with_reducible rfl)
  simp only [Act.put, List.setIfInBounds_toArray, List.set_cons_zero, List.set_cons_succ]
  refine wpAnyL_take (i := 8) (v := ?vo_d_8_9) (some 56) rfl rfl (by kernel_rfl) (by kernel_rfl) (by kernel_rfl) (fun _ _ _ h => h) (by rfl) [9, 10, 11, 12, 13] (by kernel_rfl) ?hvo_d_8_9 ?resto_d_8_9
  case hvo_d_8_9 => (intro w' hb; go_simp; try with_reducible rfl)
  simp only [Act.put, List.setIfInBounds_toArray, List.set_cons_zero, List.set_cons_succ]
  refine wpAnyL_take (i := 9) (v := ?vo_d_9_10) (some 57) rfl rfl (by kernel_rfl) (by kernel_rfl) (by kernel_rfl) (fun _ _ _ h => h) (by rfl) [10, 11, 12, 13] (by kernel_rfl) ?hvo_d_9_10 ?resto_d_9_10
  case hvo_d_9_10 => (intro w' hb; (have hcw := (hb.cell (p := ⟨g, 0, none⟩) hg5).trans k0'; go_simp; try with_reducible rfl))
  simp only [Act.put, List.setIfInBounds_toArray, List.set_cons_zero, List.set_cons_succ]
  refine wpAnyL_take (i := 10) (v := ?vo_d_10_11) (some 58) rfl rfl (by kernel_rfl) (by kernel_rfl) (by kernel_rfl) (fun _ _ _ h => h) (by rfl) [11, 12, 13] (by kernel_rfl) ?hvo_d_10_11 ?resto_d_10_11
  case hvo_d_10_11 => (intro w' hb; go_simp; rw [if_neg HR0.out, HTM.out])
  simp only [Act.put, List.setIfInBounds_toArray, List.set_cons_zero, List.set_cons_succ]
  refine wpAnyL_take (i := 11) (v := ?vo_d_11_12) (some 59) rfl rfl (by kernel_rfl) (by kernel_rfl) (by kernel_rfl) (fun _ _ _ h => h) (by rfl) [12, 13] (by kernel_rfl) ?hvo_d_11_12 ?resto_d_11_12
  case hvo_d_11_12 => (intro w' hb; go_simp; try with_reducible rfl)
  simp only [Act.put, List.setIfInBounds_toArray, List.set_cons_zero, List.set_cons_succ]
  refine wpAnyL_take (i := 12) (v := ?vo_d_12_13) (some 60) rfl rfl (by kernel_rfl) (by kernel_rfl) (by kernel_rfl) (fun _ _ _ h => h) (by rfl) [13] (by kernel_rfl) ?hvo_d_12_13 ?resto_d_12_13
  case hvo_d_12_13 => (intro w' hb; go_simp; try with_reducible rfl)
  simp only [Act.put, List.setIfInBounds_toArray, List.set_cons_zero, List.set_cons_succ]
  refine wpAnyL_alone (i := 13) rfl (by kernel_rfl) (by rfl) (fun K hK => ?_)
  have fw5 := frozen_of_row w5 g 2 _ _ P5
  go_simp
  refine hK.out _ _ (fun h => absurd rfl h) ?_
  clear hK K
  simp only [List.setIfInBounds_toArray, List.set_cons_zero, List.set_cons_succ]
  refine wpAnyL_done (by kernel_rfl) ?_ _
  go_wp2
  go_ret
  refine ⟨rfl, .slice (some ⟨g', 0, none⟩) R.length uc, R.set f Z, fn, ⟨?_, ?_, q2, by simpa using hs5, ?_, HLG.out.1, HLG.out.2.1, by rw [List.length_set, HEQ.out]; exact Nat.le_refl _, (fun h => by rw [List.length_set, HEQ.out] at h; omega), HFN.out⟩, HOV.out, (hK5.set 2 _).drew, .inl rfl⟩
  · show (w5.setCell ⟨g, 2, none⟩ (.int .i64 (fn : Int))).heap[g]? = _
    simp [World.setCell, Array.getElem?_modify, P5]
  · exact own_set_other' (off := 2) HR55.out (row_not' HR55.out P5 (by decide))
  · intro Y hY
    rcases List.mem_or_eq_of_mem_set hY with h | rfl
    · exact HLG.out.2.2 Y h
    · exact ⟨HRW.out, HRR.out⟩
end Go.Proofs.YtecbfegohdllbaaDoor
