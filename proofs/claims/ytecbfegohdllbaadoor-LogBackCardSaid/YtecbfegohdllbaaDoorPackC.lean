/- Texts of this proof, merged: Log8 Log9 Down Log10 Log11 Log12 Log13 Log14 Log15. -/
import Derived.Test.YtecbfegohdllbaaDoorLog7
import Derived.Test.YtecbfegohdllbaaDoorPackA
section
/- Layer 47 (log): the document's Add: contracts. -/
namespace Go.Proofs.YtecbfegohdllbaaDoor
open Go.RowKit
set_option linter.unusedVariables false
set_option linter.unusedSimpArgs false
theorem rright_yes (Z : List Int) (hZ : RepWf Z) (hR : RightL Z) (w : World) : Calls Tryd.prog 56 #[.agg (rcells Z)] w fun e w' => e = .returned (.bool true) ∧ Below w.heap.size w w' := by
  obtain ⟨f, s, u, g, q0, q1, q2, q3, x0, x1, x2, rfl⟩ := eleven_list Z hZ.1
  have B := hZ.bd
  refine (rright_any f s u g q0 q1 q2 q3 x0 x1 x2 w B.x0 B.x1 B.x2).mono ?_
  rintro e w' ⟨b, rfl, hb, h⟩
  have : b = true := hb.2 hR
  subst this
  exact ⟨rfl, h⟩
theorem rright_no (Z : List Int) (hZ : RepWf Z) (hR : ¬ RightL Z) (w : World) : Calls Tryd.prog 56 #[.agg (rcells Z)] w fun e w' => e = .returned (.bool false) ∧ Below w.heap.size w w' := by
  obtain ⟨f, s, u, g, q0, q1, q2, q3, x0, x1, x2, rfl⟩ := eleven_list Z hZ.1
  have B := hZ.bd
  refine (rright_any f s u g q0 q1 q2 q3 x0 x1 x2 w B.x0 B.x1 B.x2).mono ?_
  rintro e w' ⟨b, rfl, hb, h⟩
  cases b with
  | true => exact absurd (hb.1 rfl) hR
  | false => exact ⟨rfl, h⟩
/-- the document's log: its room, its list (a row of its own, base M) -/
def RG (M gy room : Nat) (u : Value) (L : List (List Int)) (W : World) : Prop :=
  W.heap[gy]? = some (.cells #[.int .i64 room, u] 73 (0, 0)) ∧ Rows' M W u L ∧ gy < M ∧ M ≤ W.heap.size ∧ (∀ Z ∈ L, RepWf Z ∧ RightL Z) ∧ 1 ≤ room ∧ room ≤ 1000 ∧ L.length ≤ room
theorem RG.below {M gy room : Nat} {u : Value} {L : List (List Int)} {A B : World} (h : RG M gy room u L A) (hb : Below A.heap.size A B) : RG M gy room u L B := by
  obtain ⟨h1, h2, h3, h4, h5⟩ := h
  exact ⟨(hb.block gy (lt_of_row h1)).trans h1, ownsRow_below h2 hb, h3, Nat.le_trans h4 hb.size, h5⟩
theorem part_one {W : World} {g c : Nat} {Z : List Int} (h : RB g Z W) : Part W (.slice (some ⟨g, 0, none⟩) 1 c) [Z] :=
  .inr ⟨_, c, rfl, fun i Z' hi j x hj => by
    rcases i with _ | i
    · obtain rfl := Option.some.inj hi
      rw [add_plain, Nat.mul_zero, Nat.zero_add, Nat.zero_add]
      exact (cell_of_row W g j _ _ _ h).trans (by rw [← hj, Array.getElem?_toList])
    · simp at hi⟩
theorem part_rows {W : World} {base : Nat} {u : Value} {L : List (List Int)} (h : Rows' base W u L) (hl : ∀ Z ∈ L, Z.length = 11) : Part W u L := by
  have hr := rrow_of_rows h hl
  rcases h.2 with ⟨rfl, h0⟩ | ⟨g, c, cur, rfl, -, -, hc, -, -, -⟩
  · exact .inl ⟨rfl, List.eq_nil_of_length_eq_zero h0⟩
  · refine .inr ⟨⟨g, 0, none⟩, c, rfl, fun i Z hi j x hj => ?_⟩
    rw [add_plain]
    exact rrow_cells hr hi j x hj _ (by omega)
theorem part_none {W : World} {b : Addr} {c : Nat} : Part W (.slice (some b) 0 c) [] := .inr ⟨b, c, rfl, fun i Z hi => by simp at hi⟩
set_option maxRecDepth 100000 in
set_option maxHeartbeats 1000000 in
theorem rladd_wrong (gy : Nat) (Z : List Int) (w : World) (hZ : RepWf Z) (hR : ¬ RightL Z) :
    Calls Tryd.prog 52 #[.pointer (some ⟨gy, 0, none⟩), .agg (rcells Z)] w fun e w' => e = .returned (.int .i64 6) ∧ Below w.heap.size w w' := by
  have HZ := hid hZ.1
  have RI := hid (fun W => rright_no Z hZ hR W)
  clear hZ hR
  go_enter Tryd.func52, Tryd.ntmps52
  go_wp2_with (first | ((with_reducible refine at_op (.box 50 (.tmp 1)) ?_); refine wpR_box rfl (.tmp 1) rfl Z rfl ?_; intro g3 w3 hg3 hR3 hb3; have hl3 : w.heap.size ≤ g3 := Nat.le_of_eq hg3.symm; clear hg3) | ((with_reducible refine at_op (.load 50 (.tmp 3)) ?_); refine wpR_get rfl (.tmp 3) rfl g3 rfl Z HZ.out hR3 ?_))
  refine (RI.out _).mono ?_
  rintro e w4 ⟨rfl, hb4⟩
  have hB4 := chain hb3 hb4
  go_wp2
  go_ret
  exact ⟨rfl, hB4⟩
set_option maxRecDepth 100000 in
set_option maxHeartbeats 1000000 in
theorem rladd_more {M gy room : Nat} {u : Value} {L : List (List Int)} (Z : List Int) (w : World) (h : RG M gy room u L w) (hZ : RepWf Z) (hR : RightL Z) (hc : L.length < room) :
    Calls Tryd.prog 52 #[.pointer (some ⟨gy, 0, none⟩), .agg (rcells Z)] w fun e w' => e = .returned (.int .i64 0) ∧ ∃ u', RG M gy room u' (addL room L Z) w' ∧ Turn gy w w' ∧ (∃ j, u'.ownBlock = some j ∧ w.heap.size ≤ j) := by
  obtain ⟨q0, q1, q3, q4, q5, q6, q7, q8⟩ := h
  have HZ := hid hZ.1
  have HRW := hid hZ
  have HRR := hid hR
  have RI := hid (fun W => rright_yes Z hZ hR W)
  have hl11 : ∀ Z ∈ L, Z.length = 11 := fun Z hZ => (q5 Z hZ).1.1
  obtain ⟨ua, uc, rfl⟩ := own_slice q1
  have hgl := lt_of_row q0
  have Q0 := hid (fun W (hW : Below w.heap.size w W) => (hW.block gy hgl).trans q0)
  have HQ1 := hid (fun W (hW : Below w.heap.size w W) => (ownsRow_below q1 hW : Rows' M W _ L))
  have HLG := hid (show 1 ≤ room ∧ room ≤ 1000 ∧ (∀ Z ∈ L, RepWf Z ∧ RightL Z) from ⟨q6, q7, q5⟩)
  have HLN := hid (show L.length ≤ 1000 by omega)
  have HL11 := hid hl11
  have HMW := hid q4
  have HAL := hid hc
  have PA := hid (fun W (hW : Below w.heap.size w W) => (part_rows (HQ1.out W hW) hl11 : Part W (.slice ua L.length uc) L))
  have HNX := hid (show L.length ≤ 1000 by omega)
  have HLR := hid (show L.length + 1 ≤ room by omega)
  have hne : ¬ (L.length : Int) = room := by omega
  have HADD := hid (addL_more (room := room) (L := L) (Z := Z) (by omega))
  clear q0 q1 q4 q5 q6 q7 q8 hZ hR hc hl11
  go_enter Tryd.func52, Tryd.ntmps52
  go_wp2_with (first | ((with_reducible refine at_op (.box 50 (.tmp 1)) ?_); refine wpR_box rfl (.tmp 1) rfl Z rfl ?_; intro g3 w3 hg3 hR3 hb3; have hl3 : w.heap.size ≤ g3 := Nat.le_of_eq hg3.symm; clear hg3) | ((with_reducible refine at_op (.load 50 (.tmp 3)) ?_); refine wpR_get rfl (.tmp 3) rfl g3 rfl Z HZ.out hR3 ?_))
  refine (RI.out _).mono ?_
  rintro e w4 ⟨rfl, hb4⟩
  have hB4 := chain hb3 hb4
  have hR4 := hR3.later hb4
  have hsz4 : w.heap.size ≤ w4.heap.size := hB4.size
  have P0 := Q0.out w4 hB4
  have k0 : w4.cell? ⟨gy, 0, none⟩ = some (.int .i64 room) := (cell_of_row w4 gy 0 _ _ _ P0).trans rfl
  have k1 : w4.cell? ⟨gy, 1, none⟩ = some (.slice ua L.length uc) := (cell_of_row w4 gy 1 _ _ _ P0).trans rfl
  have hg4 : gy < w4.heap.size := by omega
  clear hb4 hb3 Q0
  go_wp2_with fail
  refine wp_region_F' (B := w4.heap.size) (n := 10) (l := #[false, false, false, false, false, false, false, false, false, false]) (by kernel_rfl) (by kernel_rfl) (by kernel_rfl) ?_
  refine wpAnyF_take (i := 0) (v := ?vp_0_1) (some 9) rfl rfl (by kernel_rfl) (by kernel_rfl) (by kernel_rfl) (fun _ _ _ h => h) (by rfl) ?hvp_0_1 ?restp_0_1
  case hvp_0_1 => (intro w' hb; go_simp; try with_reducible rfl)
  simp only [Act.put, List.setIfInBounds_toArray, List.set_cons_zero, List.set_cons_succ]
  refine wpAnyF_take (i := 1) (v := ?vp_1_2) (some 10) rfl rfl (by kernel_rfl) (by kernel_rfl) (by kernel_rfl) (fun _ _ _ h => h) (by rfl) ?hvp_1_2 ?restp_1_2
  case hvp_1_2 => (intro w' hb; go_simp; try with_reducible rfl)
  simp only [Act.put, List.setIfInBounds_toArray, List.set_cons_zero, List.set_cons_succ]
  refine wpAnyF_take (i := 2) (v := ?vp_2_3) (some 11) rfl rfl (by kernel_rfl) (by kernel_rfl) (by kernel_rfl) (fun _ _ _ h => h) (by rfl) ?hvp_2_3 ?restp_2_3
  case hvp_2_3 => (intro w' hb; go_simp; try with_reducible rfl)
  simp only [Act.put, List.setIfInBounds_toArray, List.set_cons_zero, List.set_cons_succ]
  refine wpAnyF_take (i := 3) (v := ?vp_3_4) (some 12) rfl rfl (by kernel_rfl) (by kernel_rfl) (by kernel_rfl) (fun _ _ _ h => h) (by rfl) ?hvp_3_4 ?restp_3_4
  case hvp_3_4 => (intro w' hb; (have hcw := (hb.cell (p := ⟨gy, 1, none⟩) hg4).trans k1; go_simp; try with_reducible rfl))
  simp only [Act.put, List.setIfInBounds_toArray, List.set_cons_zero, List.set_cons_succ]
  refine wpAnyF_take (i := 4) (v := ?vp_4_5) (some 13) rfl rfl (by kernel_rfl) (by kernel_rfl) (by kernel_rfl) (fun _ _ _ h => h) (by rfl) ?hvp_4_5 ?restp_4_5
  case hvp_4_5 => (intro w' hb; go_simp; try with_reducible rfl)
  simp only [Act.put, List.setIfInBounds_toArray, List.set_cons_zero, List.set_cons_succ]
  refine wpAnyF_take (i := 5) (v := ?vp_5_6) (some 14) rfl rfl (by kernel_rfl) (by kernel_rfl) (by kernel_rfl) (fun _ _ _ h => h) (by rfl) ?hvp_5_6 ?restp_5_6
  case hvp_5_6 => (intro w' hb; go_simp; try with_reducible rfl)
  simp only [Act.put, List.setIfInBounds_toArray, List.set_cons_zero, List.set_cons_succ]
  refine wpAnyF_take (i := 6) (v := ?vp_6_7) (some 15) rfl rfl (by kernel_rfl) (by kernel_rfl) (by kernel_rfl) (fun _ _ _ h => h) (by rfl) ?hvp_6_7 ?restp_6_7
  case hvp_6_7 => (intro w' hb; go_simp; try with_reducible rfl)
  simp only [Act.put, List.setIfInBounds_toArray, List.set_cons_zero, List.set_cons_succ]
  refine wpAnyF_take (i := 7) (v := ?vp_7_8) (some 16) rfl rfl (by kernel_rfl) (by kernel_rfl) (by kernel_rfl) (fun _ _ _ h => h) (by rfl) ?hvp_7_8 ?restp_7_8
  case hvp_7_8 => (intro w' hb; go_simp; try with_reducible rfl)
  simp only [Act.put, List.setIfInBounds_toArray, List.set_cons_zero, List.set_cons_succ]
  refine wpAnyF_take (i := 8) (v := ?vp_8_9) (some 17) rfl rfl (by kernel_rfl) (by kernel_rfl) (by kernel_rfl) (fun _ _ _ h => h) (by rfl) ?hvp_8_9 ?restp_8_9
  case hvp_8_9 => (intro w' hb; (have hcw := (hb.cell (p := ⟨gy, 0, none⟩) hg4).trans k0; go_simp; try with_reducible rfl))
  simp only [Act.put, List.setIfInBounds_toArray, List.set_cons_zero, List.set_cons_succ]
  refine wpAnyF_take (i := 9) (v := ?vp_9_10) (some 18) rfl rfl (by kernel_rfl) (by kernel_rfl) (by kernel_rfl) (fun _ _ _ h => h) (by rfl) ?hvp_9_10 ?restp_9_10
  case hvp_9_10 => (intro w' hb; go_simp; try with_reducible rfl)
  simp only [Act.put, List.setIfInBounds_toArray, List.set_cons_zero, List.set_cons_succ]
  refine wpAnyF_done (by kernel_rfl) ?_ _
  go_wp2_with (first | ((with_reducible refine at_op (.load 50 (.tmp 3)) ?_); refine wpR_get rfl (.tmp 3) rfl g3 rfl Z HZ.out hR7 ?_) | ((with_reducible refine at_op (.buildSlice 60 1 #[(0, .tmp 34)]) ?_); refine wpList_plain rfl (fun K hK => ?_); refine wp_slice1_rep (.tmp 34) rfl Z HZ.out rfl ?_; intro g8 w8 hg8 hR8 hb8; clear hg8; refine hK _ _ ?_; (have HO8 := hid (ownsRow_below HO7.out hb8)); (have hB8 := chain HB7.out hb8); (have P8 := (hb8.block gy (lt_of_row P7)).trans P7); (have HPO := hid (part_one (c := 1) hR8)); (have HB8 := hid hB8); (have HS8 := hid (show M ≤ w8.heap.size by have := hB8.size; have := HMW.out; omega)); (have HW8 := hid hB8.size); (clear hB8 hR8 hR7 HO7)) | ((with_reducible refine at_op (.call { callee := .builtin .append, args := #[.tmp 26, .tmp 30], argTypes := #[60, 60] }) ?_); refine wpList_append_part rfl (.tmp 26) (.tmp 30) rfl w.heap.size (.slice none 0 0) _ [] L rfl (World.ownsRow_nil _ _ _ _) rfl (PA.out _ (hB4.drew)) HL11.out ?_ ?_ ?_; (have := HLN.out; simp; try omega); (simpa using hsz4); intro v7 w7 hown7 hg7 hl7; (have hB7 := hB4.drew.grown hg7 (by simpa using hsz4) (fun k e => by cases e)); (have hgr7 : Below w4.heap.size w4.drew w7 := (Below.refl _ w4.drew).grown hg7 (Nat.le_refl _) (fun k e => by cases e)); (have hbl7 : ∀ j, v7.ownBlock = some j → w.heap.size ≤ j := fun j e => (hown7.lt j e).1); (have hR7 := hR4.later (Below.drewl hgr7)); (have P7 := ((Below.drewl hgr7).block gy hg4).trans P0); (have HO7 := hid hown7); (have HB7 := hid hB7); (have HS7 := hid (show M ≤ w7.heap.size by have := hB7.size; have := HMW.out; omega)); (clear hown7 hg7 k0 k1 P0 hg4 hsz4 hR4 hB4 hgr7 hl7 hB7)) | ((with_reducible refine at_op (.call { callee := .builtin .append, args := #[.tmp 33, .tmp 35], argTypes := #[60, 60] }) ?_); refine wpList_append_part rfl (.tmp 33) (.tmp 35) rfl w.heap.size v7 _ L [Z] rfl HO8.out rfl HPO.out (by intro Y hY; rw [List.mem_singleton.1 hY]; exact HZ.out) ?_ ?_ ?_; (have := HLN.out; have := HNX.out; simp at this ⊢; try omega); (exact HW8.out); intro v9 w9 hown9 hg9 hl9; (have hB9 := HB8.out.grown hg9 HW8.out (fun k e => hbl7 k e)); (have P9 : w9.heap[gy]? = some (.cells #[.int .i64 room, .slice ua L.length uc] 73 (0, 0)) := (hg9.block gy (lt_of_row P8) (fun e => by have := hbl7 gy (by first | exact e | exact e.symm); omega)).trans P8); (have f9 := frozen_of_row w9 gy 1 _ _ P9); (have c9 := (cell_of_row w9 gy 1 _ _ _ P9).trans (rfl : _ = some (Value.slice ua L.length uc))); (have HO9 := hid hown9); (have HB9 := hid hB9); (have HH9 := hid hg9.size); (have HL9 := hid (show ∃ j, v9.ownBlock = some j ∧ w.heap.size ≤ j by (have hne : (L ++ [Z]).length ≠ 0 := by simp); (rcases hown9.2 with ⟨-, h⟩ | ⟨j, c, cur, rfl, h1, -⟩); (exact absurd h hne); (exact ⟨j, rfl, h1⟩))); (clear hown9 hg9 hl9 hB9); (obtain ⟨va9, vc9, rfl⟩ := own_slice HO9.out)))

  go_ret
  refine ⟨rfl, _, ⟨?_, ?_, q3, ?_, ?_, HLG.out.1, HLG.out.2.1, ?_⟩, ?_, HL9.out⟩
  · first | (simp [World.setCell, Array.getElem?_modify, P9]; done) | (simp [World.setCell, Array.getElem?_modify, P9]; omega)
  · rw [HADD.out]; exact own_base (own_set_other' (off := 1) HO9.out (row_not' HO9.out P9 (by decide))) HMW.out
  · have := HH9.out; have := HS8.out; simp; omega
  · rw [HADD.out]; intro Y hY
    rcases List.mem_append.1 hY with h | h
    · exact HLG.out.2.2 Y (h)
    · rw [List.mem_singleton.1 h]; exact ⟨HRW.out, HRR.out⟩
  · rw [HADD.out, List.length_append]; have := HLR.out; simp; omega
  · exact (Turn.of_below HB9.out).set 1 _
set_option maxRecDepth 100000 in
set_option maxHeartbeats 1000000 in
theorem rladd_over {M gy room : Nat} {u : Value} {L : List (List Int)} (Z : List Int) (w : World) (h : RG M gy room u L w) (hZ : RepWf Z) (hR : RightL Z) (hc : L.length = room) :
    Calls Tryd.prog 52 #[.pointer (some ⟨gy, 0, none⟩), .agg (rcells Z)] w fun e w' => e = .returned (.int .i64 0) ∧ ∃ u', RG M gy room u' (addL room L Z) w' ∧ Turn gy w w' ∧ (∃ j, u'.ownBlock = some j ∧ w.heap.size ≤ j) := by
  obtain ⟨q0, q1, q3, q4, q5, q6, q7, q8⟩ := h
  have HZ := hid hZ.1
  have HRW := hid hZ
  have HRR := hid hR
  have RI := hid (fun W => rright_yes Z hZ hR W)
  have hl11 : ∀ Z ∈ L, Z.length = 11 := fun Z hZ => (q5 Z hZ).1.1
  obtain ⟨ua, uc, rfl⟩ := own_slice q1
  have hgl := lt_of_row q0
  have Q0 := hid (fun W (hW : Below w.heap.size w W) => (hW.block gy hgl).trans q0)
  have HQ1 := hid (fun W (hW : Below w.heap.size w W) => (ownsRow_below q1 hW : Rows' M W _ L))
  have HLG := hid (show 1 ≤ room ∧ room ≤ 1000 ∧ (∀ Z ∈ L, RepWf Z ∧ RightL Z) from ⟨q6, q7, q5⟩)
  have HLN := hid (show L.length ≤ 1000 by omega)
  have HL11 := hid hl11
  have HMW := hid q4
  have HAL := hid hc
  subst hc
  have HLD := hid (show ∀ Z ∈ L.drop 1, Z.length = 11 from fun Z hZ => hl11 Z (List.mem_of_mem_drop hZ))
  have HNX := hid (show (L.drop 1).length ≤ 1000 by simp; omega)
  have HLR := hid (show (L.drop 1).length + 1 ≤ L.length by simp; omega)
  have HADD := hid (addL_over (room := L.length) (L := L) (Z := Z) rfl)
  have HPR := hid (fun W (hW : Below w.heap.size w W) => part_of_rows (HQ1.out W hW) hl11 q6)
  obtain ⟨g', hg', huc⟩ : ∃ g', ua = some ⟨g', 0, none⟩ ∧ L.length ≤ uc := by
    rcases q1.2 with ⟨-, h⟩ | ⟨j, c, cur, h, -, -, h2, -⟩
    · omega
    · obtain ⟨rfl, -, rfl⟩ := Value.slice.inj h
      exact ⟨j, rfl, h2⟩
  subst hg'
  have PD1 := hid (fun W (hW : Below w.heap.size w W) => (show ∀ k, Part W (.slice (some ⟨g', 11, none⟩) (L.length - 1) k) (L.drop 1) from by
    rcases HPR.out W hW with ⟨h, -⟩ | ⟨j, c, h, -, -, h2⟩
    · cases h
    · obtain ⟨h3, -, rfl⟩ := Value.slice.inj h
      obtain rfl : g' = j := by injection h3 with h3; injection h3
      exact h2))
  have h1L : 1 ≤ L.length := q6
  have h1L' : (1 : Int) ≤ L.length := by omega
  have h1000 : (L.length : Int) ≤ 1000 := by omega
  clear q0 q1 q4 q5 q6 q7 q8 hZ hR hl11 HAL HPR HQ1
  by_cases hu1 : uc = 1
  · subst hu1
    have hL1 : L.length = 1 := by omega
    have PD := hid (fun W (hW : Below w.heap.size w W) => (show Part W (.slice (some ⟨g', 0, none⟩) 0 0) (L.drop 1) from by rw [List.drop_of_length_le (by omega)]; exact part_none))
    have HL1 := hid hL1
    clear hL1
    go_enter Tryd.func52, Tryd.ntmps52
    go_wp2_with (first | ((with_reducible refine at_op (.box 50 (.tmp 1)) ?_); refine wpR_box rfl (.tmp 1) rfl Z rfl ?_; intro g3 w3 hg3 hR3 hb3; have hl3 : w.heap.size ≤ g3 := Nat.le_of_eq hg3.symm; clear hg3) | ((with_reducible refine at_op (.load 50 (.tmp 3)) ?_); refine wpR_get rfl (.tmp 3) rfl g3 rfl Z HZ.out hR3 ?_))
    refine (RI.out _).mono ?_
    rintro e w4 ⟨rfl, hb4⟩
    have hB4 := chain hb3 hb4
    have hR4 := hR3.later hb4
    have hsz4 : w.heap.size ≤ w4.heap.size := hB4.size
    have P0 := Q0.out w4 hB4
    have k0 : w4.cell? ⟨gy, 0, none⟩ = some (.int .i64 L.length) := (cell_of_row w4 gy 0 _ _ _ P0).trans rfl
    have k1 : w4.cell? ⟨gy, 1, none⟩ = some (.slice (some ⟨g', 0, none⟩) L.length 1) := (cell_of_row w4 gy 1 _ _ _ P0).trans rfl
    have hg4 : gy < w4.heap.size := by omega
    clear hb4 hb3 Q0
    go_wp2_with fail
    refine wp_region_F' (B := w4.heap.size) (n := 10) (l := #[false, false, false, false, false, false, false, false, false, false]) (by kernel_rfl) (by kernel_rfl) (by kernel_rfl) ?_
    refine wpAnyF_take (i := 0) (v := ?vp_c_0_1) (some 9) rfl rfl (by kernel_rfl) (by kernel_rfl) (by kernel_rfl) (fun _ _ _ h => h) (by rfl) ?hvp_c_0_1 ?restp_c_0_1
    case hvp_c_0_1 => (intro w' hb; go_simp; try with_reducible rfl)
    simp only [Act.put, List.setIfInBounds_toArray, List.set_cons_zero, List.set_cons_succ]
    refine wpAnyF_take (i := 1) (v := ?vp_c_1_2) (some 10) rfl rfl (by kernel_rfl) (by kernel_rfl) (by kernel_rfl) (fun _ _ _ h => h) (by rfl) ?hvp_c_1_2 ?restp_c_1_2
    case hvp_c_1_2 => (intro w' hb; go_simp; try with_reducible rfl)
    simp only [Act.put, List.setIfInBounds_toArray, List.set_cons_zero, List.set_cons_succ]
    refine wpAnyF_take (i := 2) (v := ?vp_c_2_3) (some 11) rfl rfl (by kernel_rfl) (by kernel_rfl) (by kernel_rfl) (fun _ _ _ h => h) (by rfl) ?hvp_c_2_3 ?restp_c_2_3
    case hvp_c_2_3 => (intro w' hb; go_simp; try with_reducible rfl)
    simp only [Act.put, List.setIfInBounds_toArray, List.set_cons_zero, List.set_cons_succ]
    refine wpAnyF_take (i := 3) (v := ?vp_c_3_4) (some 12) rfl rfl (by kernel_rfl) (by kernel_rfl) (by kernel_rfl) (fun _ _ _ h => h) (by rfl) ?hvp_c_3_4 ?restp_c_3_4
    case hvp_c_3_4 => (intro w' hb; (have hcw := (hb.cell (p := ⟨gy, 1, none⟩) hg4).trans k1; go_simp; try with_reducible rfl))
    simp only [Act.put, List.setIfInBounds_toArray, List.set_cons_zero, List.set_cons_succ]
    refine wpAnyF_take (i := 4) (v := ?vp_c_4_5) (some 13) rfl rfl (by kernel_rfl) (by kernel_rfl) (by kernel_rfl) (fun _ _ _ h => h) (by rfl) ?hvp_c_4_5 ?restp_c_4_5
    case hvp_c_4_5 => (intro w' hb; go_simp; try with_reducible rfl)
    simp only [Act.put, List.setIfInBounds_toArray, List.set_cons_zero, List.set_cons_succ]
    refine wpAnyF_take (i := 5) (v := ?vp_c_5_6) (some 14) rfl rfl (by kernel_rfl) (by kernel_rfl) (by kernel_rfl) (fun _ _ _ h => h) (by rfl) ?hvp_c_5_6 ?restp_c_5_6
    case hvp_c_5_6 => (intro w' hb; go_simp; try with_reducible rfl)
    simp only [Act.put, List.setIfInBounds_toArray, List.set_cons_zero, List.set_cons_succ]
    refine wpAnyF_take (i := 6) (v := ?vp_c_6_7) (some 15) rfl rfl (by kernel_rfl) (by kernel_rfl) (by kernel_rfl) (fun _ _ _ h => h) (by rfl) ?hvp_c_6_7 ?restp_c_6_7
    case hvp_c_6_7 => (intro w' hb; go_simp; try with_reducible rfl)
    simp only [Act.put, List.setIfInBounds_toArray, List.set_cons_zero, List.set_cons_succ]
    refine wpAnyF_take (i := 7) (v := ?vp_c_7_8) (some 16) rfl rfl (by kernel_rfl) (by kernel_rfl) (by kernel_rfl) (fun _ _ _ h => h) (by rfl) ?hvp_c_7_8 ?restp_c_7_8
    case hvp_c_7_8 => (intro w' hb; go_simp; try with_reducible rfl)
    simp only [Act.put, List.setIfInBounds_toArray, List.set_cons_zero, List.set_cons_succ]
    refine wpAnyF_take (i := 8) (v := ?vp_c_8_9) (some 17) rfl rfl (by kernel_rfl) (by kernel_rfl) (by kernel_rfl) (fun _ _ _ h => h) (by rfl) ?hvp_c_8_9 ?restp_c_8_9
    case hvp_c_8_9 => (intro w' hb; (have hcw := (hb.cell (p := ⟨gy, 0, none⟩) hg4).trans k0; go_simp; try with_reducible rfl))
    simp only [Act.put, List.setIfInBounds_toArray, List.set_cons_zero, List.set_cons_succ]
    refine wpAnyF_take (i := 9) (v := ?vp_c_9_10) (some 18) rfl rfl (by kernel_rfl) (by kernel_rfl) (by kernel_rfl) (fun _ _ _ h => h) (by rfl) ?hvp_c_9_10 ?restp_c_9_10
    case hvp_c_9_10 => (intro w' hb; go_simp; try with_reducible rfl)
    simp only [Act.put, List.setIfInBounds_toArray, List.set_cons_zero, List.set_cons_succ]
    refine wpAnyF_done (by kernel_rfl) ?_ _
    go_wp2_with (first | ((with_reducible refine at_op (.load 50 (.tmp 3)) ?_); refine wpR_get rfl (.tmp 3) rfl g3 rfl Z HZ.out hR7 ?_) | ((with_reducible refine at_op (.buildSlice 60 1 #[(0, .tmp 34)]) ?_); refine wpList_plain rfl (fun K hK => ?_); refine wp_slice1_rep (.tmp 34) rfl Z HZ.out rfl ?_; intro g8 w8 hg8 hR8 hb8; clear hg8; refine hK _ _ ?_; (have HO8 := hid (ownsRow_below HO7.out hb8)); (have hB8 := chain HB7.out hb8); (have P8 := (hb8.block gy (lt_of_row P7)).trans P7); (have HPO := hid (part_one (c := 1) hR8)); (have HB8 := hid hB8); (have HS8 := hid (show M ≤ w8.heap.size by have := hB8.size; have := HMW.out; omega)); (have HW8 := hid hB8.size); (clear hB8 hR8 hR7 HO7)) | ((with_reducible refine at_op (.call { callee := .builtin .append, args := #[.tmp 19, .tmp 24], argTypes := #[60, 60] }) ?_); refine wpList_append_part rfl (.tmp 19) (.tmp 24) rfl w.heap.size (.slice none 0 0) _ [] (L.drop 1) rfl (World.ownsRow_nil _ _ _ _) rfl (PD.out _ (hB4.drew)) HLD.out ?_ ?_ ?_; (have := HLN.out; simp; try omega); (simpa using hsz4); intro v7 w7 hown7 hg7 hl7; (have hB7 := hB4.drew.grown hg7 (by simpa using hsz4) (fun k e => by cases e)); (have hgr7 : Below w4.heap.size w4.drew w7 := (Below.refl _ w4.drew).grown hg7 (Nat.le_refl _) (fun k e => by cases e)); (have hbl7 : ∀ j, v7.ownBlock = some j → w.heap.size ≤ j := fun j e => (hown7.lt j e).1); (have hR7 := hR4.later (Below.drewl hgr7)); (have P7 := ((Below.drewl hgr7).block gy hg4).trans P0); (have HO7 := hid hown7); (have HB7 := hid hB7); (have HS7 := hid (show M ≤ w7.heap.size by have := hB7.size; have := HMW.out; omega)); (clear hown7 hg7 k0 k1 P0 hg4 hsz4 hR4 hB4 hgr7 hl7 hB7)) | ((with_reducible refine at_op (.call { callee := .builtin .append, args := #[.tmp 33, .tmp 35], argTypes := #[60, 60] }) ?_); refine wpList_append_part rfl (.tmp 33) (.tmp 35) rfl w.heap.size v7 _ (L.drop 1) [Z] rfl HO8.out rfl HPO.out (by intro Y hY; rw [List.mem_singleton.1 hY]; exact HZ.out) ?_ ?_ ?_; (have := HLN.out; have := HNX.out; simp at this ⊢; try omega); (exact HW8.out); intro v9 w9 hown9 hg9 hl9; (have hB9 := HB8.out.grown hg9 HW8.out (fun k e => hbl7 k e)); (have P9 : w9.heap[gy]? = some (.cells #[.int .i64 L.length, .slice (some ⟨g', 0, none⟩) L.length 1] 73 (0, 0)) := (hg9.block gy (lt_of_row P8) (fun e => by have := hbl7 gy (by first | exact e | exact e.symm); omega)).trans P8); (have f9 := frozen_of_row w9 gy 1 _ _ P9); (have c9 := (cell_of_row w9 gy 1 _ _ _ P9).trans (rfl : _ = some (Value.slice (some ⟨g', 0, none⟩) L.length 1))); (have HO9 := hid hown9); (have HB9 := hid hB9); (have HH9 := hid hg9.size); (have HL9 := hid (show ∃ j, v9.ownBlock = some j ∧ w.heap.size ≤ j by (have hne : ((L.drop 1) ++ [Z]).length ≠ 0 := by simp); (rcases hown9.2 with ⟨-, h⟩ | ⟨j, c, cur, rfl, h1, -⟩); (exact absurd h hne); (exact ⟨j, rfl, h1⟩))); (clear hown9 hg9 hl9 hB9); (obtain ⟨va9, vc9, rfl⟩ := own_slice HO9.out)))

    go_ret
    refine ⟨rfl, _, ⟨?_, ?_, q3, ?_, ?_, HLG.out.1, HLG.out.2.1, ?_⟩, ?_, HL9.out⟩
    · first | (simp [World.setCell, Array.getElem?_modify, P9]; done) | (simp [World.setCell, Array.getElem?_modify, P9]; omega)
    · rw [HADD.out]; exact own_base (own_set_other' (off := 1) HO9.out (row_not' HO9.out P9 (by decide))) HMW.out
    · have := HH9.out; have := HS8.out; simp; omega
    · rw [HADD.out]; intro Y hY
      rcases List.mem_append.1 hY with h | h
      · exact HLG.out.2.2 Y (List.mem_of_mem_drop h)
      · rw [List.mem_singleton.1 h]; exact ⟨HRW.out, HRR.out⟩
    · rw [HADD.out, List.length_append]; have := HLR.out; simp; omega
    · exact (Turn.of_below HB9.out).set 1 _
  · have PD := hid (fun W (hW : Below w.heap.size w W) => PD1.out W hW (uc - 1))
    have hu1' : ¬ (uc : Int) = 1 := by omega
    have huc' : (L.length : Int) ≤ uc := by omega
    go_enter Tryd.func52, Tryd.ntmps52
    go_wp2_with (first | ((with_reducible refine at_op (.box 50 (.tmp 1)) ?_); refine wpR_box rfl (.tmp 1) rfl Z rfl ?_; intro g3 w3 hg3 hR3 hb3; have hl3 : w.heap.size ≤ g3 := Nat.le_of_eq hg3.symm; clear hg3) | ((with_reducible refine at_op (.load 50 (.tmp 3)) ?_); refine wpR_get rfl (.tmp 3) rfl g3 rfl Z HZ.out hR3 ?_))
    refine (RI.out _).mono ?_
    rintro e w4 ⟨rfl, hb4⟩
    have hB4 := chain hb3 hb4
    have hR4 := hR3.later hb4
    have hsz4 : w.heap.size ≤ w4.heap.size := hB4.size
    have P0 := Q0.out w4 hB4
    have k0 : w4.cell? ⟨gy, 0, none⟩ = some (.int .i64 L.length) := (cell_of_row w4 gy 0 _ _ _ P0).trans rfl
    have k1 : w4.cell? ⟨gy, 1, none⟩ = some (.slice (some ⟨g', 0, none⟩) L.length uc) := (cell_of_row w4 gy 1 _ _ _ P0).trans rfl
    have hg4 : gy < w4.heap.size := by omega
    clear hb4 hb3 Q0
    go_wp2_with fail
    refine wp_region_F' (B := w4.heap.size) (n := 10) (l := #[false, false, false, false, false, false, false, false, false, false]) (by kernel_rfl) (by kernel_rfl) (by kernel_rfl) ?_
    refine wpAnyF_take (i := 0) (v := ?vq_c_0_1) (some 9) rfl rfl (by kernel_rfl) (by kernel_rfl) (by kernel_rfl) (fun _ _ _ h => h) (by rfl) ?hvq_c_0_1 ?restq_c_0_1
    case hvq_c_0_1 => (intro w' hb; go_simp; try with_reducible rfl)
    simp only [Act.put, List.setIfInBounds_toArray, List.set_cons_zero, List.set_cons_succ]
    refine wpAnyF_take (i := 1) (v := ?vq_c_1_2) (some 10) rfl rfl (by kernel_rfl) (by kernel_rfl) (by kernel_rfl) (fun _ _ _ h => h) (by rfl) ?hvq_c_1_2 ?restq_c_1_2
    case hvq_c_1_2 => (intro w' hb; go_simp; try with_reducible rfl)
    simp only [Act.put, List.setIfInBounds_toArray, List.set_cons_zero, List.set_cons_succ]
    refine wpAnyF_take (i := 2) (v := ?vq_c_2_3) (some 11) rfl rfl (by kernel_rfl) (by kernel_rfl) (by kernel_rfl) (fun _ _ _ h => h) (by rfl) ?hvq_c_2_3 ?restq_c_2_3
    case hvq_c_2_3 => (intro w' hb; go_simp; try with_reducible rfl)
    simp only [Act.put, List.setIfInBounds_toArray, List.set_cons_zero, List.set_cons_succ]
    refine wpAnyF_take (i := 3) (v := ?vq_c_3_4) (some 12) rfl rfl (by kernel_rfl) (by kernel_rfl) (by kernel_rfl) (fun _ _ _ h => h) (by rfl) ?hvq_c_3_4 ?restq_c_3_4
    case hvq_c_3_4 => (intro w' hb; (have hcw := (hb.cell (p := ⟨gy, 1, none⟩) hg4).trans k1; go_simp; try with_reducible rfl))
    simp only [Act.put, List.setIfInBounds_toArray, List.set_cons_zero, List.set_cons_succ]
    refine wpAnyF_take (i := 4) (v := ?vq_c_4_5) (some 13) rfl rfl (by kernel_rfl) (by kernel_rfl) (by kernel_rfl) (fun _ _ _ h => h) (by rfl) ?hvq_c_4_5 ?restq_c_4_5
    case hvq_c_4_5 => (intro w' hb; go_simp; try with_reducible rfl)
    simp only [Act.put, List.setIfInBounds_toArray, List.set_cons_zero, List.set_cons_succ]
    refine wpAnyF_take (i := 5) (v := ?vq_c_5_6) (some 14) rfl rfl (by kernel_rfl) (by kernel_rfl) (by kernel_rfl) (fun _ _ _ h => h) (by rfl) ?hvq_c_5_6 ?restq_c_5_6
    case hvq_c_5_6 => (intro w' hb; go_simp; try with_reducible rfl)
    simp only [Act.put, List.setIfInBounds_toArray, List.set_cons_zero, List.set_cons_succ]
    refine wpAnyF_take (i := 6) (v := ?vq_c_6_7) (some 15) rfl rfl (by kernel_rfl) (by kernel_rfl) (by kernel_rfl) (fun _ _ _ h => h) (by rfl) ?hvq_c_6_7 ?restq_c_6_7
    case hvq_c_6_7 => (intro w' hb; go_simp; try with_reducible rfl)
    simp only [Act.put, List.setIfInBounds_toArray, List.set_cons_zero, List.set_cons_succ]
    refine wpAnyF_take (i := 7) (v := ?vq_c_7_8) (some 16) rfl rfl (by kernel_rfl) (by kernel_rfl) (by kernel_rfl) (fun _ _ _ h => h) (by rfl) ?hvq_c_7_8 ?restq_c_7_8
    case hvq_c_7_8 => (intro w' hb; go_simp; try with_reducible rfl)
    simp only [Act.put, List.setIfInBounds_toArray, List.set_cons_zero, List.set_cons_succ]
    refine wpAnyF_take (i := 8) (v := ?vq_c_8_9) (some 17) rfl rfl (by kernel_rfl) (by kernel_rfl) (by kernel_rfl) (fun _ _ _ h => h) (by rfl) ?hvq_c_8_9 ?restq_c_8_9
    case hvq_c_8_9 => (intro w' hb; (have hcw := (hb.cell (p := ⟨gy, 0, none⟩) hg4).trans k0; go_simp; try with_reducible rfl))
    simp only [Act.put, List.setIfInBounds_toArray, List.set_cons_zero, List.set_cons_succ]
    refine wpAnyF_take (i := 9) (v := ?vq_c_9_10) (some 18) rfl rfl (by kernel_rfl) (by kernel_rfl) (by kernel_rfl) (fun _ _ _ h => h) (by rfl) ?hvq_c_9_10 ?restq_c_9_10
    case hvq_c_9_10 => (intro w' hb; go_simp; try with_reducible rfl)
    simp only [Act.put, List.setIfInBounds_toArray, List.set_cons_zero, List.set_cons_succ]
    refine wpAnyF_done (by kernel_rfl) ?_ _
    go_wp2_with (first | ((with_reducible refine at_op (.load 50 (.tmp 3)) ?_); refine wpR_get rfl (.tmp 3) rfl g3 rfl Z HZ.out hR7 ?_) | ((with_reducible refine at_op (.buildSlice 60 1 #[(0, .tmp 34)]) ?_); refine wpList_plain rfl (fun K hK => ?_); refine wp_slice1_rep (.tmp 34) rfl Z HZ.out rfl ?_; intro g8 w8 hg8 hR8 hb8; clear hg8; refine hK _ _ ?_; (have HO8 := hid (ownsRow_below HO7.out hb8)); (have hB8 := chain HB7.out hb8); (have P8 := (hb8.block gy (lt_of_row P7)).trans P7); (have HPO := hid (part_one (c := 1) hR8)); (have HB8 := hid hB8); (have HS8 := hid (show M ≤ w8.heap.size by have := hB8.size; have := HMW.out; omega)); (have HW8 := hid hB8.size); (clear hB8 hR8 hR7 HO7)) | ((with_reducible refine at_op (.call { callee := .builtin .append, args := #[.tmp 19, .tmp 24], argTypes := #[60, 60] }) ?_); refine wpList_append_part rfl (.tmp 19) (.tmp 24) rfl w.heap.size (.slice none 0 0) _ [] (L.drop 1) rfl (World.ownsRow_nil _ _ _ _) rfl (PD.out _ (hB4.drew)) HLD.out ?_ ?_ ?_; (have := HLN.out; simp; try omega); (simpa using hsz4); intro v7 w7 hown7 hg7 hl7; (have hB7 := hB4.drew.grown hg7 (by simpa using hsz4) (fun k e => by cases e)); (have hgr7 : Below w4.heap.size w4.drew w7 := (Below.refl _ w4.drew).grown hg7 (Nat.le_refl _) (fun k e => by cases e)); (have hbl7 : ∀ j, v7.ownBlock = some j → w.heap.size ≤ j := fun j e => (hown7.lt j e).1); (have hR7 := hR4.later (Below.drewl hgr7)); (have P7 := ((Below.drewl hgr7).block gy hg4).trans P0); (have HO7 := hid hown7); (have HB7 := hid hB7); (have HS7 := hid (show M ≤ w7.heap.size by have := hB7.size; have := HMW.out; omega)); (clear hown7 hg7 k0 k1 P0 hg4 hsz4 hR4 hB4 hgr7 hl7 hB7)) | ((with_reducible refine at_op (.call { callee := .builtin .append, args := #[.tmp 33, .tmp 35], argTypes := #[60, 60] }) ?_); refine wpList_append_part rfl (.tmp 33) (.tmp 35) rfl w.heap.size v7 _ (L.drop 1) [Z] rfl HO8.out rfl HPO.out (by intro Y hY; rw [List.mem_singleton.1 hY]; exact HZ.out) ?_ ?_ ?_; (have := HLN.out; have := HNX.out; simp at this ⊢; try omega); (exact HW8.out); intro v9 w9 hown9 hg9 hl9; (have hB9 := HB8.out.grown hg9 HW8.out (fun k e => hbl7 k e)); (have P9 : w9.heap[gy]? = some (.cells #[.int .i64 L.length, .slice (some ⟨g', 0, none⟩) L.length uc] 73 (0, 0)) := (hg9.block gy (lt_of_row P8) (fun e => by have := hbl7 gy (by first | exact e | exact e.symm); omega)).trans P8); (have f9 := frozen_of_row w9 gy 1 _ _ P9); (have c9 := (cell_of_row w9 gy 1 _ _ _ P9).trans (rfl : _ = some (Value.slice (some ⟨g', 0, none⟩) L.length uc))); (have HO9 := hid hown9); (have HB9 := hid hB9); (have HH9 := hid hg9.size); (have HL9 := hid (show ∃ j, v9.ownBlock = some j ∧ w.heap.size ≤ j by (have hne : ((L.drop 1) ++ [Z]).length ≠ 0 := by simp); (rcases hown9.2 with ⟨-, h⟩ | ⟨j, c, cur, rfl, h1, -⟩); (exact absurd h hne); (exact ⟨j, rfl, h1⟩))); (clear hown9 hg9 hl9 hB9); (obtain ⟨va9, vc9, rfl⟩ := own_slice HO9.out)))

    go_ret
    refine ⟨rfl, _, ⟨?_, ?_, q3, ?_, ?_, HLG.out.1, HLG.out.2.1, ?_⟩, ?_, HL9.out⟩
    · first | (simp [World.setCell, Array.getElem?_modify, P9]; done) | (simp [World.setCell, Array.getElem?_modify, P9]; omega)
    · rw [HADD.out]; exact own_base (own_set_other' (off := 1) HO9.out (row_not' HO9.out P9 (by decide))) HMW.out
    · have := HH9.out; have := HS8.out; simp; omega
    · rw [HADD.out]; intro Y hY
      rcases List.mem_append.1 hY with h | h
      · exact HLG.out.2.2 Y (List.mem_of_mem_drop h)
      · rw [List.mem_singleton.1 h]; exact ⟨HRW.out, HRR.out⟩
    · rw [HADD.out, List.length_append]; have := HLR.out; simp; omega
    · exact (Turn.of_below HB9.out).set 1 _
end Go.Proofs.YtecbfegohdllbaaDoor
end
section
/- Layer 47 (log): the document's Find: a contract. -/
namespace Go.Proofs.YtecbfegohdllbaaDoor
open Go.RowKit
set_option linter.unusedVariables false
set_option linter.unusedSimpArgs false
/-- the newest report of a number -/
def findL (L : List (List Int)) (s : Int) : List Int × Bool := match L.reverse.find? (fun Z => Z.getD 1 0 == s) with | some Z => (Z, true) | none => (zeroR, false)
theorem findL_none {L : List (List Int)} {s : Int} (h : ∀ Z ∈ L, Z.getD 1 0 ≠ s) : findL L s = (zeroR, false) := by
  have : L.reverse.find? (fun Z => Z.getD 1 0 == s) = none := by
    rw [List.find?_eq_none]
    intro Z hZ
    simpa using h Z (by simpa using hZ)
  unfold findL
  rw [this]
theorem findL_at {L : List (List Int)} {s : Int} {i : Nat} {Z : List Int} (hi : L[i]? = some Z) (hs : Z.getD 1 0 = s) (h : ∀ Y ∈ L.drop (i + 1), Y.getD 1 0 ≠ s) : findL L s = (Z, true) := by
  have hlt := (List.getElem?_eq_some_iff.1 hi).1
  have hg := (List.getElem?_eq_some_iff.1 hi).2
  have h1 : L = L.take i ++ Z :: L.drop (i + 1) := by rw [← hg]; simp
  have h2 : (L.drop (i + 1)).reverse.find? (fun Z => Z.getD 1 0 == s) = none := by
    rw [List.find?_eq_none]
    intro Y hY
    simpa using h Y (by simpa using hY)
  have : L.reverse.find? (fun Z => Z.getD 1 0 == s) = some Z := by
    rw [h1, List.reverse_append, List.reverse_cons, List.append_assoc, List.find?_append, h2]
    have hs' : (Z.getD 1 0 == s) = true := by simpa using hs
    rw [Option.none_or, List.cons_append, List.find?_cons, hs']
  unfold findL
  rw [this]
theorem findL_wf {L : List (List Int)} {s : Int} (h : ∀ Z ∈ L, RepWf Z) : RepWf (findL L s).1 := by
  unfold findL
  split
  · rename_i Z hZ
    exact h Z (by simpa using List.mem_of_find?_eq_some hZ)
  · exact zero_wf
theorem rep_seq {Z : List Int} (h : Z.length = 11) : (rcells Z).toList[1]? = some (.int .i64 (Z.getD 1 0)) := by
  obtain ⟨f, s, u, g, q0, q1, q2, q3, x0, x1, x2, rfl⟩ := eleven_list Z h
  rfl
set_option maxRecDepth 100000 in
set_option maxHeartbeats 1000000 in
theorem rlfind_any {M gy room : Nat} {u : Value} {L : List (List Int)} (s : Int) (w : World) (h : RG M gy room u L w) :
    Calls Tryd.prog 82 #[.pointer (some ⟨gy, 0, none⟩), .int .i64 s] w fun e w' => e = .returned (.tuple #[.agg (rcells (findL L s).1), .bool (findL L s).2]) ∧ Below w.heap.size w w' := by
  obtain ⟨q0, q1, q3, q4, q5, q6, q7, q8⟩ := h
  have hl11 : ∀ Z ∈ L, Z.length = 11 := fun Z hZ => (q5 Z hZ).1.1
  obtain ⟨ua, uc, rfl⟩ := own_slice q1
  have hgl := lt_of_row q0
  have Q0 := hid (fun W (hW : Below w.heap.size w W) => (hW.block gy hgl).trans q0)
  have RR := hid (fun W (hW : Below w.heap.size w W) => rrow_of_rows (ownsRow_below q1 hW : Rows' M W _ L) hl11)
  have HA := hid (rrow_at (rrow_of_rows q1 hl11) hl11)
  have HL11 := hid hl11
  obtain ⟨N, hN⟩ : ∃ N, N = L.length := ⟨_, rfl⟩
  have HN := hid hN
  have hNN : (N : Int) ≤ 1000 := by omega
  have hN0 : (0 : Int) ≤ N := by omega
  rw [← hN] at Q0 RR HA
  clear q0 q1 q3 q4 q5 q6 q7 q8 hl11 hN
  go_enter Tryd.func82, Tryd.ntmps82
  go_wp2_with ((with_reducible refine at_op (.alloc 50) ?_); refine wpR_alloc rfl rfl ?_; intro g4 w4 hg4 hR4 hb4; have hl4 : w.heap.size ≤ g4 := Nat.le_of_eq hg4.symm; clear hg4; (have c1 := (cell_of_row w4 gy 1 _ _ _ (Q0.out w4 hb4)).trans (rfl : _ = some (Value.slice ua N uc))))
  go_loopw [6] (fun i wr => ∃ k : Nat, k ≤ N ∧ i = .int .i64 ((k : Int) - 1) ∧ wr = w4 ∧ Hid (∀ Z ∈ L.drop k, Z.getD 1 0 ≠ s)) (fun i _ => (intOf i + 1).toNat)
  case atStart => exact ⟨N, Nat.le_refl _, rfl, rfl, hid (fun Z hZ => by rw [List.drop_of_length_le (by have := HN.out; omega)] at hZ; cases hZ)⟩
  case round =>
    obtain ⟨k, hk, rfl, hwr, HD⟩ := hrel
    have hwr2 := hwr.symm
    subst hwr2
    rcases k with _ | k
    · have hD0 : findL L s = (zeroR, false) := findL_none (by have := HD.out; simpa using this)
      have HF := hid hD0
      clear hD0 HD
      go_wp2_with ((with_reducible refine at_op (.store 50 (.tmp 4) (.tmp 34)) ?_); refine wpR_put rfl (.tmp 4) (.tmp 34) rfl g4 w.heap.size zeroR zeroR rfl rfl rfl rfl hR4 hl4 ?_; intro w5 hR5 hb5)
      have lv := run_loadVar_row (P := Tryd.prog) _ g4 _ 50 _ _ _ hR5 Tryd.underlying50 rfl (by rw [rcells_size _ rfl]; kernel_rfl)
      refine bodyPost_ret (v := .tuple #[.agg (rcells zeroR), .bool false]) (by simp [results, Tryd.results82, asAddr, lv]) rfl ⟨by rw [HF.out], hb4.trans hb5⟩
    · have hk' : k < L.length := by have := HN.out; omega
      have z1 : L[k]? = some L[k] := by simp [hk']
      have HZM := List.getElem_mem hk'
      generalize L[k] = Z at *
      have HZL := hid (HL11.out Z HZM)
      have hkk : ((k + 1 : Nat) : Int) - 1 = k := by omega
      rw [hkk]
      obtain ⟨a', c', hv, ha, hc⟩ := HA.out
      obtain ⟨rfl, -, rfl⟩ := Value.slice.inj hv
      obtain ⟨b, off, rfl⟩ := ha (by omega)
      have CA := hid (rrow_cells (RR.out w4 hb4) z1)
      have cc : w4.cell? ⟨b, off + k * 11 + 1, none⟩ = some (.int .i64 (Z.getD 1 0)) := CA.out 1 _ (rep_seq HZL.out) _ (by omega)
      have HZ1 := hid z1
      have hlt : (k : Int) < N := by omega
      clear hv ha z1 HZM
      by_cases hz : Z.getD 1 0 = s
      · have hF : findL L s = (Z, true) := findL_at HZ1.out hz HD.out
        have HF := hid hF
        rw [hz] at cc
        clear hF HD
        go_wp2_with (first | ((with_reducible refine at_op (.load 50 (.tmp 32)) ?_); refine wpR_load_part rfl (.tmp 32) rfl ⟨b, off + k * 11, none⟩ rfl Z HZL.out ?_ ?_; (intro j x hj; rw [add_plain]; exact CA.out j x hj _ (by omega))) | ((with_reducible refine at_op (.store 50 (.tmp 4) (.tmp 33)) ?_); refine wpR_put rfl (.tmp 4) (.tmp 33) rfl g4 w.heap.size Z zeroR HZL.out rfl rfl rfl hR4 hl4 ?_; intro w5 hR5 hb5))
        have lv := run_loadVar_row (P := Tryd.prog) _ g4 _ 50 _ _ _ hR5 Tryd.underlying50 rfl (by rw [rcells_size _ HZL.out]; kernel_rfl)
        refine bodyPost_ret (v := .tuple #[.agg (rcells Z), .bool true]) (by simp [results, Tryd.results82, asAddr, lv]) rfl ⟨by rw [HF.out], hb4.trans hb5⟩
      · have HZZ := hid hz
        generalize Z.getD 1 0 = z at cc hz
        go_wp2_with fail
        go_roundw
        case rel =>
          refine ⟨k, by omega, rfl, trivial, hid ?_⟩
          rw [List.drop_eq_getElem_cons (by have := HN.out; omega)]
          intro Y hY
          rcases List.mem_cons.1 hY with h | h
          · have h5 : Y = Z := by
              have := HZ1.out
              rw [List.getElem?_eq_getElem (by have := HN.out; omega)] at this
              rw [h]; exact Option.some.inj this
            rw [h5]; exact HZZ.out
          · exact HD.out Y h
        case measure => first | (simp [intOf]; done) | (simp [intOf]; omega)
end Go.Proofs.YtecbfegohdllbaaDoor
end
section
/- A range over a function that counts its rounds, keeps no state of its own, and may be left by a return. (No program in sight. The steps on the loop's record are turned after the kit's law wpIn_rangeFunc_ownG.) -/
namespace Go.Proofs.YtecbfegohdllbaaDoor
open Go.RowKit Go
set_option linter.unusedVariables false
/-- the iterator's word: at most N rounds, each told by its number -/
def SeqDown (F : Fence) (n : Nat) (P : Program) (g : Nat) (lb : Array Value) (encs : Nat → Array Value) (Kp : World → World → Prop) (N : Nat) (w0 : World) : Prop :=
  ∀ (l : Nat) (J Jx : Nat → World → Prop) (W : World), Below w0.heap.size w0 W →
    (∀ k W1, k < N → J k W1 → YieldAt F (n - 1) P l (encs k) W1 fun e W' => (e = .returned (.bool true) ∧ J (k + 1) W' ∧ Kp W1 W') ∨ (e = .returned (.bool false) ∧ Jx (k + 1) W')) →
    J 0 W →
    CallsIn F n P g (#[.func (.yield l) #[] #[]] ++ lb) W fun e W' => (∃ v, e = .returned v) ∧ (J N W' ∨ ∃ k, Jx k W')
/-- how the body may be left -/
def downPost (B : Nat) (Kp : World → World → Prop) (I Ix : Nat → World → Prop) (k : Nat) (W : World) : Exit → Act → World → Prop
  | .normal, _, W' => KeepsFrom B W W' ∧ Kp W W' ∧ I k W'
  | .ret, _, W' => KeepsFrom B W W' ∧ Ix k W'
  | .exit _, _, _ => False
  | .goto _, _, _ => False
  | .panic _, _, _ => False
  | .outgrown, _, _ => False
variable {F : Fence} {n : Nat} {P : Program}
theorem wpIn_rangeFunc_down {g : Operand} {ps : Array Tmp} {assign body : Code} {Q : Exit → Act → World → Prop} {a : Act} {w : World}
    (hro : F.round = none) (h1 : 1 ≤ n) {gf : Nat} {lb : Array Value} (hg : a.eval g = .func (.func gf) #[] lb) (hFg : F.fn gf) (eg : ∀ args w, (callFunc gf args).run P w = .ok (.enter gf args) w)
    {encs : Nat → Array Value} {Kp : World → World → Prop} {N : Nat} {w0 : World} (hseq : SeqDown F (n - 1) P gf lb encs Kp N w0)
    (hKt : ∀ {A B C : World}, Kp A B → Kp B C → Kp A C) (hKb : ∀ (W : World) (l : Nat) (o o' : Obj), w.heap.size ≤ l → W.heap[l]? = some o → o.isCells = false → o.isWalk = false → Kp W (W.putObj l o')) (hb0 : Below w0.heap.size w0 w) (hps : ∀ x, (encs x).size = ps.size)
    (I Ix : Nat → World → Prop) (hI : OwnFrom w.heap.size I) (hIx : OwnFrom w.heap.size Ix) (h0 : I 0 w) (Ax : Nat → Act → World → Prop) (hAx : ∀ x a', OwnFrom w.heap.size (fun (_ : Unit) W => Ax x a' W))
    (hassign : ∀ (l k : Nat) (W : World) (K : Act → World → Prop), k < N → I k W → (∀ a' W', KeepsFrom w.heap.size W W' → Kp W W' → I k W' → Ax k a' W' → K a' W') →
      assign.wpIn (F.inRound l) (n - 1 - 1) P (Exit.then K (fun _ _ _ => False)) { tmps := (ps.zip (encs k)).foldl (fun t (p, v) => t.setIfInBounds p v) a.tmps, defers := [] } W)
    (hbody : ∀ (l k : Nat) (a' : Act) (W : World), w.heap.size ≤ l → k < N → I k W → Ax k a' W → body.wpIn (F.inRound l) (n - 1 - 1) P (downPost w.heap.size Kp I Ix (k + 1) W) a' W)
    (hdone : ∀ (D : Nat) (W : World), w.heap.size ≤ D → I N W → W.heap[D]? = some (.deferred (some [])) → Q .normal { a with defers := { target := .collected D, args := #[] } :: a.defers } W)
    (hstop : ∀ (D k : Nat) (W : World), w.heap.size ≤ D → Ix k W → W.heap[D]? = some (.deferred (some [])) → Code.ret.wpIn F n P Q { a with defers := { target := .collected D, args := #[] } :: a.defers } W) :
    (Code.rangeFunc g ps assign body).wpIn F n P Q a w := by
  refine wpIn_rangeFunc ?_
  intro fn hfn
  rw [hro]
  obtain ⟨rec, hrec⟩ : ∃ rec : LoopState → Option Code → Loop, rec = fun st pe => { state := st, pending := pe, fn, tmps := a.tmps, params := ps, assign, body, defers := w.heap.size } := ⟨_, rfl⟩
  obtain ⟨W1, hW1⟩ : ∃ W1, (w.alloc (.deferred (some []))).alloc (.loop (rec .ready none)) = W1 := ⟨_, rfl⟩
  have hL1 : W1.heap[w.heap.size + 1]? = some (.loop (rec .ready none)) := by
    rw [← hW1]; have := World.alloc_heap_new (w.alloc (.deferred (some []))) (.loop (rec .ready none)); rwa [World.size_alloc] at this
  have hK1 : W1.heap[w.heap.size]? = some (.deferred (some [])) := by
    rw [← hW1]; exact (Below.heap_alloc _ _ _ (by simp)).trans (World.alloc_heap_new w _)
  have hI1 : I 0 W1 := by rw [← hW1]; exact hI.alloc _ (hI.alloc _ h0)
  have hb1 : Below w0.heap.size w0 W1 := by
    rw [← hW1]; exact hb0.trans ((((Below.refl _ w).alloc (Nat.le_refl _) _).alloc (by simp) _).mono hb0.size)
  refine ⟨w.heap.size + 1, [{ target := .collected w.heap.size, args := #[] }], W1, { target := .fn (.func gf) lb, args := #[.func (.yield (w.heap.size + 1)) #[] #[]] }, W1, gf,
    #[.func (.yield (w.heap.size + 1)) #[] #[]] ++ lb, W1, ?_, ?_, ?_, ?_, fun _ => h1, ?_⟩
  · rw [← hW1, hrec]; exact run_enterLoop_outer _ _ _ _ _
  · simp only [resolve, hg]
    simp [go_sem]
  · intro f' hf'; simp [Target.leads] at hf'; subst hf'; exact hFg
  · simp [invoke, go_sem, eg]
  · refine (hseq (w.heap.size + 1)
      (fun k W => I k W ∧ W.heap[w.heap.size + 1]? = some (.loop (rec .ready none)) ∧ W.heap[w.heap.size]? = some (.deferred (some [])))
      (fun k W => Ix k W ∧ W.heap[w.heap.size + 1]? = some (.loop (rec .done (some .ret))) ∧ W.heap[w.heap.size]? = some (.deferred (some [])))
      W1 hb1 ?_ ⟨hI1, hL1, hK1⟩).mono ?_
    · rintro k W hkN ⟨hi, hl, hk⟩
      have hlt : w.heap.size + 1 < W.heap.size := (Array.getElem?_eq_some_iff.1 hl).1
      have hy := run_yield (P := P) (args := encs k) hl (by rw [hrec]; exact hps k)
      rw [hrec] at hy
      refine ⟨fn, _, assign, body, hy, roundIn_of_wpIn hfn (hassign _ k W _ hkN hi ?_)⟩
      clear hy
      intro a' Wa hkfa hkpa hia hax
      replace hl := hkfa.same _ _ (by omega) hl rfl
      replace hk := hkfa.same _ _ (Nat.le_refl _) hk rfl
      replace hlt : w.heap.size + 1 < Wa.heap.size := (Array.getElem?_eq_some_iff.1 hl).1
      refine ⟨_, run_beginRound hl (by rw [hrec]), ?_⟩
      have hl2 : (Wa.putObj (w.heap.size + 1) (.loop { rec .ready none with state := .busy })).heap[w.heap.size + 1]? = some (.loop { rec .ready none with state := .busy }) := World.putObj_heap_same hlt
      have hk2 : (Wa.putObj (w.heap.size + 1) (.loop { rec .ready none with state := .busy })).heap[w.heap.size]? = some (.deferred (some [])) := (World.putObj_heap_other (by omega)).trans hk
      have hw2 : Kp Wa (Wa.putObj (w.heap.size + 1) (.loop { rec .ready none with state := .busy })) := hKb _ _ _ _ (by omega) hl rfl rfl
      refine wpIn_mono (hbody _ k a' _ (by omega) hkN (hI.putObj _ hia (by omega) hl rfl) ((hAx k a').putObj (s := ()) _ hax (by omega) hl rfl)) ?_
      have fin : ∀ (jump : Option Code) (W3 : World), KeepsFrom w.heap.size (Wa.putObj (w.heap.size + 1) (.loop { rec .ready none with state := .busy })) W3 →
          (Instr.endRound (w.heap.size + 1) jump).run P W3 = .ok (.bool jump.isNone) (W3.putObj (w.heap.size + 1) (.loop (rec (if jump.isNone then .ready else .done) jump))) ∧
          W3.heap[w.heap.size + 1]? = some (.loop { rec .ready none with state := .busy }) ∧
          (W3.putObj (w.heap.size + 1) (.loop (rec (if jump.isNone then .ready else .done) jump))).heap[w.heap.size + 1]? = some (.loop (rec (if jump.isNone then .ready else .done) jump)) ∧
          (W3.putObj (w.heap.size + 1) (.loop (rec (if jump.isNone then .ready else .done) jump))).heap[w.heap.size]? = some (.deferred (some [])) := fun jump W3 hk3 => by
        have hl3 := hk3.same _ _ (by omega) hl2 rfl
        have := run_endRound (P := P) jump hl3
        rw [hrec] at this ⊢
        exact ⟨this, by rw [hrec] at hl3; exact hl3, World.putObj_heap_same (Array.getElem?_eq_some_iff.1 hl3).1, (World.putObj_heap_other (by omega)).trans (hk3.same _ _ (Nat.le_refl _) hk2 rfl)⟩
      rintro e a3 W3 hp
      cases e with
      | normal =>
        obtain ⟨hk3, hkp3, hi3⟩ := hp
        obtain ⟨hr, hl3, hl4, hk4⟩ := fin none W3 hk3
        exact ⟨_, _, hr, .inl ⟨rfl, ⟨hI.putObj _ hi3 (by omega) hl3 rfl, hl4, hk4⟩, hKt hkpa (hKt (hKt hw2 hkp3) (hKb _ _ _ _ (by omega) hl3 rfl rfl))⟩⟩
      | ret =>
        obtain ⟨hk3, hi3⟩ := hp
        obtain ⟨hr, hl3, hl4, hk4⟩ := fin (some .ret) W3 hk3
        exact ⟨_, _, hr, .inr ⟨rfl, hIx.putObj _ hi3 (by omega) hl3 rfl, hl4, hk4⟩⟩
      | exit id => exact hp.elim
      | goto t => exact hp.elim
      | panic ch => exact hp.elim
      | outgrown => exact hp.elim
    · rintro e W2 ⟨⟨v, rfl⟩, (⟨hi, hl, hk⟩ | ⟨k, hi, hl, hk⟩)⟩
      · exact ⟨none, _, by have := run_endLoop (P := P) hl (by rw [hrec]; simp); rw [hrec] at this; exact this, hdone _ _ (Nat.le_refl _) (hI.putObj _ hi (by omega) hl rfl) ((World.putObj_heap_other (by omega)).trans hk)⟩
      · exact ⟨some .ret, _, by have := run_endLoop (P := P) hl (by rw [hrec]; simp); rw [hrec] at this; exact this, hstop _ k _ (Nat.le_refl _) (hIx.putObj _ hi (by omega) hl rfl) ((World.putObj_heap_other (by omega)).trans hk)⟩
end Go.Proofs.YtecbfegohdllbaaDoor
end
section
/- Layer 47 (log): slices.Backward of reports, Find: contracts. -/
namespace Go.Proofs.YtecbfegohdllbaaDoor
open Go.RowKit Go.Shelf
attribute [local go_sem] Oper.semAt_some
set_option linter.unusedVariables false
set_option linter.unusedSimpArgs false
theorem back_any (u : Value) (hu : u.oneCell' = true) (w : World) : Calls Tryd.prog 101 #[u] w fun e w' => e = .returned (.func (.func 108) #[] #[.pointer (some ⟨w.heap.size, 0, none⟩)]) ∧ w' = w.alloc (.cells #[u] 60) := by
  go_enter Tryd.func101, Tryd.ntmps101
  go_wp2
  go_ret
  exact ⟨rfl, rfl⟩
/-- the rounds' arguments: number k counts from the end -/
def backE (L : List (List Int)) (k : Nat) : Array Value := #[.int .i64 ((L.length - 1 - k : Nat) : Int), .agg (rcells (L.getD (L.length - 1 - k) zeroR))]
set_option maxRecDepth 100000 in
set_option maxHeartbeats 1000000 in
theorem back_down (n : Nat) (hn : 1 ≤ n) (u : Value) (L : List (List Int)) (Bn : Nat) (w : World) (hB : Bn < w.heap.size) (hc : w.cell? ⟨Bn, 0, none⟩ = some u) (hr : RRow w u L) (hl : ∀ Z ∈ L, Z.length = 11) (hm : L.length ≤ 1000) :
    SeqDown Fence.wide n Tryd.prog 108 #[.pointer (some ⟨Bn, 0, none⟩)] (backE L) (Below w.heap.size) L.length w := fun l J Jx W hW hY h0 => by
  have HY := hid hY
  have HL := hid hl
  have CC := hid (fun W (h : Below w.heap.size w W) => (h.cell (p := ⟨Bn, 0, none⟩) hB).trans hc)
  have RR := hid (fun W (h : Below w.heap.size w W) => rrow_later hr h)
  obtain ⟨a, c, rfl, ha, hcl⟩ := rrow_at hr hl
  obtain ⟨N, hN⟩ : ∃ N, N = L.length := ⟨_, rfl⟩
  have HN := hid hN
  rw [← hN] at ha hcl hm CC RR HY ⊢
  have HA := hid ha
  have hm' : (N : Int) ≤ 1000 := by omega
  have c0 := CC.out W hW
  clear hY hc hr hl hN ha
  refine callsIn_of_wp Tryd.func108 rfl trivial ?_ rfl
  simp only [Tryd.ntmps108, List.size_toArray, List.length_cons, List.length_nil, Nat.reduceAdd, Nat.reduceSub, Array.replicate_succ, Array.replicate_zero, List.push_toArray, List.append_toArray, List.nil_append, List.cons_append]
  gi_wp2
  gi_loopw [3] (fun i wr => ∃ k : Nat, k ≤ N ∧ i = .int .i64 ((N : Int) - 1 - k) ∧ J k wr ∧ Below w.heap.size w wr) (fun i _ => (intOf i + 1).toNat)
  case atStart => exact ⟨0, by omega, by simp, h0, hW⟩
  case round =>
    obtain ⟨k, hk, rfl, hJ, hb⟩ := hrel
    by_cases hlt : k < N
    · have c1 := CC.out wr hb
      obtain ⟨b, off, rfl⟩ := HA.out (by omega)
      obtain ⟨j, hj⟩ : ∃ j, j = N - 1 - k := ⟨_, rfl⟩
      have hjN : (N : Int) - 1 - k = j := by omega
      have hjl : j < L.length := by have := HN.out; omega
      have z1 : L[j]? = some L[j] := by simp [hjl]
      have CA := hid (rrow_cells (RR.out wr hb) z1)
      have HZL := hid (HL.out L[j] (List.getElem_mem hjl))
      obtain ⟨fn, tmps, assign, body, hy, hR⟩ := HY.out k _ hlt hJ
      have hE : backE L k = #[.int .i64 (j : Int), .agg (rcells L[j])] := by unfold backE; rw [← HN.out, ← hj, List.getD_eq_getElem?_getD, z1]; rfl
      rw [hE] at hy
      generalize L[j] = Z at *
      replace hy : (Instr.yield l #[.int .i64 (j : Int), .agg (rcells Z)]).run Tryd.prog _ = _ := hy
      have HR := hid hR
      rw [hjN]
      have hj0 : (j : Int) < N := by omega
      have HJK := hid (show k + j + 1 = N by omega)
      clear hR z1 hE hjl hj hjN c0
      gi_wp2_with ((with_reducible refine at_opIn (.load 50 (.tmp 15)) ?_); refine opIn_wide rfl (fun K hK => ?_); unfold Oper.wp; rw [exec_load_part (.tmp 15) rfl ⟨b, off + j * 11, none⟩ rfl Z HZL.out (by intro i x hj; rw [add_plain]; exact CA.out i x hj _ (by omega))]; refine hK _ _ ?_)
      refine HR.out.mono ?_
      rintro e W3 (⟨rfl, hJ3, hk3⟩ | ⟨rfl, hJx3⟩)
      · gi_wp2
        go_roundw
        case rel =>
          first
          | exact ⟨k + 1, by omega, by have := HJK.out; congr 1; go_num, hJ3, hb.trans hk3⟩
          | (refine ⟨_, ⟨k + 1, by omega, ?_, hJ3, hb.trans hk3⟩⟩; have := HJK.out; congr 1; go_num)
        case measure => first | (simp [intOf]; done) | (simp [intOf]; have := HJK.out; omega)
      · gi_wp2
        refine bodyPost_ret (results_none rfl _ _ _) rfl ?_
        exact ⟨⟨_, rfl⟩, .inr ⟨_, hJx3⟩⟩
    · obtain rfl : k = N := by omega
      gi_wp2
      go_end0
      exact ⟨⟨_, rfl⟩, .inl hJ⟩
end Go.Proofs.YtecbfegohdllbaaDoor
end
section
/- Layer 47 (log): Find: a contract. -/
namespace Go.Proofs.YtecbfegohdllbaaDoor
open Go.RowKit Go.Shelf
attribute [local go_sem] Oper.semAt_some
set_option linter.unusedVariables false
set_option linter.unusedSimpArgs false
theorem findL_wf11 {L : List (List Int)} {s : Int} (h : ∀ Z ∈ L, Z.length = 11) : (findL L s).1.length = 11 := by
  unfold findL
  split
  · rename_i Z hZ
    exact h Z (by simpa using List.mem_of_find?_eq_some hZ)
  · rfl
theorem drop_back {L : List (List Int)} {s : Int} {k : Nat} (hk : k < L.length) (h : ∀ Z ∈ L.drop (L.length - k), Z.getD 1 0 ≠ s) (hz : (L.getD (L.length - 1 - k) zeroR).getD 1 0 ≠ s) : ∀ Z ∈ L.drop (L.length - (k + 1)), Z.getD 1 0 ≠ s := by
  have hj : L.length - (k + 1) < L.length := by omega
  rw [List.drop_eq_getElem_cons hj, show L.length - (k + 1) + 1 = L.length - k by omega]
  intro Z hZ
  rcases List.mem_cons.1 hZ with e | e
  · have e2 : L.getD (L.length - 1 - k) zeroR = L[L.length - (k + 1)] := by
      rw [show L.length - 1 - k = L.length - (k + 1) by omega, List.getD_eq_getElem?_getD, List.getElem?_eq_getElem hj]; rfl
    rw [e2] at hz
    rw [e]; exact hz
  · exact h Z e
theorem keeps_setRow (N : Nat) (W : World) (g : Nat) (cs old : Array Value) (t : TypeId) (fr : Nat × Nat) (hg : W.heap[g]? = some (.cells old t fr)) : KeepsFrom N W (W.setRow g cs) :=
  ⟨by simp, fun k o _ hk ho => by
    refine (setRow_other _ _ _ _ (fun e => ?_)).trans hk
    subst e
    rw [hg] at hk
    obtain rfl := Option.some.inj hk
    cases ho⟩
/-- what lies between two rounds: the place for the report, the place for the truth, the number -/
def FnI (h : Nat) (w : World) (s : Int) (Z : List Int) (b : Bool) (W : World) : Prop :=
  W.heap[h]? = some (.cells #[.int .i64 s] 3 (0, 0)) ∧ W.heap[h + 1]? = some (.cells (rcells Z) 50 (0, 0)) ∧ W.heap[h + 2]? = some (.cells #[.bool b] 4 (0, 0)) ∧ Below h w W
theorem fnI_own {h : Nat} {w : World} {s : Int} {b : Bool} {B : Nat} (hw : h ≤ w.heap.size) (hB : h ≤ B) : OwnFrom B (fun (Z : List Int) W => FnI h w s Z b W) := by
  rintro Z W W' row ⟨a, b, c, d⟩ hg hr
  have hr' : ∀ r, row = some r → ∃ o : Obj, W.heap[r]? = some o ∧ o.isCells = false := fun r e => (hr r e).2
  exact ⟨blk_kept a hg hr', blk_kept b hg hr', blk_kept c hg hr', d.trans ((Below.refl _ W).grown hg (Nat.le_trans hw d.size) (fun k e => Nat.le_trans hB (hr k e).1))⟩
set_option maxRecDepth 100000 in
set_option maxHeartbeats 2000000 in
theorem lfind_of (p : Value) (L : List (List Int)) (s : Int) (w : World) (hall : ∀ W, Below w.heap.size w W → Calls Tryd.prog 57 #[p] W fun e w' => ∃ u, e = .returned u ∧ Below W.heap.size W w' ∧ Rows' W.heap.size w' u L) (hl11 : ∀ Z ∈ L, Z.length = 11) (hln : L.length ≤ 1000) :
    Calls Tryd.prog 80 #[p, .int .i64 s] w fun e w' => e = .returned (.tuple #[.agg (rcells (findL L s).1), .bool (findL L s).2]) ∧ Below w.heap.size w w' := by
  have HLG := hid hall
  have HL11 := hid hl11
  have HLN := hid hln
  clear hall hl11 hln
  refine callsIn_wide.1 (?_ : CallsIn Fence.wide 10 _ _ _ _ _)
  refine callsIn_of_wp_marks Tryd.func80 rfl trivial ?_ rfl
  simp only [Tryd.ntmps80, List.size_toArray, List.length_cons, List.length_nil, Nat.reduceAdd, Nat.reduceSub, Array.replicate_succ, Array.replicate_zero, List.push_toArray, List.append_toArray, List.nil_append, List.cons_append]
  gi_wp2_with fail
  rw [show (#[.int .i64 0, .int .i64 0, .int .i64 0, .int .i64 0, .int .i32 0, .int .i32 0, .int .i32 0, .int .i32 0, .int .i32 0, .int .i32 0, .int .i32 0] : Array Value) = rcells zeroR from rfl]
  obtain ⟨os, hos⟩ : ∃ os : List Obj, os = [.cells #[.int .i64 s] 3, .cells (rcells zeroR) 50, .cells #[.bool false] 4] := ⟨_, rfl⟩
  have hnew := fun i (hi : i < os.length) => allocs_new os w i hi
  have hsz := allocs_size os w
  have hbel := allocs_below os w w (Below.refl _ w)
  have hol : os.length = 3 := by rw [hos]; rfl
  have k0 := hnew 0 (by omega)
  have k1 := hnew 1 (by omega)
  have k2 := hnew 2 (by omega)
  have hWe : ((w.alloc (.cells #[.int .i64 s] 3)).alloc (.cells (rcells zeroR) 50)).alloc (.cells #[.bool false] 4) = allocs w os := by rw [hos]; rfl
  rw [hWe]
  generalize allocs w os = W0 at *
  rw [hol] at hsz
  simp only [hos, List.getElem?_cons_zero, List.getElem?_cons_succ, Nat.add_zero] at k0 k1 k2
  clear hnew hol hos hWe
  refine ⟨trivial, ?_⟩
  refine (callsIn_wide.2 (HLG.out W0 hbel)).mono ?_
  rintro e w6 ⟨u, rfl, hb6, hrow⟩
  obtain ⟨ua, uc, rfl⟩ := own_slice hrow
  have hB6 : Below w.heap.size w w6 := hbel.trans (hb6.mono hbel.size)
  have q0 := (hb6.block w.heap.size (by omega)).trans k0
  have q1 := (hb6.block (w.heap.size + 1) (by omega)).trans k1
  have q2 := (hb6.block (w.heap.size + 2) (by omega)).trans k2
  have hs6 : w.heap.size + 3 ≤ w6.heap.size := by have := hb6.size; omega
  have HRR := hid (rrow_of_rows hrow HL11.out)
  clear hbel hb6 k0 k1 k2 hrow hsz
  gi_wp2_with (refine ⟨trivial, ?_⟩; gi_at_call 101; refine (callsIn_wide.2 (back_any _ rfl _)).mono ?_; rintro e w' ⟨rfl, rfl⟩)
  have q30 := (Below.heap_alloc w6 (.cells #[.slice ua L.length uc] 60) w.heap.size (by omega)).trans q0
  have q31 := (Below.heap_alloc w6 (.cells #[.slice ua L.length uc] 60) (w.heap.size + 1) (by omega)).trans q1
  have q32 := (Below.heap_alloc w6 (.cells #[.slice ua L.length uc] 60) (w.heap.size + 2) (by omega)).trans q2
  have q33 := heap_alloc_new w6 (.cells #[.slice ua L.length uc] 60)
  have hb7 := (Below.refl _ w6).alloc (Nat.le_refl _) (.cells #[.slice ua L.length uc] 60)
  have hsz7 : (w6.alloc (.cells #[.slice ua L.length uc] 60)).heap.size = w6.heap.size + 1 := by simp
  have HRR7 := hid (rrow_later HRR.out hb7)
  have hB7 := hB6.trans (hb7.mono (by omega))
  generalize hh : w.heap.size = h at *
  obtain ⟨w7, hw7⟩ : ∃ w7, w7 = w6.alloc (.cells #[.slice ua L.length uc] 60) := ⟨_, rfl⟩
  rw [← hw7] at q30 q31 q32 q33 hsz7 HRR7 hB7 ⊢
  obtain ⟨N, hN⟩ : ∃ N, N = L.length := ⟨_, rfl⟩
  have HN := hid hN
  have cB : w7.cell? ⟨w6.heap.size, 0, none⟩ = some (.slice ua L.length uc) := (cell_of_row w7 _ 0 _ _ _ q33).trans rfl
  have BD := back_down 9 (by decide) _ L w6.heap.size w7 (by omega) cB HRR7.out HL11.out HLN.out
  clear hB6 q0 q1 q2 HRR hb7 hw7 HLG cB q33 hN
  generalize hbb : w6.heap.size = Bb at *
  refine wpIn_rangeFunc_down (F := Fence.wide) (n := 10) rfl (by decide) (gf := 108) (lb := #[.pointer (some ⟨Bb, 0, none⟩)]) rfl trivial (enters_of Tryd.func108 (by kernel_rfl) rfl)
    BD (fun h k => h.trans k) (fun W l o o' hl ho h1 h2 => belowK_b (w := w7) (Nat.le_refl _) W l o o' hl ho h1 h2) (Below.refl _ _) (fun _ => rfl)
    (fun k W => FnI h w s zeroR false W ∧ w7.heap.size ≤ W.heap.size ∧ ∀ Z ∈ L.drop (L.length - k), Z.getD 1 0 ≠ s)
    (fun k W => ∃ Z, FnI h w s Z true W ∧ findL L s = (Z, true))
    ?hI ?hIx ⟨⟨q30, q31, q32, hB7⟩, Nat.le_refl _, by simp⟩
    (fun k a' W => ∃ bx, w7.heap.size ≤ bx ∧ RB bx (L.getD (L.length - 1 - k) zeroR) W ∧ a' = { tmps := #[p, .int .i64 s, undef, .pointer (some ⟨h, 0, none⟩), .pointer (some ⟨h + 1, 0, none⟩), .pointer (some ⟨h + 2, 0, none⟩), undef, .pointer (some ⟨bx, 0, none⟩), p, .slice ua L.length uc, .func (.func 108) #[] #[.pointer (some ⟨Bb, 0, none⟩)], .int .i64 ((L.length - 1 - k : Nat) : Int), .agg (rcells (L.getD (L.length - 1 - k) zeroR)), undef, undef, undef, undef, undef, undef], defers := [] })
    ?hAx ?assign ?body ?done ?stop
  case hI =>
    rintro k A B row ⟨h1, h2, h3⟩ hg hr
    exact ⟨fnI_own (by omega) (by omega) zeroR A B row h1 hg hr, Nat.le_trans h2 hg.size, h3⟩
  case hIx =>
    rintro k A B row ⟨Z, h1, h2⟩ hg hr
    exact ⟨Z, fnI_own (by omega) (by omega) Z A B row h1 hg hr, h2⟩
  case hAx =>
    rintro k a' _ A B row ⟨bx, h1, h2, h3⟩ hg hr
    have hr' : ∀ r, row = some r → ∃ o : Obj, A.heap[r]? = some o ∧ o.isCells = false := fun r e => (hr r e).2
    exact ⟨bx, h1, blk_kept h2 hg hr', h3⟩
  case assign =>
    intro l k W K hk hi hKK
    have hjl : L.length - 1 - k < L.length := by omega
    have HZL := hid (show (L.getD (L.length - 1 - k) zeroR).length = 11 from by rw [List.getD_eq_getElem?_getD, List.getElem?_eq_getElem hjl]; exact HL11.out _ (List.getElem_mem hjl))
    unfold backE
    generalize L.getD (L.length - 1 - k) zeroR = Z at *
    generalize L.length - 1 - k = j at *
    simp [Array.zip, -Array.size_zipWith]
    gi_wp2_with (first | ((with_reducible refine at_opIn (.alloc 50) ?_); refine opIn_round (by intro c h; cases h) rfl (fun K hK => ?_); refine wp_alloc_rep rfl ?_; intro g8 w8 hg8 hR8 hb8; have hl8 : W.heap.size ≤ g8 := Nat.le_of_eq hg8.symm; clear hg8; refine hK _ _ ?_) | ((with_reducible refine at_opIn (.store 50 (.tmp 7) (.tmp 12)) ?_); refine opIn_round (by intro c h; cases h) rfl (fun K hK => ?_); refine wp_store_rep (.tmp 7) (.tmp 12) rfl g8 W.heap.size Z zeroR HZL.out rfl rfl rfl hR8 hl8 ?_; intro w9 hR9 hb9; refine hK _ _ ?_))
    have hb89 := hb8.trans (hb9.mono (Nat.le_refl _))
    obtain ⟨⟨i1, i2, i3, i4⟩, i5, i6⟩ := hi
    have hn := fun n (hn : n < w7.heap.size) => hb89.block n (by omega)
    exact hKK _ _ (keeps_of_below hb89) (hb89.mono i5) ⟨⟨(hn _ (by omega)).trans i1, (hn _ (by omega)).trans i2, (hn _ (by omega)).trans i3, i4.trans (hb89.mono (by omega))⟩, Nat.le_trans i5 hb89.size, i6⟩ ⟨g8, by omega, hR9, rfl⟩
  case body =>
    rintro l k a' W hl hk ⟨⟨p3, p4, p5, pb⟩, hsz, hno⟩ ⟨bx, hbx, hRx, rfl⟩
    have hjl : L.length - 1 - k < L.length := by omega
    have HZL := hid (show (L.getD (L.length - 1 - k) zeroR).length = 11 from by rw [List.getD_eq_getElem?_getD, List.getElem?_eq_getElem hjl]; exact HL11.out _ (List.getElem_mem hjl))
    have HNO := hid (fun hz => drop_back hk hno hz)
    have HAT := hid (fun hs => findL_at (L := L) (s := s) (i := L.length - 1 - k) (Z := L.getD (L.length - 1 - k) zeroR) (by rw [List.getD_eq_getElem?_getD, List.getElem?_eq_getElem hjl]; rfl) hs (by rw [show L.length - 1 - k + 1 = L.length - k by omega]; exact hno))
    have HP := hid pb
    have cz := RB.cell hRx 1 (show (rcells (L.getD (L.length - 1 - k) zeroR))[1]? = some (.int .i64 ((L.getD (L.length - 1 - k) zeroR).getD 1 0)) from by rw [← Array.getElem?_toList]; exact rep_seq HZL.out)
    have cs : W.cell? ⟨h, 0, none⟩ = some (.int .i64 s) := (cell_of_row W _ 0 _ _ _ p3).trans rfl
    have c5 : W.cell? ⟨h + 2, 0, none⟩ = some (.bool false) := (cell_of_row W _ 0 _ _ _ p5).trans rfl
    have f5 := frozen_of_row W (h + 2) 0 _ _ p5
    clear hno pb hjl BD
    generalize L.getD (L.length - 1 - k) zeroR = Z at *
    generalize L.length - 1 - k = j at *
    by_cases hz : Z.getD 1 0 = s
    · have HF := hid (HAT.out hz)
      rw [hz] at cz
      clear HAT HNO
      gi_wp2_with (first | ((with_reducible refine at_opIn (.load 50 (.tmp 7)) ?_); refine opIn_round (by intro c h; cases h) rfl (fun K hK => ?_); refine wp_load_row 50 (.tmp 7) rfl bx rfl _ _ _ _ hRx Tryd.underlying50 rfl (by rw [rcells_size _ HZL.out]; kernel_rfl) (hK _ _ ?_)) | ((with_reducible refine at_opIn (.store 50 (.tmp 4) (.tmp 17)) ?_); refine opIn_round (by intro c h; cases h) rfl (fun K hK => ?_); refine wp_store_row 50 (.tmp 4) (.tmp 17) rfl (h + 1) (rcells Z) rfl rfl _ _ p4 (by rw [rcells_size _ HZL.out]; kernel_rfl) (by rw [rcells_size _ HZL.out]; rfl) (rcells_one Z) (hK _ _ ?_); (have c5s := (cell_setRow_other W (h + 1) (rcells Z) ⟨h + 2, 0, none⟩ (by simp)).trans c5); (have f5s : (W.setRow (h + 1) (rcells Z)).frozen? ⟨h + 2, 0, none⟩ = false := frozen_of_row _ (h + 2) 0 _ _ ((setRow_other W (h + 1) (h + 2) (rcells Z) (by omega)).trans p5))))
      show KeepsFrom _ W _ ∧ _
      refine ⟨(keeps_setRow _ W (h + 1) _ _ _ _ p4).trans ((KeepsOthers.setCell _ _ _).from _), Z, ⟨?_, ?_, ?_, ?_⟩, HF.out⟩
      · exact (Below.heap_setCell _ _ _ h (by simp)).trans ((setRow_other _ _ _ _ (by omega)).trans p3)
      · exact (Below.heap_setCell _ _ _ (h + 1) (by simp)).trans (setRow_heap _ _ _ _ _ _ p4)
      · have := (setRow_other W (h + 1) (h + 2) (rcells Z) (by omega)).trans p5
        simp [World.setCell, Array.getElem?_modify, this]
      · exact (below_setRow HP.out (by omega) _).setCell (p := ⟨h + 2, 0, none⟩) (by simp) _
    · have HF := hid (HNO.out hz)
      clear HAT HNO
      generalize Z.getD 1 0 = z at cz hz
      gi_wp2_with fail
      exact ⟨KeepsFrom.refl _ _, Below.refl _ _, ⟨p3, p4, p5, HP.out⟩, hsz, HF.out⟩
  case done =>
    rintro D W hD ⟨⟨p3, p4, p5, pb⟩, hsz, hno⟩ hKD
    have HF := hid (show findL L s = (zeroR, false) from findL_none (by simpa using hno))
    have c5 : W.cell? ⟨h + 2, 0, none⟩ = some (.bool false) := (cell_of_row W _ 0 _ _ _ p5).trans rfl
    have f5 := frozen_of_row W (h + 2) 0 _ _ p5
    have HP := hid pb
    clear hno pb BD
    gi_wp2_with ((with_reducible refine at_opIn (.store 50 (.tmp 4) (.tmp 18)) ?_); refine opIn_wide rfl (fun K hK => ?_); refine wp_store_row 50 (.tmp 4) (.tmp 18) rfl (h + 1) (rcells zeroR) rfl rfl _ _ p4 (by rw [rcells_size _ rfl]; kernel_rfl) rfl (rcells_one zeroR) (hK _ _ ?_); (have c5s := (cell_setRow_other W (h + 1) (rcells zeroR) ⟨h + 2, 0, none⟩ (by simp)).trans c5); (have f5s : (W.setRow (h + 1) (rcells zeroR)).frozen? ⟨h + 2, 0, none⟩ = false := frozen_of_row _ (h + 2) 0 _ _ ((setRow_other W (h + 1) (h + 2) (rcells zeroR) (by omega)).trans p5)))
    have hKD2 : ((W.setRow (h + 1) (rcells zeroR)).setCell ⟨h + 2, 0, none⟩ (.bool false)).heap[D]? = some (.deferred (some [])) := (Below.heap_setCell _ _ _ D (by simp; omega)).trans ((setRow_other _ _ _ _ (by omega)).trans hKD)
    refine ⟨by simp, .inl ⟨_, _, rfl, run_takeDeferred hKD2, ?_⟩⟩
    have e4 : (((W.setRow (h + 1) (rcells zeroR)).setCell ⟨h + 2, 0, none⟩ (.bool false)).putObj D (.deferred none)).heap[h + 1]? = some (.cells (rcells zeroR) 50 (0, 0)) := (World.putObj_heap_other (by omega)).trans ((Below.heap_setCell _ _ _ (h + 1) (by simp)).trans (setRow_heap _ _ _ _ _ _ p4))
    have e5 : (((W.setRow (h + 1) (rcells zeroR)).setCell ⟨h + 2, 0, none⟩ (.bool false)).putObj D (.deferred none)).heap[h + 2]? = some (.cells #[.bool false] 4 (0, 0)) := (World.putObj_heap_other (by omega)).trans (by have := (setRow_other W (h + 1) (h + 2) (rcells zeroR) (by omega)).trans p5; simp [World.setCell, Array.getElem?_modify, this])
    have hbl : Below h w (((W.setRow (h + 1) (rcells zeroR)).setCell ⟨h + 2, 0, none⟩ (.bool false)).putObj D (.deferred none)) := ((below_setRow HP.out (by omega) _).setCell (p := ⟨h + 2, 0, none⟩) (by simp) _).trans ((Below.refl _ _).grown (grownBy_putObj' _ D (.deferred none)) (by simp; omega) (fun k e => by cases e; omega))
    generalize ((W.setRow (h + 1) (rcells zeroR)).setCell ⟨h + 2, 0, none⟩ (.bool false)).putObj D (.deferred none) = W2 at *
    have lv := run_loadVar_row (P := Tryd.prog) W2 (h + 1) _ 50 _ _ _ e4 Tryd.underlying50 rfl (by rw [rcells_size _ (rfl)]; kernel_rfl)
    have t5 : W2.cell? ⟨h + 2, 0, none⟩ = some (.bool false) := (cell_of_row W2 _ 0 _ _ _ e5).trans rfl
    have lv5 : (loadVar 4 ⟨h + 2, 0, none⟩).run Tryd.prog W2 = .ok (.bool false) W2 := by simp [go_sem, t5]
    exact ⟨.tuple #[.agg (rcells zeroR), .bool false], by simp [results, Tryd.results80, asAddr, lv, lv5], by rw [HF.out], by rw [hh]; exact hbl⟩
  case stop =>
    rintro D k W hD ⟨Z, ⟨p3, p4, p5, pb⟩, hf⟩ hKD
    have HF := hid hf
    have HZ11 := hid (show Z.length = 11 from by have := findL_wf11 (s := s) HL11.out; rw [hf] at this; exact this)
    have HP := hid pb
    clear hf pb BD
    gi_wp2
    have hKD2 : W.heap[D]? = some (.deferred (some [])) := hKD
    refine ⟨by simp, .inl ⟨_, _, rfl, run_takeDeferred hKD2, ?_⟩⟩
    have e4 : (W.putObj D (.deferred none)).heap[h + 1]? = some (.cells (rcells Z) 50 (0, 0)) := (World.putObj_heap_other (by omega)).trans p4
    have e5 : (W.putObj D (.deferred none)).heap[h + 2]? = some (.cells #[.bool true] 4 (0, 0)) := (World.putObj_heap_other (by omega)).trans p5
    have hbl : Below h w (W.putObj D (.deferred none)) := (HP.out).trans ((Below.refl _ _).grown (grownBy_putObj' _ D (.deferred none)) (by have := HP.out.size; omega) (fun k e => by cases e; omega))
    generalize W.putObj D (.deferred none) = W2 at *
    have lv := run_loadVar_row (P := Tryd.prog) W2 (h + 1) _ 50 _ _ _ e4 Tryd.underlying50 rfl (by rw [rcells_size _ (HZ11.out)]; kernel_rfl)
    have t5 : W2.cell? ⟨h + 2, 0, none⟩ = some (.bool true) := (cell_of_row W2 _ 0 _ _ _ e5).trans rfl
    have lv5 : (loadVar 4 ⟨h + 2, 0, none⟩).run Tryd.prog W2 = .ok (.bool true) W2 := by simp [go_sem, t5]
    exact ⟨.tuple #[.agg (rcells Z), .bool true], by simp [results, Tryd.results80, asAddr, lv, lv5], by rw [HF.out], by rw [hh]; exact hbl⟩
theorem lfind_any {M g room f : Nat} {ring : Value} {R : List (List Int)} (s : Int) (w : World) (h : LG M g room ring R f w) :
    Calls Tryd.prog 80 #[.pointer (some ⟨g, 0, none⟩), .int .i64 s] w fun e w' => e = .returned (.tuple #[.agg (rcells (findL (ringL R f) s).1), .bool (findL (ringL R f) s).2]) ∧ Below w.heap.size w w' := by
  refine lfind_of _ (ringL R f) s w (fun W hW => lall_any W (h.below hW)) (fun Z hZ => ?_) ?_
  · rcases List.mem_append.1 hZ with h1 | h1
    · exact (h.2.2.2.2.1 Z (List.mem_of_mem_drop h1)).1.1
    · exact (h.2.2.2.2.1 Z (List.mem_of_mem_take h1)).1.1
  · have h1 : (ringL R f).length ≤ R.length := by simp [ringL]; omega
    have := h.2.2.2.2.2.2.2.1; have := h.2.2.2.2.2.2.1; omega
theorem lfind_nil (s : Int) (w : World) : Calls Tryd.prog 80 #[.pointer none, .int .i64 s] w fun e w' => e = .returned (.tuple #[.agg (rcells zeroR), .bool false]) ∧ Below w.heap.size w w' := by
  have h := lfind_of (.pointer none) [] s w (fun W hW => (lall_nil W).mono (by rintro e w' ⟨rfl, rfl⟩; exact ⟨_, rfl, Below.refl _ _, World.ownsRow_nil _ _ _ _⟩)) (fun Z hZ => by cases hZ) (by decide)
  exact h
theorem lfind_odd (g : Nat) (x y : Value) (s : Int) (w : World) (hg : w.heap[g]? = some (.cells #[.int .i64 0, x, y] 117 (0, 0))) : Calls Tryd.prog 80 #[.pointer (some ⟨g, 0, none⟩), .int .i64 s] w fun e w' => e = .returned (.tuple #[.agg (rcells zeroR), .bool false]) ∧ Below w.heap.size w w' := by
  have h := lfind_of (.pointer (some ⟨g, 0, none⟩)) [] s w (fun W hW => (lall_odd g x y W ((hW.block g (lt_of_row hg)).trans hg)).mono (by rintro e w' ⟨rfl, rfl⟩; exact ⟨_, rfl, Below.refl _ _, World.ownsRow_nil _ _ _ _⟩)) (fun Z hZ => by cases hZ) (by decide)
  exact h
end Go.Proofs.YtecbfegohdllbaaDoor
end
section
/- Layer 47 (log): the document's short numbers: a contract. -/
namespace Go.Proofs.YtecbfegohdllbaaDoor
open Go.RowKit
set_option linter.unusedVariables false
set_option linter.unusedSimpArgs false
set_option maxRecDepth 100000 in
set_option maxHeartbeats 1000000 in
theorem rshort_any (x : Int) (w : World) (hx : -2147483648 ≤ x ∧ x ≤ 2147483647) :
    Calls Tryd.prog 86 #[.int .i32 x] w fun e w' => ∃ u, e = .returned u ∧ Below w.heap.size w w' ∧ w'.ownsRow w.heap.size 5 1 u (shortL (zig x)).length ((shortL (zig x)).map (Value.int .u8)) := by
  obtain ⟨i0, hi, hz0, hz1, hz2⟩ := info_parts Tryd.infoU8
  obtain ⟨x1, x2⟩ := hx
  have hzb : zig x < 4294967296 := (zig_eq x x1 x2).2
  have HSL := hid (shortL_len 4 (zig x) (by omega))
  obtain ⟨z0, hzz⟩ : ∃ z0, zig x = z0 := ⟨_, rfl⟩
  have HZZ := hid hzz
  have HLOOP : ∀ (d : Int), zig x = z0 → True := fun _ _ => trivial
  rw [hzz] at hzb HSL
  have HZ0 := hid hzb
  go_enter Tryd.func86, Tryd.ntmps86
  by_cases hneg : x < 0
  · have hz1' : -2 * x - 1 = (z0 : Int) := by unfold zig at hzz; rw [if_pos hneg] at hzz; omega
    clear hzz HLOOP hzb
    go_wp2_with fail
    clear hz1'
    go_loopw [3, 4] (fun t b wr => ∃ (z : Nat) (pre : List Int), t = .int .i64 z ∧ z < 4294967296 ∧ shortL z0 = pre ++ shortL z ∧ wr.ownsRow w.heap.size 5 1 b pre.length (pre.map (Value.int .u8)) ∧ Below w.heap.size w wr) (fun t _ _ => (intOf t).toNat)
    case atStart => exact ⟨z0, [], rfl, HZ0.out, rfl, World.ownsRow_nil _ _ _ _, Below.refl _ _⟩
    case round =>
      obtain ⟨z, pre, rfl, hz, hsp, hown, hb⟩ := hrel
      have HOW := hid hown
      have HB := hid hb
      have HSZ := hid hb.size
      have HSP := hid hsp
      have hpl : pre.length ≤ 5 := by have := congrArg List.length hsp; have := HSL.out; rw [List.length_append] at *; omega
      have HPL := hid hpl
      have HZB := hid hz
      clear hown hsp hb hpl hz
      by_cases h : z < 128
      · have h' : (z : Int) < 128 := by omega
        have hm : (z : Int) % 256 = z := by omega
        have HSP' := hid (show shortL z0 = pre ++ [(z : Int)] by rw [HSP.out, shortL_lt h])
        go_wp2_with (at_builtin; refine wpList_append_own_at _ rfl _ _ 22 rfl w.heap.size 5 i0 (.int .u8 0) 1 1 Tryd.underlying22 hi hz0 hz1 hz2 rfl (by decide) _ _ _ rfl (HOW.out.alloc _) ⟨wr.heap.size, 0, none⟩ 1 1 [.int .u8 ((z : Int))] rfl rfl (cell_one_new wr _ _) ?c4 ?c5 ?c6 ?c7 ?_)
        case c4 => first | rfl | (intro u hu; simp at hu; subst hu; rfl)
        case c5 => (have := HPL.out; simp [maxLen]; omega)
        case c6 => (have := HPL.out; omega)
        case c7 => (have := HSZ.out; first | omega | (simp; omega))
        intro v5 w5 hown5 hg5 _ hl5
        have hB5 : Below w.heap.size w w5 := (HB.out.alloc HSZ.out (.cells #[.int .u8 ((z : Int))] 5)).grown hg5 (by have := HSZ.out; simp; omega) (fun k e => (HOW.out.lt k e).1)
        have HOW5 := hid (show w5.ownsRow w.heap.size 5 1 v5 (shortL z0).length ((shortL z0).map (Value.int .u8)) by
          rw [HSP'.out, List.length_append, List.map_append]
          simpa [Nat.add_assoc] using hown5)
        have HB5 := hid hB5
        clear hown5 hg5 hl5 hB5
        go_wp2
        go_ret
        exact ⟨_, rfl, HB5.out, by rw [HZZ.out]; exact HOW5.out⟩
      · have h' : ¬ (z : Int) < 128 := by omega
        have h0 : (128 : Int) ≤ z := by omega
        have HW := hid (show wrap64 ((z : Int) / 128) = ((z / 128 : Nat) : Int) by unfold wrap64; have := HZB.out; omega)
        go_wp2_with (at_builtin; refine wpList_append_own_at _ rfl _ _ 22 rfl w.heap.size 5 i0 (.int .u8 0) 1 1 Tryd.underlying22 hi hz0 hz1 hz2 rfl (by decide) _ _ _ rfl (HOW.out.alloc _) ⟨wr.heap.size, 0, none⟩ 1 1 [.int .u8 (((128 + z % 128 : Nat) : Int))] rfl rfl (cell_one_new wr _ _) ?c4 ?c5 ?c6 ?c7 ?_)
        case c4 => first | rfl | (intro u hu; simp at hu; subst hu; rfl)
        case c5 => (have := HPL.out; simp [maxLen]; omega)
        case c6 => (have := HPL.out; omega)
        case c7 => (have := HSZ.out; first | omega | (simp; omega))
        intro v5 w5 hown5 hg5 _ hl5
        have hB5 : Below w.heap.size w w5 := (HB.out.alloc HSZ.out (.cells #[.int .u8 (((128 + z % 128 : Nat) : Int))] 5)).grown hg5 (by have := HSZ.out; simp; omega) (fun k e => (HOW.out.lt k e).1)
        have HOW5 := hid (show w5.ownsRow w.heap.size 5 1 v5 (pre ++ [((128 + z % 128 : Nat) : Int)]).length ((pre ++ [((128 + z % 128 : Nat) : Int)]).map (Value.int .u8)) by
          rw [List.length_append, List.map_append]
          simpa [Nat.add_assoc] using hown5)
        have HSP5 := hid (show shortL z0 = (pre ++ [((128 + z % 128 : Nat) : Int)]) ++ shortL (z / 128) by
          rw [HSP.out, shortL_ge h]; simp)
        have HB5 := hid hB5
        clear hown5 hg5 hl5 hB5
        go_wp2_with fail
        rw [HW.out]
        go_roundw
        case rel => exact ⟨z / 128, pre ++ [((128 + z % 128 : Nat) : Int)], by go_num, by have := HZB.out; omega, HSP5.out, HOW5.out, HB5.out⟩
        case measure => simp [intOf]; omega
  · have hz1' : 2 * x = (z0 : Int) := by unfold zig at hzz; rw [if_neg hneg] at hzz; omega
    clear hzz HLOOP hzb
    go_wp2_with fail
    clear hz1'
    go_loopw [3, 4] (fun t b wr => ∃ (z : Nat) (pre : List Int), t = .int .i64 z ∧ z < 4294967296 ∧ shortL z0 = pre ++ shortL z ∧ wr.ownsRow w.heap.size 5 1 b pre.length (pre.map (Value.int .u8)) ∧ Below w.heap.size w wr) (fun t _ _ => (intOf t).toNat)
    case atStart => exact ⟨z0, [], rfl, HZ0.out, rfl, World.ownsRow_nil _ _ _ _, Below.refl _ _⟩
    case round =>
      obtain ⟨z, pre, rfl, hz, hsp, hown, hb⟩ := hrel
      have HOW := hid hown
      have HB := hid hb
      have HSZ := hid hb.size
      have HSP := hid hsp
      have hpl : pre.length ≤ 5 := by have := congrArg List.length hsp; have := HSL.out; rw [List.length_append] at *; omega
      have HPL := hid hpl
      have HZB := hid hz
      clear hown hsp hb hpl hz
      by_cases h : z < 128
      · have h' : (z : Int) < 128 := by omega
        have hm : (z : Int) % 256 = z := by omega
        have HSP' := hid (show shortL z0 = pre ++ [(z : Int)] by rw [HSP.out, shortL_lt h])
        go_wp2_with (at_builtin; refine wpList_append_own_at _ rfl _ _ 22 rfl w.heap.size 5 i0 (.int .u8 0) 1 1 Tryd.underlying22 hi hz0 hz1 hz2 rfl (by decide) _ _ _ rfl (HOW.out.alloc _) ⟨wr.heap.size, 0, none⟩ 1 1 [.int .u8 ((z : Int))] rfl rfl (cell_one_new wr _ _) ?c4 ?c5 ?c6 ?c7 ?_)
        case c4 => first | rfl | (intro u hu; simp at hu; subst hu; rfl)
        case c5 => (have := HPL.out; simp [maxLen]; omega)
        case c6 => (have := HPL.out; omega)
        case c7 => (have := HSZ.out; first | omega | (simp; omega))
        intro v5 w5 hown5 hg5 _ hl5
        have hB5 : Below w.heap.size w w5 := (HB.out.alloc HSZ.out (.cells #[.int .u8 ((z : Int))] 5)).grown hg5 (by have := HSZ.out; simp; omega) (fun k e => (HOW.out.lt k e).1)
        have HOW5 := hid (show w5.ownsRow w.heap.size 5 1 v5 (shortL z0).length ((shortL z0).map (Value.int .u8)) by
          rw [HSP'.out, List.length_append, List.map_append]
          simpa [Nat.add_assoc] using hown5)
        have HB5 := hid hB5
        clear hown5 hg5 hl5 hB5
        go_wp2
        go_ret
        exact ⟨_, rfl, HB5.out, by rw [HZZ.out]; exact HOW5.out⟩
      · have h' : ¬ (z : Int) < 128 := by omega
        have h0 : (128 : Int) ≤ z := by omega
        have HW := hid (show wrap64 ((z : Int) / 128) = ((z / 128 : Nat) : Int) by unfold wrap64; have := HZB.out; omega)
        go_wp2_with (at_builtin; refine wpList_append_own_at _ rfl _ _ 22 rfl w.heap.size 5 i0 (.int .u8 0) 1 1 Tryd.underlying22 hi hz0 hz1 hz2 rfl (by decide) _ _ _ rfl (HOW.out.alloc _) ⟨wr.heap.size, 0, none⟩ 1 1 [.int .u8 (((128 + z % 128 : Nat) : Int))] rfl rfl (cell_one_new wr _ _) ?c4 ?c5 ?c6 ?c7 ?_)
        case c4 => first | rfl | (intro u hu; simp at hu; subst hu; rfl)
        case c5 => (have := HPL.out; simp [maxLen]; omega)
        case c6 => (have := HPL.out; omega)
        case c7 => (have := HSZ.out; first | omega | (simp; omega))
        intro v5 w5 hown5 hg5 _ hl5
        have hB5 : Below w.heap.size w w5 := (HB.out.alloc HSZ.out (.cells #[.int .u8 (((128 + z % 128 : Nat) : Int))] 5)).grown hg5 (by have := HSZ.out; simp; omega) (fun k e => (HOW.out.lt k e).1)
        have HOW5 := hid (show w5.ownsRow w.heap.size 5 1 v5 (pre ++ [((128 + z % 128 : Nat) : Int)]).length ((pre ++ [((128 + z % 128 : Nat) : Int)]).map (Value.int .u8)) by
          rw [List.length_append, List.map_append]
          simpa [Nat.add_assoc] using hown5)
        have HSP5 := hid (show shortL z0 = (pre ++ [((128 + z % 128 : Nat) : Int)]) ++ shortL (z / 128) by
          rw [HSP.out, shortL_ge h]; simp)
        have HB5 := hid hB5
        clear hown5 hg5 hl5 hB5
        go_wp2_with fail
        rw [HW.out]
        go_roundw
        case rel => exact ⟨z / 128, pre ++ [((128 + z % 128 : Nat) : Int)], by go_num, by have := HZB.out; omega, HSP5.out, HOW5.out, HB5.out⟩
        case measure => simp [intOf]; omega
end Go.Proofs.YtecbfegohdllbaaDoor
end
section
/- Layer 47 (log): the document's numbers of a report: a contract. -/
namespace Go.Proofs.YtecbfegohdllbaaDoor
open Go.RowKit
set_option linter.unusedVariables false
set_option linter.unusedSimpArgs false
theorem Tryd.infoI64 : (Tryd.prog.info? 2).map (fun i => (i.zero, i.size, i.bytes)) = some (some (.int .i64 0), 1, 8) := by kernel_rfl
theorem rep_i32 {Z : List Int} (h : Z.length = 11) (j : Nat) (h1 : 4 ≤ j) (h2 : j < Z.length) : (rcells Z)[j]? = some (.int .i32 Z[j]) := by
  obtain ⟨f, s, u, g, q0, q1, q2, q3, x0, x1, x2, rfl⟩ := eleven_list Z h
  simp only [List.length_cons, List.length_nil] at h2
  rcases (show j = 4 ∨ j = 5 ∨ j = 6 ∨ j = 7 ∨ j = 8 ∨ j = 9 ∨ j = 10 by omega) with rfl | rfl | rfl | rfl | rfl | rfl | rfl <;> rfl
theorem rep_head {Z : List Int} (h : Z.length = 11) : ∃ f s u g, Z.take 4 = [f, s, u, g] ∧ (rcells Z)[0]? = some (.int .i64 f) ∧ (rcells Z)[1]? = some (.int .i64 s) ∧ (rcells Z)[2]? = some (.int .i64 u) ∧ (rcells Z)[3]? = some (.int .i64 g) := by
  obtain ⟨f, s, u, g, q0, q1, q2, q3, x0, x1, x2, rfl⟩ := eleven_list Z h
  exact ⟨f, s, u, g, rfl, rfl, rfl, rfl, rfl⟩
theorem rep_i32_bd {Z : List Int} (h : RepWf Z) (j : Nat) (h1 : 4 ≤ j) (h2 : j < Z.length) : -2147483648 ≤ Z[j] ∧ Z[j] ≤ 2147483647 := by
  have hl := h.1
  have hk : rkinds[j]? = some .i32 := by
    rcases (show j = 4 ∨ j = 5 ∨ j = 6 ∨ j = 7 ∨ j = 8 ∨ j = 9 ∨ j = 10 by omega) with rfl | rfl | rfl | rfl | rfl | rfl | rfl <;> rfl
  exact bd_i32 (h.2 j .i32 Z[j] hk (List.getElem?_eq_getElem h2))
set_option maxRecDepth 100000 in
set_option maxHeartbeats 1000000 in
theorem rnums_any (Z : List Int) (hZ : RepWf Z) (w : World) :
    Calls Tryd.prog 85 #[.agg (rcells Z)] w fun e w' => ∃ u, e = .returned u ∧ Below w.heap.size w w' ∧ w'.ownsRow w.heap.size 2 1 u 11 (Z.map (Value.int .i64)) := by
  obtain ⟨i0, hi, hz0, hz1, hz2⟩ := info_parts Tryd.infoI64
  have HZL := hid hZ.1
  have HBD := hid (fun j h1 (h3 : j < 11) h2 => rep_i32_bd hZ j h1 h2)
  have HC := hid (fun j h1 h2 => rep_i32 hZ.1 j h1 h2)
  obtain ⟨f, s, u, g, hT4, e0, e1, e2, e3⟩ := rep_head hZ.1
  have HT4 := hid hT4
  have E0 := hid e0
  have E1 := hid e1
  have E2 := hid e2
  have E3 := hid e3
  obtain ⟨VL, hVL⟩ : ∃ VL, VL = Z.map (Value.int .i64) := ⟨_, rfl⟩
  have HV4 := hid (show VL.take (4 + 0) = (Z.take 4).map (Value.int .i64) by rw [hVL, List.map_take])
  have HVN := hid (show VL.length = 11 by rw [hVL, List.length_map]; exact hZ.1)
  have HVL := hid (fun j (h : j < Z.length) => (show VL.take (j + 1) = VL.take j ++ [Value.int .i64 Z[j]] from by
    rw [List.take_succ_eq_append_getElem (by rw [hVL, List.length_map]; exact h)]
    congr 2
    subst hVL
    simp))
  rw [← hVL]
  clear hVL hZ hT4 e0 e1 e2 e3
  go_enter Tryd.func85, Tryd.ntmps85
  go_wp2_with ((with_reducible refine at_op (.box 50 (.tmp 0)) ?_); refine wpR_box rfl (.tmp 0) rfl Z rfl ?_; intro g3 w3 hg3 hR3 hb3; have hl3 : w.heap.size ≤ g3 := Nat.le_of_eq hg3.symm; clear hg3; (have c0 := RB.cell hR3 0 E0.out); (have c1 := RB.cell hR3 1 E1.out); (have c2 := RB.cell hR3 2 E2.out); (have c3 := RB.cell hR3 3 E3.out))
  rw [show w3.alloc (.cells #[.int .i64 f, .int .i64 s, .int .i64 u, .int .i64 g] 2) = w3.alloc (.cells ((Z.take 4).map (Value.int .i64)).toArray 2) by rw [HT4.out]; rfl]
  have HSL := hid (hb3.size)
  have HCZ := hid (fun j h1 (h3 : j < 11) h2 => RB.cell hR3 j (HC.out j h1 h2))
  have HG3 := hid (lt_of_row hR3)
  have ST0 := hid (show (w3.alloc (.cells ((Z.take 4).map (Value.int .i64)).toArray 2)).ownsRow w3.heap.size 2 1 (.slice (some ⟨w3.heap.size, 0, none⟩) 4 4) (4 + 0) (VL.take (4 + 0)) from
    ⟨by rw [List.length_take, HVN.out]; rfl, .inr ⟨w3.heap.size, 4, _, rfl, Nat.le_refl _, heap_alloc_new w3 _, by omega, by decide, by simp [HZL.out], by rw [HV4.out, List.toList_toArray]; exact List.take_of_length_le (by simp [HZL.out])⟩⟩)
  have SB0 := hid ((Below.refl _ w3).alloc (Nat.le_refl _) (.cells ((Z.take 4).map (Value.int .i64)).toArray 2))
  clear c0 c1 c2 c3
  generalize w3.alloc (.cells ((Z.take 4).map (Value.int .i64)).toArray 2) = w4 at *
  go_loopw [3, 4] (fun b t wr => ∃ k : Nat, k ≤ 4 ∧ t = .int .i64 k ∧ wr.ownsRow w3.heap.size 2 1 b (4 + k) (VL.take (4 + k)) ∧ Below w3.heap.size w3 wr) (fun _ t _ => 4 - (intOf t).toNat)
  case atStart => exact ⟨0, by omega, rfl, ST0.out, SB0.out⟩
  case round =>
    obtain ⟨k, hk, rfl, hown, hb⟩ := hrel
    have HOW := hid hown
    have HB := hid hb
    have HSZ := hid (show w3.heap.size ≤ wr.heap.size by have := hb.size; omega)
    clear hown hb
    by_cases hlt : k < 4
    · have hlt' : (k : Int) < 4 := by omega
      have hk0 : 4 + k < Z.length := by rw [HZL.out]; omega
      have cz : wr.cell? ⟨g3, 4 + k, none⟩ = some (.int .i32 Z[4 + k]) := (HB.out.cell (p := ⟨g3, 4 + k, none⟩) HG3.out).trans (HCZ.out (4 + k) (by omega) (by omega) hk0)
      have hbd := HBD.out (4 + k) (by omega) (by omega) hk0
      have HTK := hid (HVL.out (4 + k) hk0)
      generalize Z[4 + k] = z at *
      obtain ⟨hz8, hz9⟩ := hbd
      go_wp2_with (at_builtin; refine wpList_append_own_at _ rfl _ _ 124 rfl w3.heap.size 2 i0 (.int .i64 0) 1 8 Tryd.underlying124 hi hz0 hz1 hz2 rfl (by decide) _ _ _ rfl (HOW.out.alloc _) ⟨wr.heap.size, 0, none⟩ 1 1 [.int .i64 z] rfl rfl (cell_one_new wr _ _) ?c4 ?c5 ?c6 ?c7 ?_)
      case c4 => first | rfl | (intro u hu; simp at hu; subst hu; rfl)
      case c5 => (simp [maxLen]; omega)
      case c6 => omega
      case c7 => (have := HSZ.out; first | omega | (simp; omega))
      intro v5 w5 hown5 hg5 _ hl5
      have hB5 : Below w3.heap.size w3 w5 := (HB.out.alloc HSZ.out (.cells #[.int .i64 z] 2)).grown hg5 (by have := HSZ.out; simp; omega) (fun k e => (HOW.out.lt k e).1)
      go_wp2_with fail
      go_roundw
      case rel => exact ⟨k + 1, by omega, by go_num, by rw [show 4 + (k + 1) = 4 + k + 1 by omega, HTK.out]; exact hown5, hB5⟩
      case measure => simp [intOf]; omega
    · obtain rfl : k = 4 := by omega
      have HOW2 := hid HOW.out
      have HB2 := hid HB.out
      clear HOW HB HSZ ST0 SB0 hlt
      rw [show ((4 : Nat) : Int) = 4 from rfl]
      go_wp2_with fail
      go_loopw [3, 5] (fun b t wr => ∃ k : Nat, k ≤ 3 ∧ t = .int .i64 k ∧ wr.ownsRow w3.heap.size 2 1 b (8 + k) (VL.take (8 + k)) ∧ Below w3.heap.size w3 wr) (fun _ t _ => 3 - (intOf t).toNat)
      case atStart => exact ⟨0, by omega, rfl, HOW2.out, HB2.out⟩
      case round =>
        obtain ⟨k, hk, rfl, hown, hb⟩ := hrel
        have HOW := hid hown
        have HB := hid hb
        have HSZ := hid (show w3.heap.size ≤ wr.heap.size by have := hb.size; omega)
        clear hown hb
        by_cases hlt : k < 3
        · have hlt' : (k : Int) < 3 := by omega
          have hk0 : 8 + k < Z.length := by rw [HZL.out]; omega
          have cz : wr.cell? ⟨g3, 8 + k, none⟩ = some (.int .i32 Z[8 + k]) := (HB.out.cell (p := ⟨g3, 8 + k, none⟩) HG3.out).trans (HCZ.out (8 + k) (by omega) (by omega) hk0)
          have hbd := HBD.out (8 + k) (by omega) (by omega) hk0
          have HTK := hid (HVL.out (8 + k) hk0)
          generalize Z[8 + k] = z at *
          obtain ⟨hz8, hz9⟩ := hbd
          go_wp2_with (at_builtin; refine wpList_append_own_at _ rfl _ _ 124 rfl w3.heap.size 2 i0 (.int .i64 0) 1 8 Tryd.underlying124 hi hz0 hz1 hz2 rfl (by decide) _ _ _ rfl (HOW.out.alloc _) ⟨wr.heap.size, 0, none⟩ 1 1 [.int .i64 z] rfl rfl (cell_one_new wr _ _) ?c4 ?c5 ?c6 ?c7 ?_)
          case c4 => first | rfl | (intro u hu; simp at hu; subst hu; rfl)
          case c5 => (simp [maxLen]; omega)
          case c6 => omega
          case c7 => (have := HSZ.out; first | omega | (simp; omega))
          intro v5 w5 hown5 hg5 _ hl5
          have hB5 : Below w3.heap.size w3 w5 := (HB.out.alloc HSZ.out (.cells #[.int .i64 z] 2)).grown hg5 (by have := HSZ.out; simp; omega) (fun k e => (HOW.out.lt k e).1)
          go_wp2_with fail
          go_roundw
          case rel => exact ⟨k + 1, by omega, by go_num, by rw [show 8 + (k + 1) = 8 + k + 1 by omega, HTK.out]; exact hown5, hB5⟩
          case measure => simp [intOf]; omega
        · obtain rfl : k = 3 := by omega
          go_wp2
          go_ret
          refine ⟨_, rfl, hb3.trans (HB.out.mono HSL.out), ?_⟩
          have := HOW.out
          rw [List.take_of_length_le (by rw [HVN.out]; decide)] at this
          exact own_base this HSL.out
end Go.Proofs.YtecbfegohdllbaaDoor
end
section
/- Layer 47 (log): of: a report's row: a contract. -/
namespace Go.Proofs.YtecbfegohdllbaaDoor
open Go.RowKit
set_option linter.unusedVariables false
set_option linter.unusedSimpArgs false
theorem wp_copy_run {P : Program} {o : Oper} {a : Act} {w w' : World} {K : Act → World → Prop} {Q : Exit → Act → World → Prop} (s x : Operand) (t u : TypeId)
    (ho : o.op = .call { callee := .builtin .copy, args := #[s, x], argTypes := #[t, u] }) {v1 v2 v' : Value} (hs : a.eval s = v1) (hx : a.eval x = v2)
    (hr : (Builtin.copy_ #[t, u] o.type #[v1, v2]).run P w = .ok v' w') (h : K (a.put o.dst v') w') : o.wp P a w K Q := by
  unfold Oper.wp execOp
  simp only [ho, resolve, invoke, builtin, Sem.run_bind, Sem.run_pure, Result.andThen_ok, List.map_toArray, List.map_cons, List.map_nil, hs, hx, hr]
  exact h
def ocells (Z : List Int) : Array Value := (Z.map (Value.int .i32)).toArray
set_option maxRecDepth 100000 in
set_option maxHeartbeats 1000000 in
theorem lof_any (Z : List Int) (hZ : RepWf Z) (hR : RightL Z) (w : World) :
    Calls Tryd.prog 83 #[.agg (rcells Z)] w fun e w' => e = .returned (.agg (ocells Z)) ∧ Below w.heap.size w w' := by
  obtain ⟨f, s, u, g, q0, q1, q2, q3, x0, x1, x2, hZe⟩ := eleven_list Z hZ.1
  have HR := hR
  rw [hZe] at HR
  obtain ⟨⟨r1, r2⟩, ⟨r3, r4⟩, ⟨r5, r6⟩, ⟨r7, r8⟩, -⟩ := HR
  have HOC := hid (show ocells Z = #[.int .i32 f, .int .i32 s, .int .i32 u, .int .i32 g, .int .i32 q0, .int .i32 q1, .int .i32 q2, .int .i32 q3, .int .i32 x0, .int .i32 x1, .int .i32 x2] by rw [hZe]; rfl)
  have HZC := hid (show rcells Z = #[.int .i64 f, .int .i64 s, .int .i64 u, .int .i64 g, .int .i32 q0, .int .i32 q1, .int .i32 q2, .int .i32 q3, .int .i32 x0, .int .i32 x1, .int .i32 x2] by rw [hZe]; rfl)
  clear hZe hZ hR
  go_enter Tryd.func83, Tryd.ntmps83
  go_wp2_with (first | ((with_reducible refine at_op (.box 50 (.tmp 0)) ?_); refine wpR_box rfl (.tmp 0) rfl Z rfl ?_; intro g3 w3 hg3 hR3 hb3; have hl3 : w.heap.size ≤ g3 := Nat.le_of_eq hg3.symm; clear hg3; (have hc3 : ∀ j x, (rcells Z)[j]? = some x → w3.cell? ⟨g3, j, none⟩ = some x := fun j x e => RB.cell hR3 j e); (rw [HZC.out] at hc3); (have c0 : w3.cell? ⟨g3, 0, none⟩ = some (.int .i64 f) := hc3 0 _ rfl); (have c1 : w3.cell? ⟨g3, 1, none⟩ = some (.int .i64 s) := hc3 1 _ rfl); (have c2 : w3.cell? ⟨g3, 2, none⟩ = some (.int .i64 u) := hc3 2 _ rfl); (have c3 : w3.cell? ⟨g3, 3, none⟩ = some (.int .i64 g) := hc3 3 _ rfl); (have HC3 := hid hc3); (clear hc3); (have hg3l := lt_of_row hR3)) | ((with_reducible refine at_op (.store 121 (.tmp 3) (.tmp 16)) ?_); refine wpList_store_row rfl 121 (.tmp 3) (.tmp 16) rfl _ #[.int .i32 f, .int .i32 s, .int .i32 u, .int .i32 g, .int .i32 0, .int .i32 0, .int .i32 0, .int .i32 0, .int .i32 0, .int .i32 0, .int .i32 0] rfl rfl _ _ (heap_alloc_new _ _) (by kernel_rfl) rfl (by simp [Value.oneCell']) ?_))
  have pA := (Below.heap_alloc (w3.alloc (.cells #[.int .i32 0, .int .i32 0, .int .i32 0, .int .i32 0, .int .i32 0, .int .i32 0, .int .i32 0, .int .i32 0, .int .i32 0, .int .i32 0, .int .i32 0] 121)) (.cells #[.int .i32 f, .int .i32 s, .int .i32 u, .int .i32 g, .int .i32 0, .int .i32 0, .int .i32 0, .int .i32 0, .int .i32 0, .int .i32 0, .int .i32 0] 121) w3.heap.size (by simp)).trans (heap_alloc_new w3 _)
  have pB := heap_alloc2_new w3 (.cells #[.int .i32 0, .int .i32 0, .int .i32 0, .int .i32 0, .int .i32 0, .int .i32 0, .int .i32 0, .int .i32 0, .int .i32 0, .int .i32 0, .int .i32 0] 121) (.cells #[.int .i32 f, .int .i32 s, .int .i32 u, .int .i32 g, .int .i32 0, .int .i32 0, .int .i32 0, .int .i32 0, .int .i32 0, .int .i32 0, .int .i32 0] 121)
  have hb4 : Below w.heap.size w ((w3.alloc (.cells #[.int .i32 0, .int .i32 0, .int .i32 0, .int .i32 0, .int .i32 0, .int .i32 0, .int .i32 0, .int .i32 0, .int .i32 0, .int .i32 0, .int .i32 0] 121)).alloc (.cells #[.int .i32 f, .int .i32 s, .int .i32 u, .int .i32 g, .int .i32 0, .int .i32 0, .int .i32 0, .int .i32 0, .int .i32 0, .int .i32 0, .int .i32 0] 121)) := (hb3.alloc hb3.size _).alloc (by have := hb3.size; simp; omega) _
  have hC4 : ∀ j x, w3.cell? ⟨g3, j, none⟩ = some x → ((w3.alloc (.cells #[.int .i32 0, .int .i32 0, .int .i32 0, .int .i32 0, .int .i32 0, .int .i32 0, .int .i32 0, .int .i32 0, .int .i32 0, .int .i32 0, .int .i32 0] 121)).alloc (.cells #[.int .i32 f, .int .i32 s, .int .i32 u, .int .i32 g, .int .i32 0, .int .i32 0, .int .i32 0, .int .i32 0, .int .i32 0, .int .i32 0, .int .i32 0] 121)).cell? ⟨g3, j, none⟩ = some x := fun j x e => (World.cell?_of_block ((Below.heap_alloc _ _ g3 (by simp; omega)).trans (Below.heap_alloc _ _ g3 hg3l))).trans e
  have hC4' := hid (fun j x e => hC4 j x (HC3.out j x e))
  have hs4 : w.heap.size ≤ w3.heap.size := hb3.size
  have hg3h : g3 < w3.heap.size := hg3l
  clear c0 c1 c2 c3 HC3 hC4 hR3 hb3 hl3 hg3l
  generalize w3.heap.size = h at *
  generalize (w3.alloc (.cells #[.int .i32 0, .int .i32 0, .int .i32 0, .int .i32 0, .int .i32 0, .int .i32 0, .int .i32 0, .int .i32 0, .int .i32 0, .int .i32 0, .int .i32 0] 121)).alloc (.cells #[.int .i32 f, .int .i32 s, .int .i32 u, .int .i32 g, .int .i32 0, .int .i32 0, .int .i32 0, .int .i32 0, .int .i32 0, .int .i32 0, .int .i32 0] 121) = W4 at *
  have hl4 := lt_of_row pB
  refine wp_region_F' (B := w.heap.size) (n := 4) (l := #[false, false, false, false]) (by kernel_rfl) (by kernel_rfl) (by kernel_rfl) ?_
  refine wpAnyF_take (i := 0) (v := ?vp_c_0_1) (some 17) rfl rfl (by kernel_rfl) (by kernel_rfl) (by kernel_rfl) (fun _ _ _ h => h) (by rfl) ?hvp_c_0_1 ?restp_c_0_1
  case hvp_c_0_1 => (intro w' hb; go_simp; try with_reducible rfl)
  simp only [Act.put, List.setIfInBounds_toArray, List.set_cons_zero, List.set_cons_succ]
  refine wpAnyF_take (i := 1) (v := ?vp_c_1_2) (some 18) rfl rfl (by kernel_rfl) (by kernel_rfl) (by kernel_rfl) (fun _ _ _ h => h) (by rfl) ?hvp_c_1_2 ?restp_c_1_2
  case hvp_c_1_2 => (intro w' hb; go_simp; try with_reducible rfl)
  simp only [Act.put, List.setIfInBounds_toArray, List.set_cons_zero, List.set_cons_succ]
  refine wpAnyF_take (i := 2) (v := ?vp_c_2_3) (some 19) rfl rfl (by kernel_rfl) (by kernel_rfl) (by kernel_rfl) (fun _ _ _ h => h) (by rfl) ?hvp_c_2_3 ?restp_c_2_3
  case hvp_c_2_3 => (intro w' hb; go_simp; try with_reducible rfl)
  simp only [Act.put, List.setIfInBounds_toArray, List.set_cons_zero, List.set_cons_succ]
  refine wpAnyF_alone (i := 3) rfl (by kernel_rfl) (by rfl) (fun K hK => ?_)
  have RC := run_copy_row Tryd.prog W4.drew 93 93 3 21 (h + 1) 4 7 7 ⟨g3, 4, none⟩ 4 4 (#[.int .i32 f, .int .i32 s, .int .i32 u, .int .i32 g, .int .i32 0, .int .i32 0, .int .i32 0, .int .i32 0, .int .i32 0, .int .i32 0, .int .i32 0] : Array Value) 121 ([.int .i32 q0, .int .i32 q1, .int .i32 q2, .int .i32 q3] : List Value) Tryd.underlying93 (by kernel_rfl) pB rfl (by
    intro j v hj
    rw [add_plain]
    have hv : #[.int .i64 f, .int .i64 s, .int .i64 u, .int .i64 g, .int .i32 q0, .int .i32 q1, .int .i32 q2, .int .i32 q3, .int .i32 x0, .int .i32 x1, .int .i32 x2][4 + j]? = some v := by
      rcases j with _ | _ | _ | _ | j
      all_goals first | exact hj | (simp at hj)
    exact hC4'.out _ _ hv) (by simp) (by intro v hv; simp at hv; rcases hv with rfl | rfl | rfl | rfl <;> rfl)
  rw [show ((#[.int .i32 f, .int .i32 s, .int .i32 u, .int .i32 g, .int .i32 0, .int .i32 0, .int .i32 0, .int .i32 0, .int .i32 0, .int .i32 0, .int .i32 0] : Array Value).toList.take 4 ++ ([.int .i32 q0, .int .i32 q1, .int .i32 q2, .int .i32 q3] : List Value) ++ (#[.int .i32 f, .int .i32 s, .int .i32 u, .int .i32 g, .int .i32 0, .int .i32 0, .int .i32 0, .int .i32 0, .int .i32 0, .int .i32 0, .int .i32 0] : Array Value).toList.drop (4 + ([.int .i32 q0, .int .i32 q1, .int .i32 q2, .int .i32 q3] : List Value).length)).toArray = (#[.int .i32 f, .int .i32 s, .int .i32 u, .int .i32 g, .int .i32 q0, .int .i32 q1, .int .i32 q2, .int .i32 q3, .int .i32 0, .int .i32 0, .int .i32 0] : Array Value) from rfl] at RC
  refine wp_copy_run (.tmp 17) (.tmp 19) 93 93 rfl rfl rfl RC ?_
  simp only [List.getElem_toArray, List.getElem_cons_succ, List.getElem_cons_zero, Act.put, List.setIfInBounds_toArray, List.set_cons_zero, List.set_cons_succ]
  have hb : Below w.heap.size W4.drew (W4.drew.setRow (h + 1) (#[.int .i32 f, .int .i32 s, .int .i32 u, .int .i32 g, .int .i32 q0, .int .i32 q1, .int .i32 q2, .int .i32 q3, .int .i32 0, .int .i32 0, .int .i32 0] : Array Value)) := below_setRow (Below.refl _ _) (by omega) _
  have pB2 := setRow_heap W4.drew (h + 1) (#[.int .i32 f, .int .i32 s, .int .i32 u, .int .i32 g, .int .i32 0, .int .i32 0, .int .i32 0, .int .i32 0, .int .i32 0, .int .i32 0, .int .i32 0] : Array Value) (#[.int .i32 f, .int .i32 s, .int .i32 u, .int .i32 g, .int .i32 q0, .int .i32 q1, .int .i32 q2, .int .i32 q3, .int .i32 0, .int .i32 0, .int .i32 0] : Array Value) 121 (0, 0) pB
  refine hK.out _ _ hb ?_
  clear hK K
  simp only [List.setIfInBounds_toArray, List.set_cons_zero, List.set_cons_succ]
  refine wpAnyF_done (by kernel_rfl) ?_ _
  have hb5 := (hb4.drew).trans hb
  have pA5 : (W4.drew.setRow (h + 1) (#[.int .i32 f, .int .i32 s, .int .i32 u, .int .i32 g, .int .i32 q0, .int .i32 q1, .int .i32 q2, .int .i32 q3, .int .i32 0, .int .i32 0, .int .i32 0] : Array Value)).heap[h]? = _ := (setRow_other _ _ _ _ (by omega)).trans pA
  replace hC4' := hid (fun j x e => (cell_setRow_other W4.drew (h + 1) (#[.int .i32 f, .int .i32 s, .int .i32 u, .int .i32 g, .int .i32 q0, .int .i32 q1, .int .i32 q2, .int .i32 q3, .int .i32 0, .int .i32 0, .int .i32 0] : Array Value) ⟨g3, j, none⟩ (by simp; omega)).trans (hC4'.out j x e))
  generalize W4.drew.setRow (h + 1) (#[.int .i32 f, .int .i32 s, .int .i32 u, .int .i32 g, .int .i32 q0, .int .i32 q1, .int .i32 q2, .int .i32 q3, .int .i32 0, .int .i32 0, .int .i32 0] : Array Value) = W5 at *
  clear RC hb pA pB hb4
  go_wp2_with fail
  refine wp_region_F' (B := w.heap.size) (n := 4) (l := #[false, false, false, false]) (by kernel_rfl) (by kernel_rfl) (by kernel_rfl) ?_
  refine wpAnyF_take (i := 0) (v := ?vq_0_1) (some 21) rfl rfl (by kernel_rfl) (by kernel_rfl) (by kernel_rfl) (fun _ _ _ h => h) (by rfl) ?hvq_0_1 ?restq_0_1
  case hvq_0_1 => (intro w' hb; go_simp; try with_reducible rfl)
  simp only [Act.put, List.setIfInBounds_toArray, List.set_cons_zero, List.set_cons_succ]
  refine wpAnyF_take (i := 1) (v := ?vq_1_2) (some 22) rfl rfl (by kernel_rfl) (by kernel_rfl) (by kernel_rfl) (fun _ _ _ h => h) (by rfl) ?hvq_1_2 ?restq_1_2
  case hvq_1_2 => (intro w' hb; go_simp; try with_reducible rfl)
  simp only [Act.put, List.setIfInBounds_toArray, List.set_cons_zero, List.set_cons_succ]
  refine wpAnyF_take (i := 2) (v := ?vq_2_3) (some 23) rfl rfl (by kernel_rfl) (by kernel_rfl) (by kernel_rfl) (fun _ _ _ h => h) (by rfl) ?hvq_2_3 ?restq_2_3
  case hvq_2_3 => (intro w' hb; go_simp; try with_reducible rfl)
  simp only [Act.put, List.setIfInBounds_toArray, List.set_cons_zero, List.set_cons_succ]
  refine wpAnyF_alone (i := 3) rfl (by kernel_rfl) (by rfl) (fun K hK => ?_)
  have RC := run_copy_row Tryd.prog W5.drew 93 93 3 21 (h + 1) 8 3 3 ⟨g3, 8, none⟩ 3 3 (#[.int .i32 f, .int .i32 s, .int .i32 u, .int .i32 g, .int .i32 q0, .int .i32 q1, .int .i32 q2, .int .i32 q3, .int .i32 0, .int .i32 0, .int .i32 0] : Array Value) 121 ([.int .i32 x0, .int .i32 x1, .int .i32 x2] : List Value) Tryd.underlying93 (by kernel_rfl) pB2 rfl (by
    intro j v hj
    rw [add_plain]
    have hv : #[.int .i64 f, .int .i64 s, .int .i64 u, .int .i64 g, .int .i32 q0, .int .i32 q1, .int .i32 q2, .int .i32 q3, .int .i32 x0, .int .i32 x1, .int .i32 x2][8 + j]? = some v := by
      rcases j with _ | _ | _ | j
      all_goals first | exact hj | (simp at hj)
    exact hC4'.out _ _ hv) (by simp) (by intro v hv; simp at hv; rcases hv with rfl | rfl | rfl <;> rfl)
  rw [show ((#[.int .i32 f, .int .i32 s, .int .i32 u, .int .i32 g, .int .i32 q0, .int .i32 q1, .int .i32 q2, .int .i32 q3, .int .i32 0, .int .i32 0, .int .i32 0] : Array Value).toList.take 8 ++ ([.int .i32 x0, .int .i32 x1, .int .i32 x2] : List Value) ++ (#[.int .i32 f, .int .i32 s, .int .i32 u, .int .i32 g, .int .i32 q0, .int .i32 q1, .int .i32 q2, .int .i32 q3, .int .i32 0, .int .i32 0, .int .i32 0] : Array Value).toList.drop (8 + ([.int .i32 x0, .int .i32 x1, .int .i32 x2] : List Value).length)).toArray = (#[.int .i32 f, .int .i32 s, .int .i32 u, .int .i32 g, .int .i32 q0, .int .i32 q1, .int .i32 q2, .int .i32 q3, .int .i32 x0, .int .i32 x1, .int .i32 x2] : Array Value) from rfl] at RC
  refine wp_copy_run (.tmp 21) (.tmp 23) 93 93 rfl rfl rfl RC ?_
  simp only [List.getElem_toArray, List.getElem_cons_succ, List.getElem_cons_zero, Act.put, List.setIfInBounds_toArray, List.set_cons_zero, List.set_cons_succ]
  have hb : Below w.heap.size W5.drew (W5.drew.setRow (h + 1) (#[.int .i32 f, .int .i32 s, .int .i32 u, .int .i32 g, .int .i32 q0, .int .i32 q1, .int .i32 q2, .int .i32 q3, .int .i32 x0, .int .i32 x1, .int .i32 x2] : Array Value)) := below_setRow (Below.refl _ _) (by omega) _
  have pB3 := setRow_heap W5.drew (h + 1) (#[.int .i32 f, .int .i32 s, .int .i32 u, .int .i32 g, .int .i32 q0, .int .i32 q1, .int .i32 q2, .int .i32 q3, .int .i32 0, .int .i32 0, .int .i32 0] : Array Value) (#[.int .i32 f, .int .i32 s, .int .i32 u, .int .i32 g, .int .i32 q0, .int .i32 q1, .int .i32 q2, .int .i32 q3, .int .i32 x0, .int .i32 x1, .int .i32 x2] : Array Value) 121 (0, 0) pB2
  refine hK.out _ _ hb ?_
  clear hK K
  simp only [List.setIfInBounds_toArray, List.set_cons_zero, List.set_cons_succ]
  refine wpAnyF_done (by kernel_rfl) ?_ _
  have hb6 := hb5.drew.trans hb
  have pA6 : (W5.drew.setRow (h + 1) (#[.int .i32 f, .int .i32 s, .int .i32 u, .int .i32 g, .int .i32 q0, .int .i32 q1, .int .i32 q2, .int .i32 q3, .int .i32 x0, .int .i32 x1, .int .i32 x2] : Array Value)).heap[h]? = _ := (setRow_other _ _ _ _ (by omega)).trans pA5
  generalize W5.drew.setRow (h + 1) (#[.int .i32 f, .int .i32 s, .int .i32 u, .int .i32 g, .int .i32 q0, .int .i32 q1, .int .i32 q2, .int .i32 q3, .int .i32 x0, .int .i32 x1, .int .i32 x2] : Array Value) = W6 at *
  clear RC hb hC4' hb5 pA5
  go_wp2_with (first | ((with_reducible refine at_op (.load 121 (.tmp 3)) ?_); refine wpList_plain rfl (fun K hK => ?_); refine wp_load_row 121 (.tmp 3) rfl (h + 1) rfl _ _ _ _ pB3 Tryd.underlying121 rfl (by kernel_rfl) (hK _ _ ?_)) | ((with_reducible refine at_op (.store 121 (.tmp 2) (.tmp 25)) ?_); refine wpList_store_row rfl 121 (.tmp 2) (.tmp 25) rfl h (#[.int .i32 f, .int .i32 s, .int .i32 u, .int .i32 g, .int .i32 q0, .int .i32 q1, .int .i32 q2, .int .i32 q3, .int .i32 x0, .int .i32 x1, .int .i32 x2] : Array Value) rfl rfl _ _ pA6 (by kernel_rfl) rfl (by simp [Value.oneCell']) ?_))
  have lv := run_loadVar_row (P := Tryd.prog) _ h _ 121 (#[.int .i32 f, .int .i32 s, .int .i32 u, .int .i32 g, .int .i32 q0, .int .i32 q1, .int .i32 q2, .int .i32 q3, .int .i32 x0, .int .i32 x1, .int .i32 x2] : Array Value) _ _ (setRow_heap W6 h _ (#[.int .i32 f, .int .i32 s, .int .i32 u, .int .i32 g, .int .i32 q0, .int .i32 q1, .int .i32 q2, .int .i32 q3, .int .i32 x0, .int .i32 x1, .int .i32 x2] : Array Value) _ _ pA6) Tryd.underlying121 rfl (by kernel_rfl)
  refine bodyPost_ret (v := .agg (#[.int .i32 f, .int .i32 s, .int .i32 u, .int .i32 g, .int .i32 q0, .int .i32 q1, .int .i32 q2, .int .i32 q3, .int .i32 x0, .int .i32 x1, .int .i32 x2] : Array Value)) (by simp [results, Tryd.results83, asAddr, Act.put, lv]) rfl ⟨by rw [HOC.out], below_setRow hb6 hs4 _⟩
end Go.Proofs.YtecbfegohdllbaaDoor
end
section
/- Layer 47 (log): a log's bytes, in plain words. -/
namespace Go.Proofs.YtecbfegohdllbaaDoor
open Go.RowKit
set_option linter.unusedVariables false
set_option linter.unusedSimpArgs false
def headL (room n : Nat) : List Int := [(room : Int) / 256, (room : Int) % 256, (n : Int) / 256, (n : Int) % 256]
/-- how the first k numbers of a report differ from those ahead -/
def deltaN (X Y : List Int) (k : Nat) : List Int := (List.range k).flatMap fun j => shortL (zig (lowI (X.getD j 0 - Y.getD j 0)))
def chunkL (L : List (List Int)) (i : Nat) : List Int := if i = 0 then frameL (L.getD 0 zeroR) else deltaN (L.getD i zeroR) (L.getD (i - 1) zeroR) 11
def bodyN (L : List (List Int)) (k : Nat) : List Int := (List.range k).flatMap (chunkL L)
def logB (room : Nat) (L : List (List Int)) : List Int := headL room L.length ++ bodyN L L.length
def logL (room : Nat) (L : List (List Int)) : List Int := sealL (logB room L)
theorem deltaN_succ (X Y : List Int) (k : Nat) : deltaN X Y (k + 1) = deltaN X Y k ++ shortL (zig (lowI (X.getD k 0 - Y.getD k 0))) := by simp [deltaN, List.range_succ]
theorem bodyN_succ (L : List (List Int)) (k : Nat) : bodyN L (k + 1) = bodyN L k ++ chunkL L k := by simp [bodyN, List.range_succ]
theorem zig_lt (x : Int) : zig (lowI x) < 4294967296 := (zig_eq (lowI x) (lowI_bd x).1 (lowI_bd x).2).2
theorem deltaN_len (X Y : List Int) (k : Nat) : (deltaN X Y k).length ≤ 5 * k := by
  induction k with
  | zero => exact Nat.le_refl _
  | succ k ih =>
    rw [deltaN_succ, List.length_append]
    have := shortL_len 4 (zig (lowI (X.getD k 0 - Y.getD k 0))) (by have := zig_lt (X.getD k 0 - Y.getD k 0); omega)
    omega
theorem deltaN_wf (X Y : List Int) (k : Nat) : ∀ x ∈ deltaN X Y k, (Lit.int .u8 x).wf = true := by
  intro x hx
  obtain ⟨j, -, hx⟩ := List.mem_flatMap.1 hx
  exact shortL_wf _ x hx
theorem getD_len {L : List (List Int)} (h : ∀ Z ∈ L, Z.length = 11) (i : Nat) : (L.getD i zeroR).length = 11 := by
  rw [List.getD_eq_getElem?_getD]
  rcases hi : L[i]? with _ | Z
  · rfl
  · exact h Z (List.mem_of_getElem? hi)
theorem chunkL_len {L : List (List Int)} (h : ∀ Z ∈ L, Z.length = 11) (i : Nat) : (chunkL L i).length ≤ 55 := by
  unfold chunkL
  split
  · rw [frameL_len _ (getD_len h 0)]; decide
  · exact deltaN_len _ _ 11
theorem chunkL_wf {L : List (List Int)} (h : ∀ Z ∈ L, Z.length = 11) (i : Nat) : ∀ x ∈ chunkL L i, (Lit.int .u8 x).wf = true := by
  unfold chunkL
  split
  · exact frameL_wf _ (getD_len h 0)
  · exact deltaN_wf _ _ 11
theorem bodyN_len {L : List (List Int)} (h : ∀ Z ∈ L, Z.length = 11) (k : Nat) : (bodyN L k).length ≤ 55 * k := by
  induction k with
  | zero => exact Nat.le_refl _
  | succ k ih =>
    rw [bodyN_succ, List.length_append]
    have := chunkL_len h k
    omega
theorem bodyN_wf {L : List (List Int)} (h : ∀ Z ∈ L, Z.length = 11) (k : Nat) : ∀ x ∈ bodyN L k, (Lit.int .u8 x).wf = true := by
  intro x hx
  obtain ⟨j, -, hx⟩ := List.mem_flatMap.1 hx
  exact chunkL_wf h j x hx
theorem headL_wf (room n : Nat) (hr : room ≤ 1000) (hn : n ≤ 1000) : ∀ x ∈ headL room n, (Lit.int .u8 x).wf = true := by
  intro x hx
  unfold headL at hx
  simp only [List.mem_cons, List.not_mem_nil, or_false] at hx
  rcases hx with rfl | rfl | rfl | rfl <;> exact wf_u8 (by omega)
theorem logB_wf {room : Nat} {L : List (List Int)} (h : ∀ Z ∈ L, Z.length = 11) (hr : room ≤ 1000) (hn : L.length ≤ 1000) : ∀ x ∈ logB room L, (Lit.int .u8 x).wf = true := fun x hx =>
  (List.mem_append.1 hx).elim (headL_wf room _ hr hn x) (bodyN_wf h _ x)
theorem logB_len {room : Nat} {L : List (List Int)} (h : ∀ Z ∈ L, Z.length = 11) : (logB room L).length ≤ 55 * L.length + 4 := by
  unfold logB
  rw [List.length_append]
  have := bodyN_len h L.length
  have : (headL room L.length).length = 4 := rfl
  omega
theorem logL_wf {room : Nat} {L : List (List Int)} (h : ∀ Z ∈ L, Z.length = 11) (hr : room ≤ 1000) (hn : L.length ≤ 1000) : ∀ x ∈ logL room L, (Lit.int .u8 x).wf = true := sealL_wf (logB_wf h hr hn)
end Go.Proofs.YtecbfegohdllbaaDoor
end
