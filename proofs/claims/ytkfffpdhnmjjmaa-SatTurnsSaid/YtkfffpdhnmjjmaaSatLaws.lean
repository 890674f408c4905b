/- The walks of the four statements of layer 4 (sat). -/
import Derived.Test.YtkfffpdhnmjjmaaSat
namespace Go.Proofs.Ytkfffpdhnmjjmaa
open Go.RowKit
set_option linter.unusedVariables false
theorem awake04 (w : World) : Calls Try.prog 18 #[] w fun e w' => e = .returned (.bool true) ∧ Below w.heap.size w w' := by
  have hB := Below.refl w.heap.size w
  go_enter Try.func18, Try.ntmps18
  go_wp2_with fail
  refine (add_any _ _ _ (by omega) (by omega)).mono ?_
  rintro e w1 ⟨rfl, hb⟩
  rw [show satI (2147483647 + 1) = 2147483647 from by decide]
  replace hB := chain hB hb; clear hb
  go_wp2_with fail
  refine (neg_any _ _ (by omega)).mono ?_
  rintro e w2 ⟨rfl, hb⟩
  rw [show satI (- -2147483648) = 2147483647 from by decide]
  replace hB := chain hB hb; clear hb
  go_wp2_with fail
  refine (clamp_any _ _ _ _).mono ?_
  rintro e w2 ⟨rfl, rfl⟩
  go_wp2_with fail
  refine (sat_any _ _).mono ?_
  rintro e w2 ⟨rfl, rfl⟩
  rw [show satI (-1099511627776) = -2147483648 from by decide]
  go_wp2_with fail
  refine (hits_any _ _ (by omega)).mono ?_
  rintro e w2 ⟨rfl, rfl⟩
  rw [show hitsB (2147483648) = true from by decide]
  go_wp2_with fail
  refine (hits_any _ _ (by omega)).mono ?_
  rintro e w2 ⟨rfl, rfl⟩
  rw [show hitsB (-2147483648) = false from by decide]
  go_wp2_with fail
  refine (abs_any _ _ (by omega)).mono ?_
  rintro e w2 ⟨rfl, hb⟩
  rw [show satI (max (-4) (- -4)) = 4 from by decide]
  replace hB := chain hB hb; clear hb
  go_wp2
  go_ret
  exact ⟨rfl, hB⟩
theorem far_any (x a : Int) (w : World) (hx : -9223372036854775808 ≤ x ∧ x ≤ 9223372036854775807) (ha : -2147483648 ≤ a ∧ a ≤ 2147483647) :
    Calls Try.prog 16 #[.int .i64 x, .int .i32 a] w fun e w' => e = .returned (.int .u64 (max (x - a) (a - x))) ∧ w = w' := by
  go_enter Try.func16, Try.ntmps16
  go_wp2
  all_goals
    go_ret
    refine ⟨ret_int ?_, rfl⟩
    simp only [IntKind.wrap, IntKind.bits, IntKind.signed]
    simp
    omega
theorem SatNear_walk (a0 : Int) (a1 : Int) (w0 : (Lit.int .i64 a0).wf = true) (w1 : (Lit.int .i32 a1).wf = true) (w : World) :
    Calls Try.prog 3 #[.int .i64 a0, .int .i32 a1] w fun e w' => e = .returned (.bool true) ∧ Below w.heap.size w w' := by
  have b0 := bd_i64 w0
  have b1 := bd_i32 w1
  clear w0 w1
  have hs := satI_bd a0
  have hB := Below.refl w.heap.size w
  have t1 : decide (max (a0 - satI a0) (satI a0 - a0) ≤ max (a0 - a1) (a1 - a0)) = true := by unfold satI; simp; omega
  have t2 : ((satI a0 == a1) == (max (a0 - satI a0) (satI a0 - a0) == max (a0 - a1) (a1 - a0))) = true := by
    rw [beq_iff_eq, Bool.eq_iff_iff]; simp only [beq_iff_eq]; unfold satI; omega
  have t3 : (hitsB a0 == (satI a0 != a0)) = true := by
    rw [beq_iff_eq, Bool.eq_iff_iff]; unfold hitsB satI; simp; omega
  have t4 : (satI a1 == a1) = true := by unfold satI; simp; omega
  go_enter Try.func3, Try.ntmps3
  go_wp2_with fail
  refine (sat_any _ _).mono ?_
  rintro e w2 ⟨rfl, rfl⟩
  go_wp2_with fail
  refine (far_any _ _ _ b0 hs).mono ?_
  rintro e w2 ⟨rfl, rfl⟩
  go_wp2_with fail
  refine (far_any _ _ _ b0 b1).mono ?_
  rintro e w2 ⟨rfl, rfl⟩
  go_wp2_with fail
  refine (far_any _ _ _ b0 hs).mono ?_
  rintro e w2 ⟨rfl, rfl⟩
  go_wp2_with fail
  refine (far_any _ _ _ b0 b1).mono ?_
  rintro e w2 ⟨rfl, rfl⟩
  go_wp2_with fail
  refine (hits_any _ _ b0).mono ?_
  rintro e w2 ⟨rfl, rfl⟩
  go_wp2_with fail
  refine (sat_any _ _).mono ?_
  rintro e w2 ⟨rfl, rfl⟩
  go_wp2_with fail
  refine (awake04 _).mono ?_
  rintro e w2 ⟨rfl, hb⟩
  replace hB := chain hB hb; clear hb
  go_wp2
  go_ret
  exact ⟨rfl, hB⟩
theorem SatClamps_walk (a0 : Int) (a1 : Int) (a2 : Int) (w0 : (Lit.int .i32 a0).wf = true) (w1 : (Lit.int .i32 a1).wf = true) (w2 : (Lit.int .i32 a2).wf = true) (w : World) :
    Calls Try.prog 4 #[.int .i32 a0, .int .i32 a1, .int .i32 a2] w fun e w' => e = .returned (.bool true) ∧ Below w.heap.size w w' := by
  clear w0 w1 w2
  have hB := Below.refl w.heap.size w
  by_cases c1 : a2 < a1
  · have t1 : (min (max a0 a1) a2 == a2) = true := by simp; omega
    go_enter Try.func4, Try.ntmps4
    go_wp2_with fail
    refine (clamp_any _ _ _ _).mono ?_
    rintro e w2 ⟨rfl, rfl⟩
    go_wp2_with fail
    refine (awake04 _).mono ?_
    rintro e w2 ⟨rfl, hb⟩
    replace hB := chain hB hb; clear hb
    go_wp2
    go_ret
    exact ⟨rfl, hB⟩
  · have c1' : a1 ≤ a2 := by omega
    have t1 : decide (min (max a0 a1) a2 ≤ a2) = true := by simp; omega
    have t2 : decide (a1 ≤ min (max a0 a1) a2) = true := by simp; omega
    have t3 : (min (max (min (max a0 a1) a2) a1) a2 == min (max a0 a1) a2) = true := by simp; omega
    by_cases c2 : a0 < a1
    · go_enter Try.func4, Try.ntmps4
      go_wp2_with fail
      refine (clamp_any _ _ _ _).mono ?_
      rintro e w2 ⟨rfl, rfl⟩
      go_wp2_with fail
      refine (clamp_any _ _ _ _).mono ?_
      rintro e w2 ⟨rfl, rfl⟩
      go_wp2_with fail
      refine (awake04 _).mono ?_
      rintro e w2 ⟨rfl, hb⟩
      replace hB := chain hB hb; clear hb
      go_wp2
      go_ret
      exact ⟨rfl, hB⟩
    · by_cases c3 : a2 < a0
      · go_enter Try.func4, Try.ntmps4
        go_wp2_with fail
        refine (clamp_any _ _ _ _).mono ?_
        rintro e w2 ⟨rfl, rfl⟩
        go_wp2_with fail
        refine (clamp_any _ _ _ _).mono ?_
        rintro e w2 ⟨rfl, rfl⟩
        go_wp2_with fail
        refine (awake04 _).mono ?_
        rintro e w2 ⟨rfl, hb⟩
        replace hB := chain hB hb; clear hb
        go_wp2
        go_ret
        exact ⟨rfl, hB⟩
      · have t4 : (min (max a0 a1) a2 == a0) = true := by simp; omega
        go_enter Try.func4, Try.ntmps4
        go_wp2_with fail
        refine (clamp_any _ _ _ _).mono ?_
        rintro e w2 ⟨rfl, rfl⟩
        go_wp2_with fail
        refine (clamp_any _ _ _ _).mono ?_
        rintro e w2 ⟨rfl, rfl⟩
        go_wp2_with fail
        refine (awake04 _).mono ?_
        rintro e w2 ⟨rfl, hb⟩
        replace hB := chain hB hb; clear hb
        go_wp2
        go_ret
        exact ⟨rfl, hB⟩
theorem SatTells_walk (a0 : Int) (a1 : Int) (a2 : Int) (a3 : Int) (w0 : (Lit.int .i64 a0).wf = true) (w1 : (Lit.int .i32 a1).wf = true) (w2 : (Lit.int .i32 a2).wf = true) (w3 : (Lit.int .i32 a3).wf = true) (w : World) :
    Calls Try.prog 5 #[.int .i64 a0, .int .i32 a1, .int .i32 a2, .int .i32 a3] w fun e w' => e = .returned (.bool true) ∧ Below w.heap.size w w' := by
  have b0 := bd_i64 w0
  have b1 := bd_i32 w1
  have b2 := bd_i32 w2
  clear w0 w1 w2 w3
  have hB := Below.refl w.heap.size w
  go_enter Try.func5, Try.ntmps5
  go_wp2_with fail
  refine (sat_any _ _).mono ?_
  rintro e w2 ⟨rfl, rfl⟩
  go_wp2_with fail
  refine (rsat_any _ _).mono ?_
  rintro e w2 ⟨rfl, rfl⟩
  go_wp2_with fail
  refine (hits_any _ _ b0).mono ?_
  rintro e w2 ⟨rfl, rfl⟩
  go_wp2_with fail
  refine (rhits_any _ _).mono ?_
  rintro e w2 ⟨rfl, rfl⟩
  go_wp2_with fail
  refine (add_any _ _ _ b1 b2).mono ?_
  rintro e w2 ⟨rfl, hb⟩
  replace hB := chain hB hb; clear hb
  go_wp2_with fail
  refine (radd_any _ _ _ b1 b2).mono ?_
  rintro e w2 ⟨rfl, rfl⟩
  go_wp2_with fail
  refine (sub_any _ _ _ b1 b2).mono ?_
  rintro e w2 ⟨rfl, hb⟩
  replace hB := chain hB hb; clear hb
  go_wp2_with fail
  refine (rsub_any _ _ _ b1 b2).mono ?_
  rintro e w2 ⟨rfl, rfl⟩
  go_wp2_with fail
  refine (neg_any _ _ b1).mono ?_
  rintro e w2 ⟨rfl, hb⟩
  replace hB := chain hB hb; clear hb
  go_wp2_with fail
  refine (rneg_any _ _ b1).mono ?_
  rintro e w2 ⟨rfl, rfl⟩
  go_wp2_with fail
  refine (abs_any _ _ b1).mono ?_
  rintro e w2 ⟨rfl, hb⟩
  replace hB := chain hB hb; clear hb
  go_wp2_with fail
  refine (rabs_any _ _ b1).mono ?_
  rintro e w2 ⟨rfl, rfl⟩
  go_wp2_with fail
  refine (clamp_any _ _ _ _).mono ?_
  rintro e w2 ⟨rfl, rfl⟩
  go_wp2_with fail
  refine (rclamp_any _ _ _ _).mono ?_
  rintro e w2 ⟨rfl, rfl⟩
  go_wp2_with fail
  refine (awake04 _).mono ?_
  rintro e w2 ⟨rfl, hb⟩
  replace hB := chain hB hb; clear hb
  go_wp2
  go_ret
  exact ⟨rfl, hB⟩
set_option maxHeartbeats 4000000 in
theorem SatTurns_walk (a0 : Int) (a1 : Int) (a2 : Int) (w0 : (Lit.int .i32 a0).wf = true) (w1 : (Lit.int .i32 a1).wf = true) (w2 : (Lit.int .i32 a2).wf = true) (w : World) :
    Calls Try.prog 6 #[.int .i32 a0, .int .i32 a1, .int .i32 a2] w fun e w' => e = .returned (.bool true) ∧ Below w.heap.size w w' := by
  have b0 := bd_i32 w0
  have b1 := bd_i32 w1
  have b2 := bd_i32 w2
  clear w0 w1 w2
  have hn0 := satI_bd (-a0)
  have hn1 := satI_bd (-a1)
  have hB := Below.refl w.heap.size w
  have t1 : (satI (a0 + a1) != satI (a1 + a0)) = false := by simp [Int.add_comm]
  have t5 : (satI 0 == 0) = true := by decide
  have t6 : (satI a0 == a0) = true := by simp; unfold satI; omega
  have t7 : decide (0 ≤ satI (max a0 (-a0))) = true := by simp; unfold satI; omega
  have C1 : (a0 < -2147483647 ∧ (satI (-satI (-a0)) != -2147483647) = false ∧ (satI (max a0 (-a0)) == a0) = false ∧ (satI (max a0 (-a0)) == satI (-a0)) = true) ∨
      (-2147483647 ≤ a0 ∧ (satI (-satI (-a0)) != a0) = false ∧ (satI (max a0 (-a0)) == a0) = false ∧ (satI (max a0 (-a0)) == satI (-a0)) = true) ∨
      (-2147483647 ≤ a0 ∧ (satI (-satI (-a0)) != a0) = false ∧ (satI (max a0 (-a0)) == a0) = true ∧ True) := by
    by_cases c : a0 < -2147483647
    · exact .inl ⟨c, by simp; unfold satI; omega, by simp; unfold satI; omega, by simp; unfold satI; omega⟩
    · by_cases c2 : 0 ≤ a0
      · exact .inr (.inr ⟨by omega, by simp; unfold satI; omega, by simp; unfold satI; omega, trivial⟩)
      · exact .inr (.inl ⟨by omega, by simp; unfold satI; omega, by simp; unfold satI; omega, by simp; unfold satI; omega⟩)
  have C3 : (a1 != -2147483648) = false ∨ (a1 != -2147483648) = true ∧ (satI (a0 - a1) != satI (a0 + satI (-a1))) = false := by
    by_cases c : a1 = -2147483648
    · exact .inl (by simp [c])
    · exact .inr ⟨by simp [c], by simp; unfold satI; omega⟩
  have C4 : a2 < a1 ∨ ¬ a2 < a1 ∧ decide (satI (a0 + a1) ≤ satI (a0 + a2)) = true := by
    by_cases c : a2 < a1
    · exact .inl c
    · exact .inr ⟨c, by simp; unfold satI; omega⟩
  rcases C1 with ⟨c1, t2, t8, t9⟩ | ⟨c1, t2, t8, t9⟩ | ⟨c1, t2, t8, _⟩ <;> rcases C3 with c3 | ⟨c3, t3⟩ <;> rcases C4 with c4 | ⟨c4, t4⟩
  all_goals
    go_enter Try.func6, Try.ntmps6
    go_wp2_with (first | (go_at_call 22; refine (add_any _ _ _ (by omega) (by omega)).mono ?_; rintro e w2 ⟨rfl, hb⟩; replace hB := chain hB hb; clear hb) | (go_at_call 24; refine (sub_any _ _ _ (by omega) (by omega)).mono ?_; rintro e w2 ⟨rfl, hb⟩; replace hB := chain hB hb; clear hb) | (go_at_call 26; refine (neg_any _ _ (by omega)).mono ?_; rintro e w2 ⟨rfl, hb⟩; replace hB := chain hB hb; clear hb) | (go_at_call 28; refine (abs_any _ _ (by omega)).mono ?_; rintro e w2 ⟨rfl, hb⟩; replace hB := chain hB hb; clear hb) | (go_at_call 18; refine (awake04 _).mono ?_; rintro e w2 ⟨rfl, hb⟩; replace hB := chain hB hb; clear hb))
    go_ret
    exact ⟨rfl, hB⟩
end Go.Proofs.Ytkfffpdhnmjjmaa
