/- The walks of the statements of layer 5 (fix). -/
import Derived.Test.YtkfffpdhnmjjmaaFix
namespace Go.Proofs.Ytkfffpdhnmjjmaa
open Go.RowKit
set_option linter.unusedVariables false
theorem roundI30 (x : Int) : roundI x 30 = (x + 536870912) / 1073741824 := by
  unfold roundI; rw [if_neg (by omega), show ((30 : Int) - 1).toNat = 29 from rfl, show (30 : Int).toNat = 30 from rfl]; rfl
theorem roundI16 (x : Int) : roundI x 16 = (x + 32768) / 65536 := by
  unfold roundI; rw [if_neg (by omega), show ((16 : Int) - 1).toNat = 15 from rfl, show (16 : Int).toNat = 16 from rfl]; rfl
theorem roundI1 (x : Int) : roundI x 1 = (x + 1) / 2 := by
  unfold roundI; rw [if_neg (by omega), show ((1 : Int) - 1).toNat = 0 from rfl, show (1 : Int).toNat = 1 from rfl]; rfl
theorem awake05 (w : World) : Calls Try.prog 45 #[] w fun e w' => e = .returned (.bool true) ∧ Below w.heap.size w w' := by
  have hB := Below.refl w.heap.size w
  go_enter Try.func45, Try.ntmps45
  go_wp2_with fail
  refine (mulq_any _ _ _ (by omega) (by omega)).mono ?_
  rintro e w2 ⟨rfl, hb⟩
  rw [show satI (roundI (1073741824 * 12345) 30) = 12345 from by rw [roundI30]; decide]
  replace hB := chain hB hb; clear hb
  go_wp2_with fail
  refine (mulq_any _ _ _ (by omega) (by omega)).mono ?_
  rintro e w2 ⟨rfl, hb⟩
  rw [show satI (roundI (-2147483648 * -2147483648) 30) = 2147483647 from by rw [roundI30]; decide]
  replace hB := chain hB hb; clear hb
  go_wp2_with fail
  refine (round_any _ _ _ (by omega)).mono ?_
  rintro e w2 ⟨rfl, rfl⟩
  rw [show roundI (-3) 1 = -1 from by rw [roundI1]; decide]
  go_wp2_with fail
  refine (mulr_any _ _ _ (by omega) (by omega)).mono ?_
  rintro e w2 ⟨rfl, hb⟩
  rw [show satI (roundI (65536 * 7) 16) = 7 from by rw [roundI16]; decide]
  replace hB := chain hB hb; clear hb
  go_wp2_with fail
  refine (mulh_any _ _ _ (by omega) (by omega)).mono ?_
  rintro e w2 ⟨rfl, hb⟩
  rw [show -1 * 1 / 4294967296 = (-1 : Int) from by decide]
  replace hB := chain hB hb; clear hb
  go_wp2_with fail
  refine (mull_any _ _ _ (by omega) (by omega)).mono ?_
  rintro e w2 ⟨rfl, hb⟩
  rw [show lowI (2147483647 * 2) = -2 from by decide]
  replace hB := chain hB hb; clear hb
  go_wp2
  go_ret
  exact ⟨rfl, hB⟩
theorem FixTells_walk (a0 : Int) (a1 : Int) (a2 : Int) (a3 : Int) (w0 : (Lit.int .i64 a0).wf = true) (w1 : (Lit.int .i64 a1).wf = true) (w2 : (Lit.int .i32 a2).wf = true) (w3 : (Lit.int .i32 a3).wf = true) (w : World) :
    Calls Try.prog 8 #[.int .i64 a0, .int .i64 a1, .int .i32 a2, .int .i32 a3] w fun e w' => e = .returned (.bool true) ∧ Below w.heap.size w w' := by
  have b0 := bd_i64 w0
  have b1 := bd_i64 w1
  have b2 := bd_i32 w2
  have b3 := bd_i32 w3
  clear w0 w1 w2 w3
  have hB := Below.refl w.heap.size w
  go_enter Try.func8, Try.ntmps8
  go_wp2_with fail
  refine (round_any _ _ _ b0).mono ?_
  rintro e w2 ⟨rfl, rfl⟩
  go_wp2_with fail
  refine (rround_any _ _ _ b0).mono ?_
  rintro e w2 ⟨rfl, rfl⟩
  go_wp2_with fail
  refine (mulq_any _ _ _ b2 b3).mono ?_
  rintro e w2 ⟨rfl, hb⟩
  replace hB := chain hB hb; clear hb
  go_wp2_with fail
  refine (rmulq_any _ _ _ b2 b3).mono ?_
  rintro e w2 ⟨rfl, rfl⟩
  go_wp2_with fail
  refine (mulr_any _ _ _ b2 b3).mono ?_
  rintro e w2 ⟨rfl, hb⟩
  replace hB := chain hB hb; clear hb
  go_wp2_with fail
  refine (rmulr_any _ _ _ b2 b3).mono ?_
  rintro e w2 ⟨rfl, rfl⟩
  go_wp2_with fail
  refine (mulh_any _ _ _ b2 b3).mono ?_
  rintro e w2 ⟨rfl, hb⟩
  replace hB := chain hB hb; clear hb
  go_wp2_with fail
  refine (rmulh_any _ _ _ b2 b3).mono ?_
  rintro e w2 ⟨rfl, rfl⟩
  go_wp2_with fail
  refine (mull_any _ _ _ b2 b3).mono ?_
  rintro e w2 ⟨rfl, hb⟩
  replace hB := chain hB hb; clear hb
  go_wp2_with fail
  refine (rmull_any _ _ _ b2 b3).mono ?_
  rintro e w2 ⟨rfl, rfl⟩
  go_wp2_with fail
  refine (awake05 _).mono ?_
  rintro e w2 ⟨rfl, hb⟩
  replace hB := chain hB hb; clear hb
  go_wp2
  go_ret
  exact ⟨rfl, hB⟩
set_option maxHeartbeats 4000000 in
theorem FixNear_walk (a0 : Int) (a1 : Int) (w0 : (Lit.int .i32 a0).wf = true) (w1 : (Lit.int .i32 a1).wf = true) (w : World) :
    Calls Try.prog 9 #[.int .i32 a0, .int .i32 a1] w fun e w' => e = .returned (.bool true) ∧ Below w.heap.size w w' := by
  have b0 := bd_i32 w0
  have b1 := bd_i32 w1
  clear w0 w1
  have hB := Below.refl w.heap.size w
  have hm := mul_bd a0 a1 b0 b1
  obtain ⟨q, hq⟩ : ∃ q, satI (roundI (a0 * a1) 30) = q := ⟨_, rfl⟩
  obtain ⟨r, hr⟩ : ∃ r, satI (roundI (a0 * a1) 16) = r := ⟨_, rfl⟩
  have cq := fun w => mulq_any a0 a1 w b0 b1
  have cr := fun w => mulr_any a0 a1 w b0 b1
  rw [hq] at cq
  rw [hr] at cr
  have Cq := hid cq
  have Cr := hid cr
  clear cq cr
  rw [roundI30] at hq
  rw [roundI16] at hr
  have fq : (q = -2147483648 ∧ a0 * a1 < -2305843008676823040) ∨ (q = 2147483647 ∧ 2305843007603081216 ≤ a0 * a1) ∨ (-2147483648 < q ∧ q < 2147483647 ∧ -536870912 ≤ a0 * a1 - q * 1073741824 ∧ a0 * a1 - q * 1073741824 < 536870912) := by
    unfold satI at hq; omega
  have fr : (r = -2147483648 ∧ a0 * a1 < -140737488322560) ∨ (r = 2147483647 ∧ 140737488257024 ≤ a0 * a1) ∨ (-2147483648 < r ∧ r < 2147483647 ∧ -32768 ≤ a0 * a1 - r * 65536 ∧ a0 * a1 - r * 65536 < 32768) := by
    unfold satI at hr; omega
  clear hq hr
  rcases fq with ⟨rfl, f1⟩ | ⟨rfl, f1⟩ | ⟨f1, f2, f3, f4⟩ <;> rcases fr with ⟨rfl, g1⟩ | ⟨rfl, g1⟩ | ⟨g1, g2, g3, g4⟩
  all_goals first | (exfalso; omega) | skip
  all_goals
    go_enter Try.func9, Try.ntmps9
    go_wp2_with fail
    refine (Cq.out _).mono ?_
    rintro e w2 ⟨rfl, hb⟩
    replace hB := chain hB hb; clear hb
    go_wp2_with fail
    refine (Cr.out _).mono ?_
    rintro e w2 ⟨rfl, hb⟩
    replace hB := chain hB hb; clear hb
    go_wp2_with fail
    refine (awake05 _).mono ?_
    rintro e w2 ⟨rfl, hb⟩
    replace hB := chain hB hb; clear hb
    go_wp2
    go_ret
    exact ⟨rfl, hB⟩
theorem FixWhole_walk (a0 : Int) (a1 : Int) (w0 : (Lit.int .i32 a0).wf = true) (w1 : (Lit.int .i32 a1).wf = true) (w : World) :
    Calls Try.prog 10 #[.int .i32 a0, .int .i32 a1] w fun e w' => e = .returned (.bool true) ∧ Below w.heap.size w w' := by
  have b0 := bd_i32 w0
  have b1 := bd_i32 w1
  clear w0 w1
  have hB := Below.refl w.heap.size w
  have hm := mul_bd a0 a1 b0 b1
  have hl := lowI_bd (a0 * a1)
  have t1 : (a0 * a1 / 4294967296 * 4294967296 + lowI (a0 * a1) % 4294967296 == a0 * a1) = true := by simp; unfold lowI; omega
  go_enter Try.func10, Try.ntmps10
  go_wp2_with fail
  refine (mulh_any _ _ _ b0 b1).mono ?_
  rintro e w2 ⟨rfl, hb⟩
  replace hB := chain hB hb; clear hb
  go_wp2_with fail
  refine (mull_any _ _ _ b0 b1).mono ?_
  rintro e w2 ⟨rfl, hb⟩
  replace hB := chain hB hb; clear hb
  go_wp2_with fail
  refine (awake05 _).mono ?_
  rintro e w2 ⟨rfl, hb⟩
  replace hB := chain hB hb; clear hb
  go_wp2
  go_ret
  exact ⟨rfl, hB⟩
theorem FixOnes_walk (a0 : Int) (a1 : Int) (w0 : (Lit.int .i32 a0).wf = true) (w1 : (Lit.int .i32 a1).wf = true) (w : World) :
    Calls Try.prog 11 #[.int .i32 a0, .int .i32 a1] w fun e w' => e = .returned (.bool true) ∧ Below w.heap.size w w' := by
  have b0 := bd_i32 w0
  have b1 := bd_i32 w1
  clear w0 w1
  have hB := Below.refl w.heap.size w
  have e1 : satI (roundI (a0 * 1073741824) 30) = a0 := by rw [roundI30]; unfold satI; omega
  have e2 : satI (roundI (a0 * 0) 30) = 0 := by rw [roundI30]; unfold satI; omega
  have e3 : satI (roundI (a0 * 65536) 16) = a0 := by rw [roundI16]; unfold satI; omega
  have c1 := fun w => mulq_any a0 1073741824 w b0 (by omega)
  have c2 := fun w => mulq_any a0 0 w b0 (by omega)
  have c3 := fun w => mulr_any a0 65536 w b0 (by omega)
  have c4 := fun w => mulq_any a1 a0 w b1 b0
  have c5 := fun w => mulr_any a1 a0 w b1 b0
  have c6 := fun w => mulq_any a0 (-1073741824) w b0 (by omega)
  rw [Int.mul_comm] at c4 c5
  rw [e1] at c1
  rw [e2] at c2
  rw [e3] at c3
  have C1 := hid c1
  have C2 := hid c2
  have C3 := hid c3
  have C4 := hid c4
  have C5 := hid c5
  clear c1 c2 c3 c4 c5 e1 e2 e3
  by_cases hmin : a0 = -2147483648
  · subst hmin
    have e4 : satI (roundI (-2147483648 * -1073741824) 30) = 2147483647 := by rw [roundI30]; decide
    rw [e4] at c6
    have C6 := hid c6
    clear c6 e4
    go_enter Try.func11, Try.ntmps11
    go_wp2_with fail
    refine (mulq_any _ _ _ b0 b1).mono ?_
    rintro e w2 ⟨rfl, hb⟩
    replace hB := chain hB hb; clear hb
    go_wp2_with fail
    refine (C4.out _).mono ?_
    rintro e w2 ⟨rfl, hb⟩
    replace hB := chain hB hb; clear hb
    go_wp2_with fail
    refine (mulr_any _ _ _ b0 b1).mono ?_
    rintro e w2 ⟨rfl, hb⟩
    replace hB := chain hB hb; clear hb
    go_wp2_with fail
    refine (C5.out _).mono ?_
    rintro e w2 ⟨rfl, hb⟩
    replace hB := chain hB hb; clear hb
    go_wp2_with fail
    refine (C1.out _).mono ?_
    rintro e w2 ⟨rfl, hb⟩
    replace hB := chain hB hb; clear hb
    go_wp2_with fail
    refine (C2.out _).mono ?_
    rintro e w2 ⟨rfl, hb⟩
    replace hB := chain hB hb; clear hb
    go_wp2_with fail
    refine (C3.out _).mono ?_
    rintro e w2 ⟨rfl, hb⟩
    replace hB := chain hB hb; clear hb
    go_wp2_with fail
    refine (C6.out _).mono ?_
    rintro e w2 ⟨rfl, hb⟩
    replace hB := chain hB hb; clear hb
    go_wp2
    go_ret
    exact ⟨rfl, hB⟩
  · have e4 : satI (roundI (a0 * -1073741824) 30) = -a0 := by rw [roundI30]; unfold satI; omega
    rw [e4] at c6
    have C6 := hid c6
    clear c6 e4
    have hmin' : (a0 == -2147483648) = false := by simp [hmin]
    go_enter Try.func11, Try.ntmps11
    go_wp2_with fail
    refine (mulq_any _ _ _ b0 b1).mono ?_
    rintro e w2 ⟨rfl, hb⟩
    replace hB := chain hB hb; clear hb
    go_wp2_with fail
    refine (C4.out _).mono ?_
    rintro e w2 ⟨rfl, hb⟩
    replace hB := chain hB hb; clear hb
    go_wp2_with fail
    refine (mulr_any _ _ _ b0 b1).mono ?_
    rintro e w2 ⟨rfl, hb⟩
    replace hB := chain hB hb; clear hb
    go_wp2_with fail
    refine (C5.out _).mono ?_
    rintro e w2 ⟨rfl, hb⟩
    replace hB := chain hB hb; clear hb
    go_wp2_with fail
    refine (C1.out _).mono ?_
    rintro e w2 ⟨rfl, hb⟩
    replace hB := chain hB hb; clear hb
    go_wp2_with fail
    refine (C2.out _).mono ?_
    rintro e w2 ⟨rfl, hb⟩
    replace hB := chain hB hb; clear hb
    go_wp2_with fail
    refine (C3.out _).mono ?_
    rintro e w2 ⟨rfl, hb⟩
    replace hB := chain hB hb; clear hb
    go_wp2_with fail
    refine (C6.out _).mono ?_
    rintro e w2 ⟨rfl, hb⟩
    replace hB := chain hB hb; clear hb
    go_wp2_with fail
    refine (awake05 _).mono ?_
    rintro e w2 ⟨rfl, hb⟩
    replace hB := chain hB hb; clear hb
    go_wp2
    go_ret
    exact ⟨rfl, hB⟩
theorem FixRounds_walk (a0 : Int) (a1 : Int) (w0 : (Lit.int .i64 a0).wf = true) (w1 : (Lit.int .i64 a1).wf = true) (w : World) :
    Calls Try.prog 12 #[.int .i64 a0, .int .i64 a1] w fun e w' => e = .returned (.bool true) ∧ Below w.heap.size w w' := by
  have b0 := bd_i64 w0
  have b1 := bd_i64 w1
  clear w0 w1
  have hB := Below.refl w.heap.size w
  by_cases h : a1 < 1 ∨ 62 < a1
  · have e : roundI a0 a1 = a0 := by unfold roundI; rw [if_pos h]
    have c := fun w => round_any a0 a1 w b0
    rw [e] at c
    have C := hid c
    clear c e
    by_cases h1 : a1 < 1
    · clear h
      go_enter Try.func12, Try.ntmps12
      go_wp2_with fail
      refine (C.out _).mono ?_
      rintro e w2 ⟨rfl, rfl⟩
      go_wp2_with fail
      refine (awake05 _).mono ?_
      rintro e w2 ⟨rfl, hb⟩
      replace hB := chain hB hb; clear hb
      go_wp2
      go_ret
      exact ⟨rfl, hB⟩
    · have h2 : 62 < a1 := by omega
      clear h
      go_enter Try.func12, Try.ntmps12
      go_wp2_with fail
      refine (C.out _).mono ?_
      rintro e w2 ⟨rfl, rfl⟩
      go_wp2_with fail
      refine (awake05 _).mono ?_
      rintro e w2 ⟨rfl, hb⟩
      replace hB := chain hB hb; clear hb
      go_wp2
      go_ret
      exact ⟨rfl, hB⟩
  · obtain ⟨n, rfl⟩ : ∃ n : Nat, a1 = n := ⟨a1.toNat, by omega⟩
    have h1 : 1 ≤ n := by omega
    have h2 : n ≤ 62 := by omega
    clear h
    have hf := round_spec a0 n b0 h1 h2
    have ha : bits .and .i64 a0 (2 ^ n - 1) = a0 % 2 ^ n := by
      have hq1 := Int.emod_nonneg a0 (show (2 : Int) ^ n ≠ 0 by omega)
      have hq2 := Int.emod_lt_of_pos a0 (show 0 < (2 : Int) ^ n by omega)
      rw [and_low .i64 n a0 (by simp [IntKind.bits]; omega), i64wrap]; omega
    have c := fun w => round_any a0 n w b0
    generalize hM : (2 : Int) ^ n = M at *
    obtain ⟨hM2, hy, hl, ht, hb, hf1, hf2⟩ := hf
    clear ht hl
    by_cases d : M / 2 ≤ a0 % M
    · rw [← hf1 d] at c
      have C := hid c
      clear c hf1 hf2
      go_enter Try.func12, Try.ntmps12
      go_wp2_with fail
      refine (C.out _).mono ?_
      rintro e w2 ⟨rfl, rfl⟩
      go_wp2_with fail
      refine (awake05 _).mono ?_
      rintro e w2 ⟨rfl, hb⟩
      replace hB := chain hB hb; clear hb
      go_wp2
      go_ret
      exact ⟨rfl, hB⟩
    · rw [← hf2 d] at c
      have C := hid c
      clear c hf1 hf2
      go_enter Try.func12, Try.ntmps12
      go_wp2_with fail
      refine (C.out _).mono ?_
      rintro e w2 ⟨rfl, rfl⟩
      go_wp2_with fail
      refine (awake05 _).mono ?_
      rintro e w2 ⟨rfl, hb⟩
      replace hB := chain hB hb; clear hb
      go_wp2
      go_ret
      exact ⟨rfl, hB⟩
end Go.Proofs.Ytkfffpdhnmjjmaa
