/- What the functions of package fix, and its reference, return: contracts. -/
import Derived.Test.YtkfffpdhnmjjmaaRef01
import Derived.Test.YtkfffpdhnmjjmaaSat
import Derived.Laws.EntriesVeiled
namespace Go.Proofs.Ytkfffpdhnmjjmaa
open Go.RowKit
def roundI (x n : Int) : Int := if n < 1 ∨ 62 < n then x else (x + 2 ^ (n - 1).toNat) / 2 ^ n.toNat
theorem half_up (x m : Int) (hm : 0 < m) : x / (m * 2) + x / m % 2 = (x + m) / (m * 2) := by
  rw [← Int.ediv_ediv_of_nonneg (by omega), ← Int.ediv_ediv_of_nonneg (by omega)]
  have : (x + m) / m = x / m + 1 := by rw [Int.add_ediv_of_dvd_right (Int.dvd_refl m), Int.ediv_self (by omega)]
  rw [this]; omega
theorem roundI_in (x : Int) (k : Nat) (hk : k ≤ 61) : roundI x ((k + 1 : Nat) : Int) = x / 2 ^ (k + 1) + x / 2 ^ k % 2 := by
  unfold roundI
  rw [if_neg (by omega)]
  have e1 : (((k + 1 : Nat) : Int) - 1).toNat = k := by omega
  have e2 : (((k + 1 : Nat) : Int)).toNat = k + 1 := by omega
  rw [e1, e2, Int.pow_succ, half_up _ _ (Int.pow_pos (by decide))]
theorem ediv_bd (x m L U : Int) (hm : 1 ≤ m) (hL : 0 ≤ L) (hU : 0 ≤ U) (hx : -L ≤ x ∧ x ≤ U) : -L ≤ x / m ∧ x / m ≤ U := by
  constructor
  · have h : x / m ≥ x ∨ x / m ≥ 0 := by
      by_cases h : 0 ≤ x
      · exact .inr (Int.ediv_nonneg h (by omega))
      · left
        have := Int.ediv_mul_le x (show m ≠ 0 by omega)
        have h2 := Int.lt_ediv_add_one_mul_self x (show 0 < m by omega)
        by_cases hq : x / m < 0
        · have h3 : (x / m + 1) * m ≤ (x / m + 1) * 1 := Int.mul_le_mul_of_nonpos_left (show x / m + 1 ≤ 0 by omega) hm
          omega
        · omega
    omega
  · by_cases h : 0 ≤ x
    · have := Int.ediv_le_self m h; omega
    · have := Int.ediv_neg_of_neg_of_pos (show x < 0 by omega) (show 0 < m by omega); omega
theorem ediv_bd2 (x : Int) (k : Nat) (hx : -9223372036854775808 ≤ x ∧ x ≤ 9223372036854775807) : -4611686018427387904 ≤ x / 2 ^ (k + 1) ∧ x / 2 ^ (k + 1) ≤ 4611686018427387903 := by
  rw [Int.pow_succ, Int.mul_comm, ← Int.ediv_ediv_of_nonneg (by omega)]
  exact ediv_bd (x / 2) (2 ^ k) 4611686018427387904 4611686018427387903 (by have : (0:Int) < 2 ^ k := Int.pow_pos (by decide); omega) (by omega) (by omega) (by omega)
theorem round_out (x n : Int) (w : World) (hn : n < 1 ∨ 62 < n) :
    Calls Try.prog 35 #[.int .i64 x, .int .i64 n] w fun e w' => e = .returned (.int .i64 (roundI x n)) ∧ w = w' := by
  have e : roundI x n = x := by unfold roundI; rw [if_pos hn]
  rw [e]; clear e
  by_cases h1 : n < 1
  · go_enter Try.func35, Try.ntmps35
    go_wp2
    go_ret
    exact ⟨rfl, rfl⟩
  · have h2 : 62 < n := by omega
    go_enter Try.func35, Try.ntmps35
    go_wp2
    go_ret
    exact ⟨rfl, rfl⟩
theorem and_one (x : Int) : bits .and .i64 x 1 = x % 2 := by
  have h := and_low .i64 1 x (by decide)
  rw [show ((2:Int) ^ 1) = 2 from rfl, show (2 - 1 : Int) = 1 from rfl] at h
  rw [h, i64wrap]; omega
theorem round_in (x n : Int) (w : World) (hx : -9223372036854775808 ≤ x ∧ x ≤ 9223372036854775807) (h1 : 1 ≤ n) (h2 : n ≤ 62) :
    Calls Try.prog 35 #[.int .i64 x, .int .i64 n] w fun e w' => e = .returned (.int .i64 (roundI x n)) ∧ w = w' := by
  go_enter Try.func35, Try.ntmps35
  go_wp2
  go_ret
  refine ⟨ret_int ?_, rfl⟩
  obtain ⟨k, hk⟩ : ∃ k : Nat, n = ((k + 1 : Nat) : Int) := ⟨(n - 1).toNat, by omega⟩
  subst hk
  show wrap64 (x / 2 ^ (((k + 1 : Nat) : Int)).toNat + bits .and .i64 (x / 2 ^ ((((k + 1 : Nat) : Int)).toNat - 1)) 1) = _
  rw [show (((k + 1 : Nat) : Int)).toNat = k + 1 from by omega, Nat.add_sub_cancel, roundI_in x k (by omega), and_one]
  have := ediv_bd2 x k hx
  generalize x / 2 ^ (k + 1) = p at *
  generalize x / 2 ^ k = q at *
  exact IntWalk.wrap64_in _ (by omega)
theorem round_any (x n : Int) (w : World) (hx : -9223372036854775808 ≤ x ∧ x ≤ 9223372036854775807) :
    Calls Try.prog 35 #[.int .i64 x, .int .i64 n] w fun e w' => e = .returned (.int .i64 (roundI x n)) ∧ w = w' := by
  by_cases h : n < 1 ∨ 62 < n
  · exact round_out x n w h
  · exact round_in x n w hx (by omega) (by omega)
theorem mul_bd (a b : Int) (ha : -2147483648 ≤ a ∧ a ≤ 2147483647) (hb : -2147483648 ≤ b ∧ b ≤ 2147483647) : -4611686016279904256 ≤ a * b ∧ a * b ≤ 4611686018427387904 := by
  have h1 : a * b ≥ -2147483648 * 2147483647 ∧ a * b ≤ 2147483648 * 2147483648 := by
    rcases Int.le_total 0 a with h | h <;> rcases Int.le_total 0 b with k | k
    · have := Int.mul_le_mul ha.2 hb.2 k (by omega); have := Int.mul_nonneg h k; omega
    · have := Int.mul_le_mul ha.2 (show -b ≤ 2147483648 by omega) (by omega) (by omega); have h2 := Int.mul_nonneg h (show 0 ≤ -b by omega); rw [Int.mul_neg] at *; omega
    · have := Int.mul_le_mul (show -a ≤ 2147483648 by omega) hb.2 (by omega) (by omega); have h2 := Int.mul_nonneg (show 0 ≤ -a by omega) k; rw [Int.neg_mul] at *; omega
    · have := Int.mul_le_mul (show -a ≤ 2147483648 by omega) (show -b ≤ 2147483648 by omega) (by omega) (by omega); have h2 := Int.mul_nonneg (show 0 ≤ -a by omega) (show 0 ≤ -b by omega); rw [Int.neg_mul_neg] at *; omega
  omega
theorem mulq_any (a b : Int) (w : World) (ha : -2147483648 ≤ a ∧ a ≤ 2147483647) (hb : -2147483648 ≤ b ∧ b ≤ 2147483647) :
    Calls Try.prog 37 #[.int .i32 a, .int .i32 b] w fun e w' => e = .returned (.int .i32 (satI (roundI (a * b) 30))) ∧ Below w.heap.size w w' := by
  have hm := mul_bd a b ha hb
  go_enter Try.func37, Try.ntmps37
  go_wp2_with (first | (go_at_call 35; refine (round_in _ _ _ (by omega) (by omega) (by omega)).mono ?_; rintro e w' ⟨rfl, rfl⟩) | (go_at_call 15; refine (sat_any _ _).mono ?_; rintro e w' ⟨rfl, rfl⟩) | go_in)
  go_ret
  exact ⟨rfl, by go_grown⟩
theorem mulr_any (a b : Int) (w : World) (ha : -2147483648 ≤ a ∧ a ≤ 2147483647) (hb : -2147483648 ≤ b ∧ b ≤ 2147483647) :
    Calls Try.prog 39 #[.int .i32 a, .int .i32 b] w fun e w' => e = .returned (.int .i32 (satI (roundI (a * b) 16))) ∧ Below w.heap.size w w' := by
  have hm := mul_bd a b ha hb
  go_enter Try.func39, Try.ntmps39
  go_wp2_with (first | (go_at_call 35; refine (round_in _ _ _ (by omega) (by omega) (by omega)).mono ?_; rintro e w' ⟨rfl, rfl⟩) | (go_at_call 15; refine (sat_any _ _).mono ?_; rintro e w' ⟨rfl, rfl⟩) | go_in)
  go_ret
  exact ⟨rfl, by go_grown⟩
theorem mulh_any (a b : Int) (w : World) (ha : -2147483648 ≤ a ∧ a ≤ 2147483647) (hb : -2147483648 ≤ b ∧ b ≤ 2147483647) :
    Calls Try.prog 41 #[.int .i32 a, .int .i32 b] w fun e w' => e = .returned (.int .i32 (a * b / 4294967296)) ∧ Below w.heap.size w w' := by
  have hm := mul_bd a b ha hb
  go_enter Try.func41, Try.ntmps41
  go_wp2_with (first | (go_at_call 32; refine (high_any _ _ (by omega)).mono ?_; rintro e w' ⟨rfl, rfl⟩) | go_in)
  go_ret
  exact ⟨rfl, by go_grown⟩
theorem mull_any (a b : Int) (w : World) (ha : -2147483648 ≤ a ∧ a ≤ 2147483647) (hb : -2147483648 ≤ b ∧ b ≤ 2147483647) :
    Calls Try.prog 43 #[.int .i32 a, .int .i32 b] w fun e w' => e = .returned (.int .i32 (lowI (a * b))) ∧ Below w.heap.size w w' := by
  have hm := mul_bd a b ha hb
  go_enter Try.func43, Try.ntmps43
  go_wp2_with (first | (go_at_call 33; refine (low_any _ _).mono ?_; rintro e w' ⟨rfl, rfl⟩) | go_in)
  go_ret
  exact ⟨rfl, by go_grown⟩
/-! the reference -/
theorem ediv_one (y M : Int) (h1 : M ≤ y) (h2 : y < M * 2) (hM : 0 < M) : y / M = 1 := by
  have a := (Int.le_ediv_iff_mul_le hM (a := 1) (b := y)).2 (by omega)
  have b := (Int.ediv_lt_iff_lt_mul hM (a := y) (b := 2)).2 (by omega)
  omega
theorem round_fold (x h : Int) (hh : 0 < h) : (h ≤ x % (h * 2) → x / (h * 2) + 1 = (x + h) / (h * 2)) ∧ (¬ h ≤ x % (h * 2) → x / (h * 2) = (x + h) / (h * 2)) := by
  have h1 := Int.emod_nonneg x (show h * 2 ≠ 0 by omega)
  have h2 := Int.emod_lt_of_pos x (show 0 < h * 2 by omega)
  have e : (x + h) / (h * 2) = (x % (h * 2) + h) / (h * 2) + x / (h * 2) := by
    have hx : x + h = (x % (h * 2) + h) + (h * 2) * (x / (h * 2)) := by have := Int.mul_ediv_add_emod x (h * 2); omega
    conv => lhs; rw [hx]
    rw [Int.add_mul_ediv_left _ _ (by omega)]
  constructor
  · intro h3
    have e1 := ediv_one (x % (h * 2) + h) (h * 2) (by omega) (by omega) (by omega)
    omega
  · intro h3
    have e0 : (x % (h * 2) + h) / (h * 2) = 0 := Int.ediv_eq_zero_of_lt (by omega) (by omega)
    rw [e, e0]; omega
theorem round_spec (x : Int) (n : Nat) (hx : -9223372036854775808 ≤ x ∧ x ≤ 9223372036854775807) (h1 : 1 ≤ n) (h2 : n ≤ 62) : (2 ≤ (2 : Int) ^ n ∧ (2 : Int) ^ n ≤ 4611686018427387904) ∧ (0 ≤ x % 2 ^ n ∧ x % 2 ^ n < 2 ^ n) ∧
    (-9223372036854775808 ≤ x - x % 2 ^ n) ∧ (x - x % 2 ^ n).tdiv (2 ^ n) = x / 2 ^ n ∧ (-4611686018427387904 ≤ x / 2 ^ n ∧ x / 2 ^ n ≤ 4611686018427387903) ∧
    ((2 : Int) ^ n / 2 ≤ x % 2 ^ n → x / 2 ^ n + 1 = roundI x n) ∧ (¬ (2 : Int) ^ n / 2 ≤ x % 2 ^ n → x / 2 ^ n = roundI x n) := by
  obtain ⟨j, rfl⟩ : ∃ j, n = j + 1 := ⟨n - 1, by omega⟩
  have hp := pow_bd (j + 1) (by omega)
  have hj := pow_bd j (by omega)
  have hf := round_fold x (2 ^ j) (Int.pow_pos (by decide))
  have e : roundI x ((j + 1 : Nat) : Int) = (x + 2 ^ j) / (2 ^ j * 2) := by
    unfold roundI
    rw [if_neg (by omega), show (((j + 1 : Nat) : Int) - 1).toNat = j by omega, show (((j + 1 : Nat) : Int)).toNat = j + 1 by omega, Int.pow_succ]
  have hb := ediv_bd2 x j hx
  have hl : -9223372036854775808 ≤ x - x % 2 ^ (j + 1) := by
    obtain ⟨d, hd⟩ : ∃ d, 63 = (j + 1) + d := ⟨62 - j, by omega⟩
    have h63 : (9223372036854775808 : Int) = 2 ^ d * 2 ^ (j + 1) := by
      rw [← Int.pow_add, Nat.add_comm, ← hd]; rfl
    have hpos : (0 : Int) < 2 ^ (j + 1) := by omega
    have hq : -(2 ^ d) ≤ x / 2 ^ (j + 1) := (Int.le_ediv_iff_mul_le hpos).2 (by rw [Int.neg_mul, ← h63]; omega)
    have hm := Int.mul_le_mul_of_nonneg_right hq (show (0:Int) ≤ 2 ^ (j + 1) by omega)
    rw [Int.neg_mul, ← h63] at hm
    have := Int.mul_ediv_add_emod x (2 ^ (j + 1))
    rw [Int.mul_comm] at this
    omega
  rw [e]; clear e
  have ht := tdiv_exact x (2 ^ (j + 1)) (by omega)
  rw [Int.pow_succ] at *
  have hq1 := Int.emod_nonneg x (show (2 : Int) ^ j * 2 ≠ 0 by omega)
  have hq2 := Int.emod_lt_of_pos x (show 0 < (2 : Int) ^ j * 2 by omega)
  rw [show (2 : Int) ^ j * 2 / 2 = 2 ^ j by omega]
  exact ⟨by omega, ⟨hq1, hq2⟩, hl, ht, hb, hf.1, hf.2⟩
theorem rround_in (x : Int) (n : Nat) (w : World) (hx : -9223372036854775808 ≤ x ∧ x ≤ 9223372036854775807) (h1 : 1 ≤ n) (h2 : n ≤ 62) :
    Calls Try.prog 36 #[.int .i64 x, .int .i64 n] w fun e w' => e = .returned (.int .i64 (roundI x n)) ∧ w = w' := by
  go_enter Try.func36, Try.ntmps36
  go_wp2_with fail
  go_loop [5, 6] (fun m i => ∃ k : Nat, k ≤ n ∧ i = .int .i64 k ∧ m = .int .i64 (2 ^ k)) (fun _ i => n - (intOf i).toNat)
  case atStart => exact ⟨0, Nat.zero_le _, rfl, rfl⟩
  case round =>
    obtain ⟨k, hk, rfl, rfl⟩ := hrel
    have hp := pow_bd k (by omega)
    by_cases hlt : k < n
    · have hp1 := pow_bd (k + 1) (by omega)
      rw [Int.pow_succ] at hp1
      generalize hm : (2 : Int) ^ k = m at *
      have HM := hid hm; clear hm
      go_wp2_with fail
      go_round
      case rel => exact ⟨k + 1, by omega, by go_num, by rw [Int.pow_succ, HM.out, Int.mul_comm]⟩
      case measure => simp [intOf]; omega
    · obtain rfl : n = k := by omega
      have hf := round_spec x n hx h1 h2
      generalize (2 : Int) ^ n = M at *
      obtain ⟨hM, hy, hl, ht, hb, hf1, hf2⟩ := hf
      by_cases c : M / 2 ≤ x % M
      · have e := hid (hf1 c)
        clear hf1 hf2
        go_wp2_with (go_at_call 56; refine (mod_any _ _ _ (by omega) (by omega)).mono ?_; rintro e w' ⟨rfl, rfl⟩)
        go_ret
        exact ⟨ret_int e.out, rfl⟩
      · have e := hid (hf2 c)
        clear hf1 hf2
        go_wp2_with (go_at_call 56; refine (mod_any _ _ _ (by omega) (by omega)).mono ?_; rintro e w' ⟨rfl, rfl⟩)
        go_ret
        exact ⟨ret_int e.out, rfl⟩
theorem rround_any (x n : Int) (w : World) (hx : -9223372036854775808 ≤ x ∧ x ≤ 9223372036854775807) :
    Calls Try.prog 36 #[.int .i64 x, .int .i64 n] w fun e w' => e = .returned (.int .i64 (roundI x n)) ∧ w = w' := by
  by_cases h : n < 1 ∨ 62 < n
  · have e : roundI x n = x := by unfold roundI; rw [if_pos h]
    rw [e]; clear e
    by_cases h1 : n < 1
    · go_enter Try.func36, Try.ntmps36
      go_wp2
      go_ret
      exact ⟨rfl, rfl⟩
    · have h2 : 62 < n := by omega
      go_enter Try.func36, Try.ntmps36
      go_wp2
      go_ret
      exact ⟨rfl, rfl⟩
  · obtain ⟨k, rfl⟩ : ∃ k : Nat, n = k := ⟨n.toNat, by omega⟩
    exact rround_in x k w hx (by omega) (by omega)
theorem rmulq_any (a b : Int) (w : World) (ha : -2147483648 ≤ a ∧ a ≤ 2147483647) (hb : -2147483648 ≤ b ∧ b ≤ 2147483647) :
    Calls Try.prog 38 #[.int .i32 a, .int .i32 b] w fun e w' => e = .returned (.int .i32 (satI (roundI (a * b) 30))) ∧ w = w' := by
  have hm := mul_bd a b ha hb
  go_enter Try.func38, Try.ntmps38
  go_wp2_with (first | (go_at_call 36; refine (rround_any _ _ _ (by omega)).mono ?_; rintro e w' ⟨rfl, rfl⟩) | (go_at_call 20; refine (rsat_any _ _).mono ?_; rintro e w' ⟨rfl, rfl⟩))
  go_ret
  exact ⟨rfl, rfl⟩
theorem rmulr_any (a b : Int) (w : World) (ha : -2147483648 ≤ a ∧ a ≤ 2147483647) (hb : -2147483648 ≤ b ∧ b ≤ 2147483647) :
    Calls Try.prog 40 #[.int .i32 a, .int .i32 b] w fun e w' => e = .returned (.int .i32 (satI (roundI (a * b) 16))) ∧ w = w' := by
  have hm := mul_bd a b ha hb
  go_enter Try.func40, Try.ntmps40
  go_wp2_with (first | (go_at_call 36; refine (rround_any _ _ _ (by omega)).mono ?_; rintro e w' ⟨rfl, rfl⟩) | (go_at_call 20; refine (rsat_any _ _).mono ?_; rintro e w' ⟨rfl, rfl⟩))
  go_ret
  exact ⟨rfl, rfl⟩
theorem rmulh_any (a b : Int) (w : World) (ha : -2147483648 ≤ a ∧ a ≤ 2147483647) (hb : -2147483648 ≤ b ∧ b ≤ 2147483647) :
    Calls Try.prog 42 #[.int .i32 a, .int .i32 b] w fun e w' => e = .returned (.int .i32 (a * b / 4294967296)) ∧ w = w' := by
  have hm := mul_bd a b ha hb
  go_enter Try.func42, Try.ntmps42
  go_wp2_with (first | (go_at_call 59; refine (rhigh_any _ _ (by omega)).mono ?_; rintro e w' ⟨rfl, rfl⟩))
  go_ret
  exact ⟨rfl, rfl⟩
theorem rmull_any (a b : Int) (w : World) (ha : -2147483648 ≤ a ∧ a ≤ 2147483647) (hb : -2147483648 ≤ b ∧ b ≤ 2147483647) :
    Calls Try.prog 44 #[.int .i32 a, .int .i32 b] w fun e w' => e = .returned (.int .i32 (lowI (a * b))) ∧ w = w' := by
  have hm := mul_bd a b ha hb
  go_enter Try.func44, Try.ntmps44
  go_wp2_with (first | (go_at_call 60; refine (rlow_any _ _ (by omega)).mono ?_; rintro e w' ⟨rfl, rfl⟩))
  go_ret
  exact ⟨rfl, rfl⟩
end Go.Proofs.Ytkfffpdhnmjjmaa
