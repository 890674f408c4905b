/- What the functions of the reference of layer 1 return: contracts. -/
import Derived.Test.YtkfffpdhnmjjmaaWord
import Derived.Deep.QuietTactic
import Derived.BigQuiet
namespace Go.Proofs.Ytkfffpdhnmjjmaa
open Go.RowKit
theorem pow_bd (k : Nat) (h : k ≤ 62) : (1 : Int) ≤ 2 ^ k ∧ (2 : Int) ^ k ≤ 4611686018427387904 := by
  have h1 : (0 : Int) < 2 ^ k := Int.pow_pos (by decide)
  have h2 : (2 : Nat) ^ k ≤ 2 ^ 62 := Nat.pow_le_pow_right (by decide) h
  have h3 : ((2 ^ k : Nat) : Int) ≤ ((2 ^ 62 : Nat) : Int) := by exact_mod_cast h2
  refine ⟨by omega, ?_⟩
  have e : ((2 ^ k : Nat) : Int) = 2 ^ k := by simp
  have e2 : ((2 ^ 62 : Nat) : Int) = 4611686018427387904 := by decide
  rw [e, e2] at h3
  exact h3
theorem tmod_cases (x m : Int) (hm : 0 < m) : (x.tmod m < 0 ∧ x.tmod m + m = x % m ∧ -m < x.tmod m) ∨ (¬ x.tmod m < 0 ∧ x.tmod m = x % m ∧ x.tmod m < m) := by
  have h1 := Int.emod_nonneg x (show m ≠ 0 by omega)
  have h2 := Int.emod_lt_of_pos x hm
  by_cases hx : 0 ≤ x
  · right
    rw [Int.tmod_eq_emod_of_nonneg hx]; omega
  · have e : x.tmod m = - ((-x) % m) := by
      rw [← Int.tmod_eq_emod_of_nonneg (show 0 ≤ -x by omega), Int.neg_tmod, Int.neg_neg]
    have h3 := Int.emod_nonneg (-x) (show m ≠ 0 by omega)
    have h4 := Int.emod_lt_of_pos (-x) hm
    have e2 : x % m = if (-x) % m = 0 then 0 else m - (-x) % m := by
      have := Int.neg_emod (a := -x) (b := m)
      rw [Int.neg_neg] at this
      rw [this]
      simp only [Int.dvd_iff_emod_eq_zero]
      split <;> omega
    rw [e, e2]
    by_cases h0 : (-x) % m = 0
    · right; rw [if_pos h0]; omega
    · left; rw [if_neg h0]; omega
theorem mod_any (x m : Int) (w : World) (_hx : -9223372036854775808 ≤ x ∧ x ≤ 9223372036854775807) (hm : 1 ≤ m ∧ m ≤ 4611686018427387904) :
    Calls Try.prog 56 #[.int .i64 x, .int .i64 m] w fun e w' => e = .returned (.int .i64 (x % m)) ∧ w = w' := by
  have hz : (m == 0) = false := by simp; omega
  rcases tmod_cases x m (by omega) with ⟨h1, h2, h3⟩ | ⟨h1, h2, h3⟩
  · have H2 := hid h2; clear h2
    go_enter Try.func56, Try.ntmps56
    go_wp2
    go_ret
    exact ⟨ret_int H2.out, rfl⟩
  · have H2 := hid h2; clear h2
    go_enter Try.func56, Try.ntmps56
    go_wp2
    go_ret
    exact ⟨ret_int H2.out, rfl⟩
def signedI (x : Int) (k : Nat) : Int := (x + 2 ^ (k - 1)) % 2 ^ k - 2 ^ (k - 1)
theorem signed_fold (x h : Int) (hh : 0 < h) : (h ≤ x % (h * 2) → x % (h * 2) - h * 2 = (x + h) % (h * 2) - h) ∧ (¬ h ≤ x % (h * 2) → x % (h * 2) = (x + h) % (h * 2) - h) := by
  have h1 := Int.emod_nonneg x (show h * 2 ≠ 0 by omega)
  have h2 := Int.emod_lt_of_pos x (show 0 < h * 2 by omega)
  have e : (x + h) % (h * 2) = (x % (h * 2) + h) % (h * 2) := by rw [Int.emod_add_emod]
  constructor
  · intro h3
    have e3 : (x % (h * 2) - h) % (h * 2) = x % (h * 2) - h := Int.emod_eq_of_lt (by omega) (by omega)
    have e4 : (x % (h * 2) + h) % (h * 2) = (x % (h * 2) - h) % (h * 2) := by
      rw [show x % (h * 2) + h = (x % (h * 2) - h) + h * 2 by omega, Int.add_emod_right]
    omega
  · intro h3
    have e3 : (x % (h * 2) + h) % (h * 2) = x % (h * 2) + h := Int.emod_eq_of_lt (by omega) (by omega)
    omega
theorem tdiv_exact (x M : Int) (h : M ≠ 0) : (x - x % M).tdiv M = x / M := by
  have : x - x % M = M * (x / M) := by have := Int.mul_ediv_add_emod x M; omega
  rw [this, Int.mul_tdiv_cancel_left _ h]
theorem signed_spec (x : Int) (n : Nat) (h1 : 1 ≤ n) (h2 : n ≤ 32) : (2 ≤ (2 : Int) ^ n ∧ (2 : Int) ^ n ≤ 4611686018427387904) ∧ (0 ≤ x % 2 ^ n ∧ x % 2 ^ n < 2 ^ n) ∧
    ((2 : Int) ^ n / 2 ≤ x % 2 ^ n → x % 2 ^ n - 2 ^ n = signedI x n) ∧ (¬ (2 : Int) ^ n / 2 ≤ x % 2 ^ n → x % 2 ^ n = signedI x n) := by
  obtain ⟨j, rfl⟩ : ∃ j, n = j + 1 := ⟨n - 1, by omega⟩
  have hp := pow_bd (j + 1) (by omega)
  have hj := pow_bd j (by omega)
  have hf := signed_fold x (2 ^ j) (Int.pow_pos (by decide))
  have e : signedI x (j + 1) = (x + 2 ^ j) % (2 ^ j * 2) - 2 ^ j := by unfold signedI; rw [Nat.add_sub_cancel, Int.pow_succ]
  rw [e]; clear e
  rw [Int.pow_succ] at *
  have hq1 := Int.emod_nonneg x (show (2 : Int) ^ j * 2 ≠ 0 by omega)
  have hq2 := Int.emod_lt_of_pos x (show 0 < (2 : Int) ^ j * 2 by omega)
  rw [show (2 : Int) ^ j * 2 / 2 = 2 ^ j by omega]
  exact ⟨by omega, ⟨hq1, hq2⟩, hf.1, hf.2⟩
theorem signed_any (x : Int) (n : Nat) (w : World) (hx : -9223372036854775808 ≤ x ∧ x ≤ 9223372036854775807) (h1 : 1 ≤ n) (h2 : n ≤ 32) :
    Calls Try.prog 66 #[.int .i64 x, .int .i64 n] w fun e w' => e = .returned (.int .i64 (signedI x n)) ∧ w = w' := by
  go_enter Try.func66, Try.ntmps66
  go_wp2_with fail
  go_loop [5, 6] (fun m i => ∃ k : Nat, k ≤ n ∧ i = .int .i64 k ∧ m = .int .i64 (2 ^ k)) (fun _ i => n - (intOf i).toNat)
  case atStart => exact ⟨0, Nat.zero_le _, rfl, rfl⟩
  case round =>
    obtain ⟨k, hk, rfl, rfl⟩ := hrel
    have hp := pow_bd k (by omega)
    by_cases hlt : k < n
    · have hp1 := pow_bd (k + 1) (by omega)
      rw [Int.pow_succ] at hp1
      generalize hm : (2 : Int) ^ k = m at *
      have HM := hid hm; clear hm
      go_wp2_with fail
      go_round
      case rel => exact ⟨k + 1, by omega, by go_num, by rw [Int.pow_succ, HM.out, Int.mul_comm]⟩
      case measure => simp [intOf]; omega
    · obtain rfl : n = k := by omega
      have hf := signed_spec x n h1 h2
      generalize (2 : Int) ^ n = M at *
      obtain ⟨hM, hy, hf1, hf2⟩ := hf
      by_cases c : M / 2 ≤ x % M
      · have e := hid (hf1 c)
        clear hf1 hf2
        go_wp2_with (go_at_call 56; refine (mod_any _ _ _ (by omega) (by omega)).mono ?_; rintro e w' ⟨rfl, rfl⟩)
        go_ret
        exact ⟨ret_int e.out, rfl⟩
      · have e := hid (hf2 c)
        clear hf1 hf2
        go_wp2_with (go_at_call 56; refine (mod_any _ _ _ (by omega) (by omega)).mono ?_; rintro e w' ⟨rfl, rfl⟩)
        go_ret
        exact ⟨ret_int e.out, rfl⟩
theorem rlow_any (x : Int) (w : World) (hx : -9223372036854775808 ≤ x ∧ x ≤ 9223372036854775807) :
    Calls Try.prog 60 #[.int .i64 x] w fun e w' => e = .returned (.int .i32 (lowI x)) ∧ w = w' := by
  have hb := lowI_bd x
  have e1 : signedI x 32 = lowI x := by unfold signedI lowI; rw [show ((2:Int) ^ (32 - 1)) = 2147483648 from rfl, show ((2:Int) ^ 32) = 4294967296 from rfl]
  go_enter Try.func60, Try.ntmps60
  go_wp2_with fail
  refine (signed_any x 32 _ hx (by decide) (by decide)).mono ?_
  rintro e w2 ⟨rfl, rfl⟩
  rw [e1]; clear e1
  go_wp2
  go_ret
  exact ⟨rfl, rfl⟩
theorem rhigh_any (x : Int) (w : World) (hx : -9223372036854775808 ≤ x ∧ x ≤ 9223372036854775807) :
    Calls Try.prog 59 #[.int .i64 x] w fun e w' => e = .returned (.int .i32 (x / 4294967296)) ∧ w = w' := by
  go_enter Try.func59, Try.ntmps59
  go_wp2_with fail
  refine (mod_any _ _ _ hx (by omega)).mono ?_
  rintro e w2 ⟨rfl, rfl⟩
  go_wp2
  go_ret
  refine ⟨ret_int ?_, rfl⟩
  show wrap32 ((x - x % 4294967296).tdiv 4294967296) = _
  rw [tdiv_exact _ _ (by decide)]
  exact IntWalk.wrap32_in _ (by omega)
end Go.Proofs.Ytkfffpdhnmjjmaa
