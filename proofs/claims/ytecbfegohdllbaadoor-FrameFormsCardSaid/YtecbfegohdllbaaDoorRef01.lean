/- What the functions of the reference of layer 1 return: contracts. -/
import Derived.Test.YtecbfegohdllbaaDoorWord
import Derived.Deep.QuietTactic
import Derived.BigQuiet
namespace Go.Proofs.YtecbfegohdllbaaDoor
open Go.RowKit
theorem pow_bd (k : Nat) (h : k ≤ 62) : (1 : Int) ≤ 2 ^ k ∧ (2 : Int) ^ k ≤ 4611686018427387904 := by
  have h1 : (0 : Int) < 2 ^ k := Int.pow_pos (by decide)
  have h2 : (2 : Nat) ^ k ≤ 2 ^ 62 := Nat.pow_le_pow_right (by decide) h
  have h3 : ((2 ^ k : Nat) : Int) ≤ ((2 ^ 62 : Nat) : Int) := by exact_mod_cast h2
  refine ⟨by omega, ?_⟩
  have e : ((2 ^ k : Nat) : Int) = 2 ^ k := by simp
  have e2 : ((2 ^ 62 : Nat) : Int) = 4611686018427387904 := by decide
  rw [e, e2] at h3
  exact h3
theorem tmod_cases (x m : Int) (hm : 0 < m) : (x.tmod m < 0 ∧ x.tmod m + m = x % m ∧ -m < x.tmod m) ∨ (¬ x.tmod m < 0 ∧ x.tmod m = x % m ∧ x.tmod m < m) := by
  have h1 := Int.emod_nonneg x (show m ≠ 0 by omega)
  have h2 := Int.emod_lt_of_pos x hm
  by_cases hx : 0 ≤ x
  · right
    rw [Int.tmod_eq_emod_of_nonneg hx]; omega
  · have e : x.tmod m = - ((-x) % m) := by
      rw [← Int.tmod_eq_emod_of_nonneg (show 0 ≤ -x by omega), Int.neg_tmod, Int.neg_neg]
    have h3 := Int.emod_nonneg (-x) (show m ≠ 0 by omega)
    have h4 := Int.emod_lt_of_pos (-x) hm
    have e2 : x % m = if (-x) % m = 0 then 0 else m - (-x) % m := by
      have := Int.neg_emod (a := -x) (b := m)
      rw [Int.neg_neg] at this
      rw [this]
      simp only [Int.dvd_iff_emod_eq_zero]
      split <;> omega
    rw [e, e2]
    by_cases h0 : (-x) % m = 0
    · right; rw [if_pos h0]; omega
    · left; rw [if_neg h0]; omega
theorem mod_any (x m : Int) (w : World) (_hx : -9223372036854775808 ≤ x ∧ x ≤ 9223372036854775807) (hm : 1 ≤ m ∧ m ≤ 4611686018427387904) :
    Calls Tryd.prog 62 #[.int .i64 x, .int .i64 m] w fun e w' => e = .returned (.int .i64 (x % m)) ∧ w = w' := by
  have hz : (m == 0) = false := by simp; omega
  rcases tmod_cases x m (by omega) with ⟨h1, h2, h3⟩ | ⟨h1, h2, h3⟩
  · have H2 := hid h2; clear h2
    go_enter Tryd.func62, Tryd.ntmps62
    go_wp2
    go_ret
    exact ⟨ret_int H2.out, rfl⟩
  · have H2 := hid h2; clear h2
    go_enter Tryd.func62, Tryd.ntmps62
    go_wp2
    go_ret
    exact ⟨ret_int H2.out, rfl⟩
def signedI (x : Int) (k : Nat) : Int := (x + 2 ^ (k - 1)) % 2 ^ k - 2 ^ (k - 1)
theorem signed_fold (x h : Int) (hh : 0 < h) : (h ≤ x % (h * 2) → x % (h * 2) - h * 2 = (x + h) % (h * 2) - h) ∧ (¬ h ≤ x % (h * 2) → x % (h * 2) = (x + h) % (h * 2) - h) := by
  have h1 := Int.emod_nonneg x (show h * 2 ≠ 0 by omega)
  have h2 := Int.emod_lt_of_pos x (show 0 < h * 2 by omega)
  have e : (x + h) % (h * 2) = (x % (h * 2) + h) % (h * 2) := by rw [Int.emod_add_emod]
  constructor
  · intro h3
    have e3 : (x % (h * 2) - h) % (h * 2) = x % (h * 2) - h := Int.emod_eq_of_lt (by omega) (by omega)
    have e4 : (x % (h * 2) + h) % (h * 2) = (x % (h * 2) - h) % (h * 2) := by
      rw [show x % (h * 2) + h = (x % (h * 2) - h) + h * 2 by omega, Int.add_emod_right]
    omega
  · intro h3
    have e3 : (x % (h * 2) + h) % (h * 2) = x % (h * 2) + h := Int.emod_eq_of_lt (by omega) (by omega)
    omega
theorem tdiv_exact (x M : Int) (h : M ≠ 0) : (x - x % M).tdiv M = x / M := by
  have : x - x % M = M * (x / M) := by have := Int.mul_ediv_add_emod x M; omega
  rw [this, Int.mul_tdiv_cancel_left _ h]
theorem signed_spec (x : Int) (n : Nat) (h1 : 1 ≤ n) (h2 : n ≤ 32) : (2 ≤ (2 : Int) ^ n ∧ (2 : Int) ^ n ≤ 4611686018427387904) ∧ (0 ≤ x % 2 ^ n ∧ x % 2 ^ n < 2 ^ n) ∧
    ((2 : Int) ^ n / 2 ≤ x % 2 ^ n → x % 2 ^ n - 2 ^ n = signedI x n) ∧ (¬ (2 : Int) ^ n / 2 ≤ x % 2 ^ n → x % 2 ^ n = signedI x n) := by
  obtain ⟨j, rfl⟩ : ∃ j, n = j + 1 := ⟨n - 1, by omega⟩
  have hp := pow_bd (j + 1) (by omega)
  have hj := pow_bd j (by omega)
  have hf := signed_fold x (2 ^ j) (Int.pow_pos (by decide))
  have e : signedI x (j + 1) = (x + 2 ^ j) % (2 ^ j * 2) - 2 ^ j := by unfold signedI; rw [Nat.add_sub_cancel, Int.pow_succ]
  rw [e]; clear e
  rw [Int.pow_succ] at *
  have hq1 := Int.emod_nonneg x (show (2 : Int) ^ j * 2 ≠ 0 by omega)
  have hq2 := Int.emod_lt_of_pos x (show 0 < (2 : Int) ^ j * 2 by omega)
  rw [show (2 : Int) ^ j * 2 / 2 = 2 ^ j by omega]
  exact ⟨by omega, ⟨hq1, hq2⟩, hf.1, hf.2⟩
theorem signed_any (x : Int) (n : Nat) (w : World) (hx : -9223372036854775808 ≤ x ∧ x ≤ 9223372036854775807) (h1 : 1 ≤ n) (h2 : n ≤ 32) :
    Calls Tryd.prog 95 #[.int .i64 x, .int .i64 n] w fun e w' => e = .returned (.int .i64 (signedI x n)) ∧ w = w' := by
  go_enter Tryd.func95, Tryd.ntmps95
  go_wp2_with fail
  go_loop [5, 6] (fun m i => ∃ k : Nat, k ≤ n ∧ i = .int .i64 k ∧ m = .int .i64 (2 ^ k)) (fun _ i => n - (intOf i).toNat)
  case atStart => exact ⟨0, Nat.zero_le _, rfl, rfl⟩
  case round =>
    obtain ⟨k, hk, rfl, rfl⟩ := hrel
    have hp := pow_bd k (by omega)
    by_cases hlt : k < n
    · have hp1 := pow_bd (k + 1) (by omega)
      rw [Int.pow_succ] at hp1
      generalize hm : (2 : Int) ^ k = m at *
      have HM := hid hm; clear hm
      go_wp2_with fail
      go_round
      case rel => exact ⟨k + 1, by omega, by go_num, by rw [Int.pow_succ, HM.out, Int.mul_comm]⟩
      case measure => simp [intOf]; omega
    · obtain rfl : n = k := by omega
      have hf := signed_spec x n h1 h2
      generalize (2 : Int) ^ n = M at *
      obtain ⟨hM, hy, hf1, hf2⟩ := hf
      by_cases c : M / 2 ≤ x % M
      · have e := hid (hf1 c)
        clear hf1 hf2
        go_wp2_with (go_at_call 62; refine (mod_any _ _ _ (by omega) (by omega)).mono ?_; rintro e w' ⟨rfl, rfl⟩)
        go_ret
        exact ⟨ret_int e.out, rfl⟩
      · have e := hid (hf2 c)
        clear hf1 hf2
        go_wp2_with (go_at_call 62; refine (mod_any _ _ _ (by omega) (by omega)).mono ?_; rintro e w' ⟨rfl, rfl⟩)
        go_ret
        exact ⟨ret_int e.out, rfl⟩
theorem rlow_any (x : Int) (w : World) (hx : -9223372036854775808 ≤ x ∧ x ≤ 9223372036854775807) :
    Calls Tryd.prog 87 #[.int .i64 x] w fun e w' => e = .returned (.int .i32 (lowI x)) ∧ w = w' := by
  have hb := lowI_bd x
  have e1 : signedI x 32 = lowI x := by unfold signedI lowI; rw [show ((2:Int) ^ (32 - 1)) = 2147483648 from rfl, show ((2:Int) ^ 32) = 4294967296 from rfl]
  go_enter Tryd.func87, Tryd.ntmps87
  go_wp2_with fail
  refine (signed_any x 32 _ hx (by decide) (by decide)).mono ?_
  rintro e w2 ⟨rfl, rfl⟩
  rw [e1]; clear e1
  go_wp2
  go_ret
  exact ⟨rfl, rfl⟩
theorem rplain_any (x : Int) (w : World) (hx : -2147483648 ≤ x ∧ x ≤ 2147483647) :
    Calls Tryd.prog 98 #[.int .i32 x] w fun e w' => e = .returned (.int .i64 (x % 4294967296)) ∧ w = w' := by
  go_enter Tryd.func98, Tryd.ntmps98
  go_wp2_with fail
  refine (mod_any _ _ _ (by omega) (by omega)).mono ?_
  rintro e w2 ⟨rfl, rfl⟩
  go_wp2
  go_ret
  exact ⟨rfl, rfl⟩
theorem rpair_any (a b : Int) (w : World) (ha : 0 ≤ a ∧ a ≤ 255) (hb : 0 ≤ b ∧ b ≤ 255) :
    Calls Tryd.prog 67 #[.int .u8 a, .int .u8 b] w fun e w' => e = .returned (.int .i32 (halfI (256 * a + b))) ∧ w = w' := by
  have hh := halfI_bd (256 * a + b)
  have e1 : signedI (256 * a + b) 16 = halfI (256 * a + b) := by unfold signedI halfI; rw [show ((2:Int) ^ (16 - 1)) = 32768 from rfl, show ((2:Int) ^ 16) = 65536 from rfl]
  go_enter Tryd.func67, Tryd.ntmps67
  go_wp2_with fail
  refine (signed_any (256 * a + b) 16 _ (by omega) (by decide) (by decide)).mono ?_
  rintro e w2 ⟨rfl, rfl⟩
  rw [e1]; clear e1
  go_wp2
  go_ret
  exact ⟨rfl, rfl⟩
theorem rfrom_short (a : Option Addr) (n c : Nat) (w : World) (hn : n < 4) :
    Calls Tryd.prog 78 #[.slice a n c] w fun e w' => e = .returned (.tuple #[.int .i32 0, .int .i64 4]) ∧ w = w' := by
  go_enter Tryd.func78, Tryd.ntmps78
  go_wp2
  go_ret2
  exact ⟨rfl, rfl⟩
theorem rfrom_long (a : Option Addr) (n c : Nat) (w : World) (hn : 4 < n) (hm : n ≤ 9223372036854775807) :
    Calls Tryd.prog 78 #[.slice a n c] w fun e w' => e = .returned (.tuple #[.int .i32 0, .int .i64 5]) ∧ w = w' := by
  go_enter Tryd.func78, Tryd.ntmps78
  go_wp2
  go_ret2
  exact ⟨rfl, rfl⟩
theorem rfrom_four (b0 b1 b2 b3 : Int) (b off c : Nat) (w : World) (h0 : 0 ≤ b0 ∧ b0 ≤ 255) (h1 : 0 ≤ b1 ∧ b1 ≤ 255) (h2 : 0 ≤ b2 ∧ b2 ≤ 255) (h3 : 0 ≤ b3 ∧ b3 ≤ 255)
    (c0 : w.cell? ⟨b, off, none⟩ = some (.int .u8 b0)) (c1 : w.cell? ⟨b, off + 1, none⟩ = some (.int .u8 b1)) (c2 : w.cell? ⟨b, off + 2, none⟩ = some (.int .u8 b2)) (c3 : w.cell? ⟨b, off + 3, none⟩ = some (.int .u8 b3)) :
    Calls Tryd.prog 78 #[.slice (some ⟨b, off, none⟩) 4 c] w fun e w' => e = .returned (.tuple #[.int .i32 (lowI (((b0 * 256 + b1) * 256 + b2) * 256 + b3)), .int .i64 0]) ∧ w = w' := by
  go_enter Tryd.func78, Tryd.ntmps78
  go_wp2_with fail
  go_loop [4, 5] (fun n i => (i = .int .i64 0 ∧ n = .int .i64 0) ∨ (i = .int .i64 1 ∧ n = .int .i64 b0) ∨ (i = .int .i64 2 ∧ n = .int .i64 (256 * b0 + b1)) ∨ (i = .int .i64 3 ∧ n = .int .i64 (256 * (256 * b0 + b1) + b2)) ∨ (i = .int .i64 4 ∧ n = .int .i64 (256 * (256 * (256 * b0 + b1) + b2) + b3))) (fun _ i => 4 - (intOf i).toNat)
  case atStart => exact .inl ⟨rfl, rfl⟩
  case round =>
    rcases hrel with ⟨rfl, rfl⟩ | ⟨rfl, rfl⟩ | ⟨rfl, rfl⟩ | ⟨rfl, rfl⟩ | ⟨rfl, rfl⟩
    · go_wp2
      go_round
      case rel => exact .inr (.inl ⟨rfl, by simp⟩)
      case measure => simp [intOf]
    · go_wp2
      go_round
      case rel => exact .inr (.inr (.inl ⟨rfl, rfl⟩))
      case measure => simp [intOf]
    · go_wp2
      go_round
      case rel => exact .inr (.inr (.inr (.inl ⟨rfl, rfl⟩)))
      case measure => simp [intOf]
    · go_wp2
      go_round
      case rel => exact .inr (.inr (.inr (.inr ⟨rfl, rfl⟩)))
      case measure => simp [intOf]
    · have e : 256 * (256 * (256 * b0 + b1) + b2) + b3 = ((b0 * 256 + b1) * 256 + b2) * 256 + b3 := by omega
      have E := hid e
      clear e
      go_wp2_with (go_at_call 87; refine (rlow_any _ _ (by omega)).mono ?_; rintro e w' ⟨rfl, rfl⟩)
      go_ret2
      exact ⟨by rw [← E.out]; rfl, rfl⟩
theorem rbytes4_any (x : Int) (w : World) (hx : -2147483648 ≤ x ∧ x ≤ 2147483647) :
    Calls Tryd.prog 75 #[.int .i32 x] w fun e w' => ∃ b c, e = .returned (.slice (some ⟨b, 0, none⟩) 4 c) ∧ Below w.heap.size w w' ∧ 4 ≤ c ∧ c ≤ maxLen ∧ w.heap.size ≤ b ∧ b < w'.heap.size ∧
      w'.cell? ⟨b, 0, none⟩ = some (.int .u8 (x / 16777216 % 256)) ∧ w'.cell? ⟨b, 1, none⟩ = some (.int .u8 (x / 65536 % 256)) ∧ w'.cell? ⟨b, 2, none⟩ = some (.int .u8 (x / 256 % 256)) ∧ w'.cell? ⟨b, 3, none⟩ = some (.int .u8 (x % 256)) := by
  have e1 : x % 4294967296 / 16777216 = x / 16777216 % 256 := by omega
  have e2 : x % 4294967296 / 65536 % 256 = x / 65536 % 256 := by omega
  have e3 : x % 4294967296 / 256 % 256 = x / 256 % 256 := by omega
  have e4 : x % 4294967296 % 256 = x % 256 := by omega
  rw [← e1, ← e2, ← e3, ← e4]
  clear e1 e2 e3 e4
  go_enter Tryd.func75, Tryd.ntmps75
  go_wp2_with (go_at_call 98; refine (rplain_any _ _ hx).mono ?_; rintro e w' ⟨rfl, rfl⟩)
  go_ret
  refine ⟨w.heap.size, 4, rfl, by go_grown, by omega, by simp [maxLen], by omega, by simp, ?_, ?_, ?_, ?_⟩
  all_goals go_simp
end Go.Proofs.YtecbfegohdllbaaDoor
