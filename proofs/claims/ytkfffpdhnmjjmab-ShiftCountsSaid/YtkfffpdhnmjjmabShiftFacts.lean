/- Layer 2 (shift): plain facts of bit vectors. -/
import Derived.Test.YtkfffpdhnmjjmabShift3
import Derived.Test.YtkfffpdhnmjjmabRef02b
namespace Go.Proofs.Ytkfffpdhnmjjmab
open Go.RowKit
set_option linter.unusedVariables false
theorem rol_get (v : BitVec 32) (m i : Nat) (hm : m < 32) (hi : i < 32) : (v.rotateLeft m).getLsbD i = v.getLsbD ((i + (32 - m)) % 32) := by
  rw [BitVec.getLsbD_rotateLeft_of_le hm]
  by_cases h : i < m
  · rw [show (i + (32 - m)) % 32 = 32 - m + i by omega]; simp [h]
  · rw [show (i + (32 - m)) % 32 = i - m by omega]; simp [h, hi]
theorem rol_rol (v : BitVec 32) (a b : Nat) (ha : a < 32) (hb : b < 32) : (v.rotateLeft a).rotateLeft b = v.rotateLeft ((a + b) % 32) := by
  apply BitVec.eq_of_getLsbD_eq
  intro i hi
  rw [rol_get _ b i hb hi, rol_get _ a _ ha (Nat.mod_lt _ (by decide)), rol_get _ _ i (Nat.mod_lt _ (by decide)) hi]
  congr 1; omega
theorem rol_zero (v : BitVec 32) : v.rotateLeft 0 = v := by
  apply BitVec.eq_of_getLsbD_eq
  intro i hi
  rw [rol_get _ 0 i (by decide) hi]
  congr 1; omega
theorem ones_get (i : Nat) : (BitVec.allOnes 32).getLsbD i = decide (i < 32) := BitVec.getLsbD_allOnes
theorem up_down (v : BitVec 32) (k : Nat) : (v <<< k) >>> k = v &&& (BitVec.allOnes 32 >>> k) := by
  apply BitVec.eq_of_getLsbD_eq
  intro i hi
  rw [BitVec.getLsbD_ushiftRight, BitVec.getLsbD_shiftLeft, BitVec.getLsbD_and, BitVec.getLsbD_ushiftRight, ones_get]
  by_cases h : k + i < 32
  · simp [h]
  · simp [h]
theorem down_up (v : BitVec 32) (k : Nat) : (v >>> k) <<< k = v &&& (BitVec.allOnes 32 <<< k) := by
  apply BitVec.eq_of_getLsbD_eq
  intro i hi
  rw [BitVec.getLsbD_shiftLeft, BitVec.getLsbD_ushiftRight, BitVec.getLsbD_and, BitVec.getLsbD_shiftLeft, ones_get]
  by_cases h : i < k
  · simp [h]
  · simp [h, hi, show k + (i - k) = i by omega, show i - k < 32 by omega]
theorem rol_parts (v : BitVec 32) (k : Nat) (hk : k < 32) : v.rotateLeft k = (v <<< k) ||| (((v >>> ((32 - k) % 32)).rotateLeft 0) &&& ~~~(BitVec.allOnes 32 <<< k)) := by
  apply BitVec.eq_of_getLsbD_eq
  intro i hi
  rw [rol_get _ _ i hk hi, BitVec.getLsbD_or, BitVec.getLsbD_shiftLeft, BitVec.getLsbD_and, rol_zero, BitVec.getLsbD_ushiftRight, BitVec.getLsbD_not, BitVec.getLsbD_shiftLeft, ones_get]
  by_cases h : i < k
  · rw [show (i + (32 - k)) % 32 = (32 - k) % 32 + i by omega]; simp [h, hi]
  · rw [show (i + (32 - k)) % 32 = i - k by omega]; simp [h, hi, show i - k < 32 by omega]
theorem V_ones (k : Nat) : V (4294967295 / 2 ^ k) = BitVec.allOnes 32 >>> k := by
  have h := V_shr (BitVec.allOnes 32) k
  rwa [show (((BitVec.allOnes 32).toNat : Nat) : Int) = 4294967295 from by decide] at h
theorem pow32 (k : Nat) (h : k < 32) : (1 : Int) ≤ 2 ^ k ∧ (2 : Int) ^ k ≤ 2147483648 := by
  have h1 : (0 : Int) < 2 ^ k := Int.pow_pos (by decide)
  have h2 : (2 : Nat) ^ k ≤ 2 ^ 31 := Nat.pow_le_pow_right (by decide) (by omega)
  have h3 : ((2 ^ k : Nat) : Int) ≤ ((2 ^ 31 : Nat) : Int) := by exact_mod_cast h2
  have e : ((2 ^ k : Nat) : Int) = 2 ^ k := by simp
  have e2 : ((2 ^ 31 : Nat) : Int) = 2147483648 := by decide
  rw [e, e2] at h3
  omega
theorem V_low (k : Nat) (h : k < 32) : V (2 ^ k - 1) = ~~~(BitVec.allOnes 32 <<< k) := by
  apply V_of_mod
  have hp := pow32 k h
  have h1 : (BitVec.allOnes 32 <<< k).toNat = 4294967295 * 2 ^ k % 4294967296 := by
    rw [BitVec.toNat_shiftLeft, Nat.shiftLeft_eq, BitVec.toNat_allOnes]
  have h2 : (~~~(BitVec.allOnes 32 <<< k)).toNat = 4294967295 - 4294967295 * 2 ^ k % 4294967296 := by
    rw [BitVec.toNat_not, h1]
  have h3 : (((2 : Nat) ^ k : Nat) : Int) = (2 : Int) ^ k := by simp
  generalize (2 : Int) ^ k = p at *
  generalize (2 : Nat) ^ k = q at *
  rw [h2]
  have h4 : 4294967295 * q % 4294967296 = 4294967296 - q := by omega
  rw [h4]; omega
theorem bits_andNot (a b : Int) : bits .andNot .i32 a b = S (V a &&& ~~~ V b) := by
  show IntKind.i32.wrap (((V a &&& ~~~ V b).toNat : Nat) : Int) = _
  rw [i32wrap, ← S_low]; rfl
theorem S_neg1 : S (BitVec.allOnes 32) = -1 := by decide
theorem S_not (v : BitVec 32) : S (~~~v) = -S v - 1 := by
  have h1 := S_nat v; have h2 := S_nat (~~~v)
  rw [BitVec.toNat_not] at h2
  have := v.isLt
  split at h1 <;> split at h2 <;> omega
theorem xor_ones (v : BitVec 32) : bits .xor .i32 (-1) (S v) = S (~~~v) := by
  rw [bits_xor, V_S, show V (-1) = BitVec.allOnes 32 from by decide, S_inj]
  apply BitVec.eq_of_getLsbD_eq
  intro i hi
  rw [BitVec.getLsbD_xor, BitVec.getLsbD_not, ones_get]
  cases v.getLsbD i <;> simp [hi]
theorem double_S (v : BitVec 32) : wrap32 (S v + S v) = S (v <<< 1) := by
  have h := shl_S v 1
  rw [← h, lowI_wrap, show S v * 2 ^ 1 = S v + S v by omega]
/-- leading noughts -/
theorem lead_facts (v : BitVec 32) (h : S v ≠ 0) : ∃ k : Nat, k < 32 ∧ (32 - (Lib.bitLen v.toNat : Int)) = 31 - k ∧ S (v <<< (31 - k)) < 0 ∧ v >>> k = 1#32 ∧ ((31 - (k : Int) = 0) ↔ (S v < 0)) := by
  have hne : v.toNat ≠ 0 := by
    intro e; have := S_nat v; rw [e] at this; simp at this; exact h this
  have hs := Lib.bitLenAux_bounds 64 v.toNat (Nat.lt_trans v.isLt (by decide)) hne
  have hb : Lib.bitLen v.toNat = Lib.bitLenAux 64 v.toNat := rfl
  have hle := Lib.bitLen_le v.toNat 32 (by decide) v.isLt
  rw [← hb] at hs
  obtain ⟨k, hk⟩ : ∃ k, Lib.bitLen v.toNat = k + 1 := ⟨Lib.bitLen v.toNat - 1, by omega⟩
  rw [hk] at hs hle
  rw [hk]
  simp only [Nat.add_sub_cancel] at hs
  have hlt := v.isLt
  obtain ⟨_, lo, hi⟩ := hs
  have e1 : v.toNat / 2 ^ k = 1 := by
    rw [Nat.pow_succ] at hi
    exact Nat.div_eq_of_lt_le (by omega) (by omega)
  refine ⟨k, by omega, by omega, ?_, ?_, ?_⟩
  · have e2 : (v <<< (31 - k)).toNat = v.toNat * 2 ^ (31 - k) := by
      rw [BitVec.toNat_shiftLeft, Nat.shiftLeft_eq]
      apply Nat.mod_eq_of_lt
      calc v.toNat * 2 ^ (31 - k) < 2 ^ (k + 1) * 2 ^ (31 - k) := Nat.mul_lt_mul_of_pos_right hi (Nat.two_pow_pos _)
        _ = 2 ^ 32 := by rw [← Nat.pow_add]; congr 1; omega
    have e3 : 2 ^ 31 ≤ v.toNat * 2 ^ (31 - k) := by
      calc 2 ^ 31 = 2 ^ k * 2 ^ (31 - k) := by rw [← Nat.pow_add]; congr 1; omega
        _ ≤ v.toNat * 2 ^ (31 - k) := Nat.mul_le_mul_right _ lo
    have := S_nat (v <<< (31 - k))
    have hl2 := (v <<< (31 - k)).isLt
    rw [if_neg (by omega)] at this
    omega
  · apply BitVec.eq_of_toNat_eq
    rw [BitVec.toNat_ushiftRight, Nat.shiftRight_eq_div_pow, e1]; rfl
  · have hS := S_nat v
    constructor
    · intro h0
      have : k = 31 := by omega
      subst this
      rw [if_neg (by omega)] at hS; omega
    · intro h0
      by_cases hk31 : k = 31
      · omega
      · have : 2 ^ (k + 1) ≤ 2 ^ 31 := Nat.pow_le_pow_right (by decide) (by omega)
        rw [if_pos (by omega)] at hS; omega
end Go.Proofs.Ytkfffpdhnmjjmab
