/- Words as bit vectors: plain facts. -/
import Derived.Test.YtkfffpdhnmjjmabWord
namespace Go.Proofs.Ytkfffpdhnmjjmab
open Go.RowKit
set_option linter.unusedVariables false
/-- a word's bits -/
def V (x : Int) : BitVec 32 := BitVec.ofInt 32 x
/-- a word's number -/
def S (v : BitVec 32) : Int := v.toInt
theorem S_bd (v : BitVec 32) : -2147483648 ≤ S v ∧ S v ≤ 2147483647 := by
  unfold S
  have h1 := BitVec.toInt_lt (x := v); have h2 := BitVec.le_toInt v
  simp at h1 h2; omega
theorem V_S (v : BitVec 32) : V (S v) = v := BitVec.ofInt_toInt
theorem V_nat (x : Int) : ((V x).toNat : Int) = x % 4294967296 := ofInt_nat 32 x
theorem S_nat (v : BitVec 32) : S v = if v.toNat < 2147483648 then (v.toNat : Int) else v.toNat - 4294967296 := by
  unfold S
  rw [BitVec.toInt_eq_toNat_cond]
  by_cases h : v.toNat < 2147483648
  · rw [if_pos (by omega), if_pos h]
  · rw [if_neg (by omega), if_neg h]; rfl
theorem S_V (x : Int) (h : -2147483648 ≤ x ∧ x ≤ 2147483647) : S (V x) = x := by
  have h1 := V_nat x; have h2 := S_nat (V x)
  split at h2 <;> omega
theorem S_low (v : BitVec 32) : lowI v.toNat = S v := by
  have h2 := S_nat v; have := v.isLt
  unfold lowI
  split at h2 <;> omega
theorem lowI_V (x : Int) : lowI x = S (V x) := by
  rw [← S_low, V_nat]; unfold lowI; omega
theorem S_mod (v : BitVec 32) : S v % 4294967296 = v.toNat := by
  have h2 := S_nat v; have := v.isLt
  split at h2 <;> omega
theorem S_inj {a b : BitVec 32} : S a = S b ↔ a = b := ⟨fun h => by rw [← V_S a, h, V_S], fun h => by rw [h]⟩
theorem V_of_mod (x : Int) (v : BitVec 32) (h : x % 4294967296 = v.toNat) : V x = v := by
  apply BitVec.eq_of_toNat_eq
  have := V_nat x; omega
/-- a word's bit, as a number -/
def bt (v : BitVec 32) (i : Nat) : Int := if v.getLsbD i then 1 else 0
theorem bt_eq (v : BitVec 32) (i : Nat) : ((v.toNat / 2 ^ i % 2 : Nat) : Int) = bt v i := by
  have h := Nat.toNat_testBit v.toNat i
  unfold bt
  rw [← BitVec.testBit_toNat, ← h]
  cases v.toNat.testBit i <;> rfl
theorem bt_ge (v : BitVec 32) (i : Nat) (h : 32 ≤ i) : bt v i = 0 := by unfold bt; rw [BitVec.getLsbD_of_ge v i h]; rfl
theorem bt_01 (v : BitVec 32) (i : Nat) : bt v i = 0 ∨ bt v i = 1 := by unfold bt; split <;> simp
/-- bits of the model's operations at int32 -/
theorem bits_and (a b : Int) : bits .and .i32 a b = S (V a &&& V b) := by
  show IntKind.i32.wrap (((V a &&& V b).toNat : Nat) : Int) = _
  rw [i32wrap, ← S_low]; rfl
theorem bits_or (a b : Int) : bits .or .i32 a b = S (V a ||| V b) := by
  show IntKind.i32.wrap (((V a ||| V b).toNat : Nat) : Int) = _
  rw [i32wrap, ← S_low]; rfl
theorem bits_xor (a b : Int) : bits .xor .i32 a b = S (V a ^^^ V b) := by
  show IntKind.i32.wrap (((V a ^^^ V b).toNat : Nat) : Int) = _
  rw [i32wrap, ← S_low]; rfl
/-- the shifts -/
theorem shl_S (v : BitVec 32) (k : Nat) : lowI (S v * 2 ^ k) = S (v <<< k) := by
  rw [lowI_V]
  congr 1
  apply V_of_mod
  have h : ((v <<< k).toNat : Int) = (v.toNat : Int) * (2 ^ k : Int) % 4294967296 := by
    rw [BitVec.toNat_shiftLeft, Nat.shiftLeft_eq, Int.natCast_emod, Int.natCast_mul, Int.natCast_pow]; rfl
  rw [h, ← S_mod, Int.mul_emod (S v % _), Int.emod_emod_of_dvd _ (Int.dvd_refl _), ← Int.mul_emod]
theorem shr_S (v : BitVec 32) (k : Nat) : lowI (S v % 4294967296 / 2 ^ k) = S (v >>> k) := by
  rw [S_mod, ← S_low, BitVec.toNat_ushiftRight, Nat.shiftRight_eq_div_pow, Int.natCast_ediv, Int.natCast_pow]; rfl
theorem sar_S (v : BitVec 32) (k : Nat) : S v / 2 ^ k = S (v.sshiftRight k) := by
  unfold S
  rw [BitVec.toInt_sshiftRight, Int.shiftRight_eq_div_pow, Int.natCast_pow]; rfl
end Go.Proofs.Ytkfffpdhnmjjmab
