/- Plain numbers: what the model's bit operations come to. -/
import Derived.Test.YtecbfegohdllbaaDoorBase
import Derived.Laws.BitsAllLaws
namespace Go.Proofs.YtecbfegohdllbaaDoor
open Go.RowKit
theorem wrap_congr (k : IntKind) {a b : Int} (h : a % (2 ^ k.bits : Int) = b % (2 ^ k.bits : Int)) : k.wrap a = k.wrap b := by
  unfold IntKind.wrap; rw [h]
theorem i32wrap (n : Int) : IntKind.i32.wrap n = (n + 2147483648) % 4294967296 - 2147483648 := IntKind.wrap_i32 n
theorem i64wrap (n : Int) : IntKind.i64.wrap n = (n + 9223372036854775808) % 18446744073709551616 - 9223372036854775808 := IntKind.wrap_i64 n
theorem i16wrap (n : Int) : IntKind.i16.wrap n = (n + 32768) % 65536 - 32768 := by
  simp only [IntKind.wrap, IntKind.bits, IntKind.signed]; simp; split <;> omega
theorem ofInt_nat (n : Nat) (x : Int) : ((BitVec.ofInt n x).toNat : Int) = x % (2 ^ n : Int) := by
  rw [BitVec.toNat_ofInt, Int.toNat_of_nonneg (Int.emod_nonneg _ (by have : (2:Int)^n > 0 := Int.pow_pos (by decide); simp; omega))]
  simp
/-- a high part and a low part, joined -/
theorem or_join (k : IntKind) (s : Nat) (h y : Int) (hs : s ≤ k.bits) (h0 : 0 ≤ y) (h1 : y < 2 ^ s) : bits .or k (h * 2 ^ s) y = k.wrap (h * 2 ^ s + y) := by
  unfold bits
  apply wrap_congr
  simp only [BitVec.toNat_or]
  obtain ⟨d, hd⟩ : ∃ d, k.bits = s + d := ⟨k.bits - s, by omega⟩
  generalize k.bits = n at *
  have p2 : ∀ m : Nat, (0 : Int) < 2 ^ m := fun m => Int.pow_pos (by decide)
  have ey : ((BitVec.ofInt n y).toNat : Int) = y := by
    rw [ofInt_nat]
    refine Int.emod_eq_of_lt h0 (Int.lt_of_lt_of_le h1 ?_)
    rw [hd, Int.pow_add]
    have := p2 s; have := p2 d
    have h3 := Int.mul_le_mul_of_nonneg_left (show (1:Int) ≤ 2 ^ d by omega) (show (0:Int) ≤ 2 ^ s by omega)
    rwa [Int.mul_one] at h3
  have ex : ((BitVec.ofInt n (h * 2 ^ s)).toNat : Int) = (h % 2 ^ d) * 2 ^ s := by
    rw [ofInt_nat, hd, Int.pow_add, Int.mul_comm h, Int.mul_emod_mul_of_pos _ _ (p2 s), Int.mul_comm]
  obtain ⟨u, hu⟩ : ∃ u : Nat, (h % 2 ^ d) = (u : Int) := ⟨(h % 2 ^ d).toNat, by rw [Int.toNat_of_nonneg (Int.emod_nonneg _ (by have := p2 d; omega))]⟩
  obtain ⟨v, hv⟩ : ∃ v : Nat, y = (v : Int) := ⟨y.toNat, by omega⟩
  have ex' : (BitVec.ofInt n (h * 2 ^ s)).toNat = u * 2 ^ s := by
    rw [hu] at ex; exact_mod_cast ex
  have ey' : (BitVec.ofInt n y).toNat = v := by rw [hv] at ey ⊢; exact_mod_cast ey
  have hv' : v < 2 ^ s := by rw [hv] at h1; exact_mod_cast h1
  rw [ex', ey', nat_join s _ _ (by simp) hv']
  have e1 : (h * 2 ^ s + y) % (2 ^ n : Int) = ((u * 2 ^ s + v : Nat) : Int) % (2 ^ n : Int) := by
    have : h * 2 ^ s + y = ((u * 2 ^ s + v : Nat) : Int) + 2 ^ n * (h / 2 ^ d) := by
      have hh := Int.emod_add_mul_ediv h (2 ^ d)
      rw [hu] at hh
      rw [hv, hd, Int.pow_add]
      push_cast
      conv => lhs; rw [← hh]
      rw [Int.add_mul]
      have : 2 ^ d * (h / 2 ^ d) * 2 ^ s = 2 ^ s * 2 ^ d * (h / 2 ^ d) := by
        rw [Int.mul_comm, ← Int.mul_assoc]
      omega
    rw [this]; simp
  rw [e1]
/-- the lowest bits -/
theorem and_low (k : IntKind) (s : Nat) (x : Int) (hs : s < k.bits) : bits .and k x (2 ^ s - 1) = k.wrap (x % 2 ^ s) := by
  unfold bits
  apply wrap_congr
  simp only [BitVec.toNat_and]
  obtain ⟨d, hd⟩ : ∃ d, k.bits = s + d := ⟨k.bits - s, by omega⟩
  generalize k.bits = n at *
  have p2 : ∀ m : Nat, (0 : Int) < 2 ^ m := fun m => Int.pow_pos (by decide)
  have em : (BitVec.ofInt n (2 ^ s - 1 : Int)).toNat = 2 ^ s - 1 := by
    have h := ofInt_nat n (2 ^ s - 1 : Int)
    have hp : (1:Nat) ≤ 2 ^ s := Nat.one_le_two_pow
    have e : (2 ^ s - 1 : Int) = ((2 ^ s - 1 : Nat) : Int) := by push_cast [hp]; rfl
    rw [e] at h ⊢
    have hlt : (2 ^ s - 1 : Nat) < 2 ^ n := by
      have : (2:Nat) ^ s ≤ 2 ^ n := Nat.pow_le_pow_right (by decide) (by omega)
      omega
    have h2 : (((2 ^ s - 1 : Nat) : Int)) % (2 ^ n : Int) = ((2 ^ s - 1 : Nat) : Int) := by
      have : ((2 ^ s - 1 : Nat) : Int) % ((2 ^ n : Nat) : Int) = ((2 ^ s - 1 : Nat) : Int) := by
        rw [← Int.natCast_emod, Nat.mod_eq_of_lt hlt]
      simpa using this
    rw [h2] at h
    exact_mod_cast h
  rw [em, Nat.and_two_pow_sub_one_eq_mod]
  have h := ofInt_nat n x
  have : (((BitVec.ofInt n x).toNat % 2 ^ s : Nat) : Int) = x % 2 ^ s := by
    push_cast
    rw [h, hd, Int.pow_add, Int.emod_emod_of_dvd]
    exact Int.dvd_mul_right _ _
  rw [this]
end Go.Proofs.YtecbfegohdllbaaDoor
