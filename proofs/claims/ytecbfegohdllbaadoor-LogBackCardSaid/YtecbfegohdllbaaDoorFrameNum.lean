/- Layer 36 (frame): why a report may not be, as a number. -/
import Derived.Test.YtecbfegohdllbaaDoorPackA
import Derived.Test.YtecbfegohdllbaaDoorSampleFacts
namespace Go.Proofs.YtecbfegohdllbaaDoor
open Go.RowKit
set_option linter.unusedVariables false
set_option linter.unusedSimpArgs false
/-- what &^ of the lowest k bits leaves is 0 just where the number has no other bit -/
theorem andnot_zero (f : Int) (hf : -9223372036854775808 ≤ f ∧ f ≤ 9223372036854775807) (k : Nat) (hk : k ≤ 32) (m : Int) (hm : m = (2 ^ k : Nat) - 1) : bits .andNot .i64 f m = 0 ↔ 0 ≤ f ∧ f ≤ m := by
  have hp : 2 ^ k ≤ 2 ^ 32 := Nat.pow_le_pow_right (by decide) hk
  have hp0 : 0 < 2 ^ k := Nat.pow_pos (by decide)
  have e1 : bits .andNot .i64 f m = IntKind.i64.wrap (((BitVec.ofInt 64 f &&& ~~~ BitVec.ofInt 64 m : BitVec 64).toNat : Nat) : Int) := rfl
  have hM : ∀ i, (BitVec.ofInt 64 m).getLsbD i = decide (i < k) := by
    intro i
    have : BitVec.ofInt 64 m = BitVec.ofNat 64 (2 ^ k - 1) := by
      rw [← BitVec.ofInt_natCast, hm]; congr 1; omega
    rw [this, BitVec.getLsbD_ofNat, Nat.testBit_two_pow_sub_one]
    by_cases hi : i < k
    · simp [hi]; omega
    · simp [hi]
  have hX : (BitVec.ofInt 64 f).toNat = (f % 18446744073709551616).toNat := by rw [BitVec.toNat_ofInt]; rfl
  have key : (BitVec.ofInt 64 f &&& ~~~ BitVec.ofInt 64 m) = 0#64 ↔ (BitVec.ofInt 64 f).toNat < 2 ^ k := by
    constructor
    · intro h
      refine Nat.lt_pow_two_of_testBit _ fun i hi => ?_
      have := congrArg (fun v => v.getLsbD i) h
      simp only [BitVec.getLsbD_and, BitVec.getLsbD_not, hM, BitVec.getLsbD_zero] at this
      rw [show decide (i < k) = false by simp; omega] at this
      by_cases h64 : i < 64
      · have h2 : (BitVec.ofInt 64 f).getLsbD i = false := by simpa only [h64, decide_true, Bool.not_false, Bool.and_true, Bool.true_and] using this
        exact h2
      · exact Nat.testBit_lt_two_pow (Nat.lt_of_lt_of_le (BitVec.isLt _) (Nat.pow_le_pow_right (by decide) (by omega)))
    · intro h
      apply BitVec.eq_of_getLsbD_eq
      intro i hi
      simp only [BitVec.getLsbD_and, BitVec.getLsbD_not, hM, BitVec.getLsbD_zero]
      by_cases hik : i < k
      · simp [hik]
      · have : (BitVec.ofInt 64 f).getLsbD i = false := Nat.testBit_lt_two_pow (Nat.lt_of_lt_of_le h (Nat.pow_le_pow_right (by decide) (by omega)))
        rw [this]; rfl
  have wz : bits .andNot .i64 f m = 0 ↔ (BitVec.ofInt 64 f &&& ~~~ BitVec.ofInt 64 m) = 0#64 := by
    rw [e1]
    constructor
    · intro h
      apply BitVec.eq_of_toNat_eq
      have hlt := (BitVec.ofInt 64 f &&& ~~~ BitVec.ofInt 64 m).isLt
      generalize (BitVec.ofInt 64 f &&& ~~~ BitVec.ofInt 64 m).toNat = n at *
      unfold IntKind.wrap at h
      simp only [IntKind.bits, IntKind.signed, Bool.true_and, decide_eq_true_eq, Int.reducePow, Nat.reduceSub] at h
      show n = 0
      split at h <;> omega
    · intro h
      rw [h]; rfl
  rw [wz, key, hX]
  omega
end Go.Proofs.YtecbfegohdllbaaDoor
