/- Plain facts on the sum of layer 11 (crc). -/
import Derived.Test.YtecbfegohdllbaaDoorCrc
namespace Go.Proofs.YtecbfegohdllbaaDoor
theorem hi_eq (c : BitVec 16) : BitVec.ofInt 16 (hiB c) = c >>> 8 := by
  unfold hiB
  rw [show ((c.toNat : Int) / 256) = ((c.toNat / 256 : Nat) : Int) by omega, BitVec.ofInt_natCast]
  apply BitVec.eq_of_toNat_eq
  rw [BitVec.toNat_ofNat, BitVec.toNat_ushiftRight, Nat.shiftRight_eq_div_pow]
  have := c.isLt; omega
theorem lo_eq (c : BitVec 16) : BitVec.ofInt 16 (loB c) = c &&& 255#16 := by
  unfold loB
  rw [show ((c.toNat : Int) % 256) = ((c.toNat % 256 : Nat) : Int) by omega, BitVec.ofInt_natCast]
  apply BitVec.eq_of_toNat_eq
  rw [BitVec.toNat_ofNat, BitVec.toNat_and]
  have h := Nat.and_two_pow_sub_one_eq_mod c.toNat 8
  have e : (255#16).toNat = 2 ^ 8 - 1 := rfl
  rw [e, h]; have := c.isLt; omega
theorem split8 (x : BitVec 16) : x ^^^ ((x >>> 8) <<< 8) = x &&& 255#16 := by
  apply BitVec.eq_of_getLsbD_eq
  intro i hi
  have hm : ∀ j : Fin 16, (255#16).getLsbD j.val = decide (j.val < 8) := by decide +kernel
  have := hm ⟨i, hi⟩
  simp only [BitVec.getLsbD_xor, BitVec.getLsbD_and, BitVec.getLsbD_shiftLeft, BitVec.getLsbD_ushiftRight]
  rw [this]
  by_cases h : i < 8
  · simp [h]
  · simp [h, hi, show 8 + (i - 8) = i by omega]
theorem step8_low (x : BitVec 16) (h : x.toNat < 256) : step8 x = x <<< 8 := by
  unfold step8
  rw [low4 x (by omega), low4]
  · rw [← BitVec.shiftLeft_add]
  · rw [BitVec.toNat_shiftLeft, Nat.shiftLeft_eq]; omega
/-- A SUM's OWN BYTES LEAVE NOTHING. -/
theorem nought (c : BitVec 16) : stepB (stepB c (hiB c)) (loB c) = 0#16 := by
  unfold stepB
  rw [hi_eq, lo_eq, split8, step8_low (c &&& 255#16) (by rw [BitVec.toNat_and]; exact Nat.lt_of_le_of_lt Nat.and_le_right (by decide)), BitVec.xor_self, step8_zero]
theorem crcFrom_append (c : BitVec 16) (l m : List Int) : crcFrom c (l ++ m) = crcFrom (crcFrom c l) m := List.foldl_append ..
theorem crc_seal (l : List Int) : crcOf (sealL l) = 0#16 := by
  unfold crcOf sealL
  rw [crcFrom_append]
  exact nought _
theorem crc_append (l m : List Int) : crcOf (l ++ m) = crcFrom (crcOf l) m := crcFrom_append _ _ _
theorem hiB_bd (c : BitVec 16) : 0 ≤ hiB c ∧ hiB c ≤ 255 := by have := c.isLt; unfold hiB; omega
theorem loB_bd (c : BitVec 16) : 0 ≤ loB c ∧ loB c ≤ 255 := by have := c.isLt; unfold loB; omega
end Go.Proofs.YtecbfegohdllbaaDoor
