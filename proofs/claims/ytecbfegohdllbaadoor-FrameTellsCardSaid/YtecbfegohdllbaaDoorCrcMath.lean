/- Plain: sums of bytes (CRC-16) as words of 16 bits. No program in sight. -/
import Derived.Test.YtecbfegohdllbaaDoorBits
namespace Go.Proofs.YtecbfegohdllbaaDoor
open Go.RowKit
def step1 (x : BitVec 16) : BitVec 16 := (x <<< 1) ^^^ (if x.msb then 4129#16 else 0#16)
def step4 (x : BitVec 16) : BitVec 16 := step1 (step1 (step1 (step1 x)))
def step8 (x : BitVec 16) : BitVec 16 := step4 (step4 x)
def stepB (c : BitVec 16) (x : Int) : BitVec 16 := step8 (c ^^^ (BitVec.ofInt 16 x <<< 8))
def crcFrom (c : BitVec 16) (l : List Int) : BitVec 16 := l.foldl stepB c
def crcOf (l : List Int) : BitVec 16 := crcFrom 65535#16 l
def tabL : List Nat := [0, 4129, 8258, 12387, 16516, 20645, 24774, 28903, 33032, 37161, 41290, 45419, 49548, 53677, 57806, 61935]
def tab (i : Nat) : Nat := tabL.getD i 0
def nib (c : BitVec 16) (n : Nat) : BitVec 16 := (c <<< 4) ^^^ BitVec.ofNat 16 (tab ((c >>> 12) ^^^ BitVec.ofNat 16 n).toNat)
theorem xor_lc {n : Nat} (a b c : BitVec n) : a ^^^ (b ^^^ c) = b ^^^ (a ^^^ c) := by rw [← BitVec.xor_assoc, BitVec.xor_comm a b, BitVec.xor_assoc]
theorem xor_can {n : Nat} (a b : BitVec n) : a ^^^ (a ^^^ b) = b := by rw [← BitVec.xor_assoc, BitVec.xor_self, BitVec.zero_xor]
theorem step1_xor (x y : BitVec 16) : step1 (x ^^^ y) = step1 x ^^^ step1 y := by
  unfold step1
  rw [BitVec.msb_xor, BitVec.shiftLeft_xor_distrib]
  cases x.msb <;> cases y.msb <;> simp only [Bool.xor_false, Bool.xor_self, Bool.xor_true, Bool.not_false, if_true, if_false, Bool.false_eq_true, BitVec.xor_zero]
  · rw [BitVec.xor_assoc]
  · rw [BitVec.xor_assoc, BitVec.xor_assoc, BitVec.xor_comm (y <<< 1)]
  · rw [BitVec.xor_assoc, BitVec.xor_comm (y <<< 1) 4129#16, xor_can]
theorem step4_xor (x y : BitVec 16) : step4 (x ^^^ y) = step4 x ^^^ step4 y := by simp only [step4, step1_xor]
theorem step8_xor (x y : BitVec 16) : step8 (x ^^^ y) = step8 x ^^^ step8 y := by simp only [step8, step4_xor]
theorem step1_zero : step1 0#16 = 0#16 := by decide
theorem step8_zero : step8 0#16 = 0#16 := by decide
/-- four bits at once -/
theorem low4 (x : BitVec 16) (h : x.toNat < 4096) : step4 x = x <<< 4 := by
  have s : ∀ y : BitVec 16, y.toNat < 32768 → step1 y = y <<< 1 := by
    intro y hy
    have : y.msb = false := by rw [BitVec.msb_eq_decide]; simp; omega
    simp [step1, this]
  have t : ∀ y : BitVec 16, y.toNat < 32768 → (y <<< 1).toNat = 2 * y.toNat := by
    intro y hy; rw [BitVec.toNat_shiftLeft, Nat.shiftLeft_eq]; omega
  unfold step4
  have h1 := t x (by omega)
  have h2 := t (x <<< 1) (by omega)
  have h3 := t (x <<< 1 <<< 1) (by omega)
  rw [s x (by omega), s (x <<< 1) (by omega), s (x <<< 1 <<< 1) (by omega), s (x <<< 1 <<< 1 <<< 1) (by omega)]
  simp only [← BitVec.shiftLeft_add]
theorem high4 : ∀ i : Fin 16, step4 (BitVec.ofNat 16 i.val <<< 12) = BitVec.ofNat 16 (tab i.val) := by decide +kernel
theorem split12 (x : BitVec 16) : x = (x &&& 4095#16) ^^^ ((x >>> 12) <<< 12) := by
  apply BitVec.eq_of_getLsbD_eq
  intro i hi
  have hm : ∀ j : Fin 16, (4095#16).getLsbD j.val = decide (j.val < 12) := by decide +kernel
  have := hm ⟨i, hi⟩
  simp only [BitVec.getLsbD_xor, BitVec.getLsbD_and, BitVec.getLsbD_shiftLeft, BitVec.getLsbD_ushiftRight]
  rw [this]
  by_cases h : i < 12
  · simp [h]
  · simp [h, hi, show 12 + (i - 12) = i by omega]
theorem step4_eq (x : BitVec 16) : step4 x = (x <<< 4) ^^^ BitVec.ofNat 16 (tab (x >>> 12).toNat) := by
  conv => lhs; rw [split12 x]
  rw [step4_xor, low4 _ (by rw [BitVec.toNat_and]; exact Nat.lt_of_le_of_lt Nat.and_le_right (by decide))]
  have hlt : (x >>> 12).toNat < 16 := by rw [BitVec.toNat_ushiftRight, Nat.shiftRight_eq_div_pow]; have := x.isLt; omega
  have h4 := high4 ⟨(x >>> 12).toNat, hlt⟩
  simp only at h4
  rw [BitVec.ofNat_toNat, BitVec.setWidth_eq] at h4
  rw [h4]
  congr 1
  apply BitVec.eq_of_getLsbD_eq
  intro i hi
  have hm : ∀ j : Fin 16, (4095#16).getLsbD j.val = decide (j.val < 12) := by decide +kernel
  simp only [BitVec.getLsbD_shiftLeft, BitVec.getLsbD_and]
  by_cases h : i < 4
  · simp [h]
  · have := hm ⟨i - 4, by omega⟩
    simp only at this
    rw [this]; simp [h, hi]; intro _; omega
theorem nib_eq (c : BitVec 16) (n : Nat) (hn : n < 16) : nib c n = step4 (c ^^^ (BitVec.ofNat 16 n <<< 12)) := by
  rw [step4_xor, step4_eq c]
  unfold nib
  have h4 := high4 ⟨n, hn⟩
  simp only at h4
  rw [h4, BitVec.xor_assoc]
  congr 1
  have hc : (c >>> 12).toNat < 16 := by rw [BitVec.toNat_ushiftRight, Nat.shiftRight_eq_div_pow]; have := c.isLt; omega
  have key : ∀ i j : Fin 16, BitVec.ofNat 16 (tab (BitVec.ofNat 16 i.val ^^^ BitVec.ofNat 16 j.val).toNat) = BitVec.ofNat 16 (tab i.val) ^^^ BitVec.ofNat 16 (tab j.val) := by decide +kernel
  have := key ⟨(c >>> 12).toNat, hc⟩ ⟨n, hn⟩
  simp only at this
  rw [BitVec.ofNat_toNat, BitVec.setWidth_eq] at this
  exact this
theorem xor_split8 : ∀ b : Fin 256, (BitVec.ofNat 16 (b.val / 16) <<< 12) ^^^ (BitVec.ofNat 16 (b.val % 16) <<< 8) = BitVec.ofNat 16 b.val <<< 8 := by decide +kernel
theorem low_nib : ∀ n : Fin 16, step4 (BitVec.ofNat 16 n.val <<< 8) = BitVec.ofNat 16 n.val <<< 12 := by decide +kernel
/-- a byte's step by two steps of four bits -/
theorem stepB_nibs (c : BitVec 16) (b : Nat) (hb : b < 256) : stepB c b = nib (nib c (b / 16)) (b % 16) := by
  rw [nib_eq _ _ (by omega), nib_eq _ _ (by omega)]
  have h1 := low_nib ⟨b % 16, by omega⟩
  have h2 := xor_split8 ⟨b, hb⟩
  simp only at h1 h2
  unfold stepB step8
  rw [show BitVec.ofInt 16 (b : Int) = BitVec.ofNat 16 b from BitVec.ofInt_natCast 16 b, ← h2]
  congr 1
  simp only [step4_xor]
  rw [h1, BitVec.xor_assoc]
end Go.Proofs.YtecbfegohdllbaaDoor
