/- The sum of layer 11 (crc), bit by bit: what one bit that is another one makes of it. -/
import Derived.Test.YtecbfegohdllbaaDoorPackA
namespace Go.Proofs.YtecbfegohdllbaaDoor
/-- n steps of one bit -/
def it : Nat → BitVec 16 → BitVec 16
  | 0, y => y
  | n + 1, y => step1 (it n y)
theorem it_add (m n : Nat) (y : BitVec 16) : it (m + n) y = it m (it n y) := by
  induction m with
  | zero => rw [Nat.zero_add]; rfl
  | succ m ih => rw [Nat.succ_add]; show step1 (it (m + n) y) = step1 (it m (it n y)); rw [ih]
theorem it_xor (n : Nat) (x y : BitVec 16) : it n (x ^^^ y) = it n x ^^^ it n y := by
  induction n with
  | zero => rfl
  | succ n ih => show step1 (it n (x ^^^ y)) = step1 (it n x) ^^^ step1 (it n y); rw [ih, step1_xor]
theorem it8 (y : BitVec 16) : it 8 y = step8 y := rfl
theorem b1_low (y : BitVec 16) (h : y.toNat < 32768) : (step1 y).toNat = 2 * y.toNat % 65536 := by
  have : y.msb = false := by rw [BitVec.msb_eq_decide]; simp; omega
  simp [step1, this, BitVec.toNat_shiftLeft, Nat.shiftLeft_eq]; omega
theorem b1_high (y : BitVec 16) (h : ¬ y.toNat < 32768) : (step1 y).toNat = (2 * y.toNat % 65536) ^^^ 4129 := by
  have : y.msb = true := by rw [BitVec.msb_eq_decide]; simp; omega
  simp [step1, this, BitVec.toNat_shiftLeft, Nat.shiftLeft_eq]
  rw [Nat.mul_comm]
theorem step1_ne (y : BitVec 16) (h : y ≠ 0#16) : step1 y ≠ 0#16 := by
  intro e
  have e2 : (step1 y).toNat = 0 := by rw [e]; rfl
  have hy := y.isLt
  by_cases hl : y.toNat < 32768
  · rw [b1_low y hl] at e2
    exact h (BitVec.eq_of_toNat_eq (by show y.toNat = 0; omega))
  · rw [b1_high y hl] at e2
    have h3 := (@Nat.xor_mod_two_eq_one (2 * y.toNat % 65536) 4129)
    rw [e2] at h3
    omega
theorem it_ne (n : Nat) (y : BitVec 16) (h : y ≠ 0#16) : it n y ≠ 0#16 := by
  induction n with
  | zero => exact h
  | succ n ih => exact step1_ne _ ih
theorem bit16_xor (a b : Nat) : BitVec.ofNat 16 (a ^^^ b) = BitVec.ofNat 16 a ^^^ BitVec.ofNat 16 b := by
  apply BitVec.eq_of_toNat_eq
  rw [BitVec.toNat_xor, BitVec.toNat_ofNat, BitVec.toNat_ofNat, BitVec.toNat_ofNat, Nat.xor_mod_two_pow]
theorem stepB_two (u v : BitVec 16) (a b : Nat) : stepB (u ^^^ v) ((a ^^^ b : Nat) : Int) = stepB u a ^^^ stepB v b := by
  unfold stepB
  rw [← step8_xor, BitVec.ofInt_natCast, BitVec.ofInt_natCast, BitVec.ofInt_natCast, bit16_xor, BitVec.shiftLeft_xor_distrib]
  congr 1
  simp only [BitVec.xor_assoc]
  rw [xor_lc v]
theorem stepB_reg (u v : BitVec 16) (x : Int) : stepB (u ^^^ v) x = stepB u x ^^^ step8 v := by
  unfold stepB
  rw [← step8_xor]
  congr 1
  simp only [BitVec.xor_assoc]
  rw [BitVec.xor_comm v]
theorem crcFrom_reg (l : List Int) : ∀ u v : BitVec 16, crcFrom (u ^^^ v) l = crcFrom u l ^^^ it (8 * l.length) v := by
  induction l with
  | nil => intro u v; rfl
  | cons x l ih =>
    intro u v
    show crcFrom (stepB (u ^^^ v) x) l = crcFrom (stepB u x) l ^^^ _
    rw [stepB_reg, ih, List.length_cons, Nat.mul_succ, it_add]; rfl
theorem top_bit : ∀ r : Fin 8, stepB 0#16 ((128 >>> r.val : Nat) : Int) = it (8 - r.val) 32768#16 := by decide +kernel
theorem win_bit : ∀ i : Fin 16, it i.val (BitVec.ofNat 16 (32768 >>> i.val)) = 32768#16 := by decide +kernel
/-- ONE BIT THAT IS ANOTHER ONE: bit k of the bytes, the highest first. -/
theorem crc_flip (c : BitVec 16) (l : List Int) (q r : Nat) (hq : q < l.length) (hr : r < 8) (x : Nat) (hx : l[q] = (x : Int)) :
    crcFrom c (l.set q ((x ^^^ (128 >>> r) : Nat) : Int)) = crcFrom c l ^^^ it (8 * l.length - (8 * q + r)) 32768#16 := by
  have e1 : l = l.take q ++ (x : Int) :: l.drop (q + 1) := by
    conv => lhs; rw [← List.take_append_drop q l]
    rw [List.drop_eq_getElem_cons hq, hx]
  have e2 : l.set q ((x ^^^ (128 >>> r) : Nat) : Int) = l.take q ++ ((x ^^^ (128 >>> r) : Nat) : Int) :: l.drop (q + 1) := by
    rw [List.set_eq_take_append_cons_drop, if_pos hq]
  rw [e2]
  conv => rhs; rw [e1]
  rw [crcFrom_append, crcFrom_append]
  show crcFrom (stepB _ _) _ = crcFrom (stepB _ _) _ ^^^ _
  have h3 := stepB_two (crcFrom c (l.take q)) 0#16 x (128 >>> r)
  rw [BitVec.xor_zero] at h3
  rw [h3, top_bit ⟨r, hr⟩, crcFrom_reg, ← it_add]
  congr 2
  simp only [List.length_append, List.length_cons, List.length_take, List.length_drop]
  omega
/-- The same, told from the window's begin. -/
theorem crc_flip_win (c : BitVec 16) (l : List Int) (k i : Nat) (hk : k + i < 8 * l.length) (hi : i < 16) (x : Nat) (hx : l[(k + i) / 8]'(by omega) = (x : Int)) :
    crcFrom c (l.set ((k + i) / 8) ((x ^^^ (128 >>> ((k + i) % 8)) : Nat) : Int)) = crcFrom c l ^^^ it (8 * l.length - k) (BitVec.ofNat 16 (32768 >>> i)) := by
  rw [crc_flip c l ((k + i) / 8) ((k + i) % 8) (by omega) (by omega) x hx, show 8 * ((k + i) / 8) + (k + i) % 8 = k + i by omega, show 8 * l.length - k = (8 * l.length - (k + i)) + i by omega, it_add, win_bit ⟨i, hi⟩]
end Go.Proofs.YtecbfegohdllbaaDoor
