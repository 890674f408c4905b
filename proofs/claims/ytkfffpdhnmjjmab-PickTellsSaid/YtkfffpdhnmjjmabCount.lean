/- Counting a word's ones, and turning its bits: plain facts. -/
import Derived.Test.YtkfffpdhnmjjmabBv
import Derived.Lib.BitFns
namespace Go.Proofs.Ytkfffpdhnmjjmab
open Go.RowKit
set_option linter.unusedVariables false
def sumN (f : Nat → Int) : Nat → Int
  | 0 => 0
  | n + 1 => sumN f n + f n
theorem sumN_congr {f g : Nat → Int} : ∀ n, (∀ i, i < n → f i = g i) → sumN f n = sumN g n
  | 0, _ => rfl
  | n + 1, h => by rw [sumN, sumN, sumN_congr n (fun i hi => h i (by omega)), h n (by omega)]
theorem sumN_add (f g : Nat → Int) : ∀ n, sumN (fun i => f i + g i) n = sumN f n + sumN g n
  | 0 => rfl
  | n + 1 => by rw [sumN, sumN, sumN, sumN_add f g n]; omega
theorem sumN_split (f : Nat → Int) (m : Nat) : ∀ n, sumN f (m + n) = sumN f m + sumN (fun i => f (m + i)) n
  | 0 => by simp [sumN]
  | n + 1 => by rw [← Nat.add_assoc, sumN, sumN, sumN_split f m n]; omega
theorem sumN_first (f : Nat → Int) (n : Nat) : sumN f (n + 1) = f 0 + sumN (fun i => f (i + 1)) n := by
  have h := sumN_split f 1 n
  rw [Nat.add_comm 1 n] at h
  rw [h, sumN, sumN, Int.zero_add]
  congr 1
  exact sumN_congr n (fun i _ => by rw [Nat.add_comm])
theorem sumN_rev (f : Nat → Int) : ∀ n, sumN f n = sumN (fun i => f (n - 1 - i)) n
  | 0 => rfl
  | n + 1 => by
    rw [sumN_first (fun i => f (n + 1 - 1 - i)) n, sumN, sumN_rev f n, Int.add_comm]
    congr 1
    exact sumN_congr n (fun i hi => by congr 1; omega)
/-- how many bits are 1 -/
def cnt (v : BitVec 32) : Int := sumN (bt v) 32
theorem bt_bd (v : BitVec 32) (i : Nat) : 0 ≤ bt v i ∧ bt v i ≤ 1 := by rcases bt_01 v i with h | h <;> omega
theorem sumN_bd (v : BitVec 32) : ∀ n, 0 ≤ sumN (bt v) n ∧ sumN (bt v) n ≤ n
  | 0 => by simp [sumN]
  | n + 1 => by have := sumN_bd v n; have := bt_bd v n; rw [sumN]; omega
theorem cnt_not (v : BitVec 32) : cnt v + cnt (~~~v) = 32 := by
  unfold cnt
  rw [← sumN_add, sumN_congr (g := fun _ => 1) 32]
  · rfl
  · intro i hi
    unfold bt
    rw [BitVec.getLsbD_not]
    cases v.getLsbD i <;> simp [hi]
theorem bt_rev (v : BitVec 32) (i : Nat) (hi : i < 32) : bt v.reverse i = bt v (31 - i) := by
  unfold bt
  rw [BitVec.getLsbD_reverse, BitVec.getMsbD_eq_getLsbD]
  simp [hi]
theorem cnt_rev (v : BitVec 32) : cnt v.reverse = cnt v := by
  unfold cnt
  rw [sumN_rev (bt v) 32]
  exact sumN_congr 32 (fun i hi => bt_rev v i hi)
theorem rev_rev (v : BitVec 32) : v.reverse.reverse = v := by
  apply BitVec.eq_of_getLsbD_eq
  intro i hi
  rw [BitVec.getLsbD_reverse, BitVec.getMsbD_reverse]
theorem cnt_both (x y : BitVec 32) : cnt x + cnt y = cnt (x ^^^ y) + 2 * cnt (x &&& y) := by
  have h : sumN (fun i => bt x i + bt y i) 32 = sumN (fun i => bt (x ^^^ y) i + (bt (x &&& y) i + bt (x &&& y) i)) 32 := by
    refine sumN_congr 32 (fun i hi => ?_)
    unfold bt
    rw [BitVec.getLsbD_xor, BitVec.getLsbD_and]
    cases x.getLsbD i <;> cases y.getLsbD i <;> simp
  rw [sumN_add, sumN_add, sumN_add] at h
  unfold cnt; omega
/-- the ones of a byte -/
theorem pop8_sum : ∀ n : Fin 256, Lib.pop8 (n.val : Int) = sumN (fun i => ((n.val / 2 ^ i % 2 : Nat) : Int)) 8 := by decide +kernel
theorem pop8_byte (v : BitVec 32) (s : Nat) : Lib.pop8 ((v.toNat / 2 ^ s % 256 : Nat) : Int) = sumN (fun i => bt v (s + i)) 8 := by
  have h := pop8_sum ⟨v.toNat / 2 ^ s % 256, Nat.mod_lt _ (by decide)⟩
  simp only at h
  rw [h]
  refine sumN_congr 8 (fun i hi => ?_)
  rw [← bt_eq, Nat.pow_add, ← Nat.div_div_eq_div_mul]
  generalize v.toNat / 2 ^ s = y
  have e : (256 : Nat) = 2 ^ i * 2 ^ (8 - i) := by rw [← Nat.pow_add, show i + (8 - i) = 8 by omega]
  have : y % 256 / 2 ^ i % 2 = y / 2 ^ i % 2 := by
    rw [e, Nat.mod_mul_right_div_self, show 8 - i = (8 - i - 1) + 1 by omega, Nat.pow_succ, Nat.mul_comm, Nat.mod_mul_right_mod]
  rw [this]
theorem pop8_bd (b : Int) (h0 : 0 ≤ b) (h1 : b ≤ 255) : 0 ≤ Lib.pop8 b ∧ Lib.pop8 b ≤ 8 := by
  have h : ∀ n : Fin 256, 0 ≤ Lib.pop8 (n.val : Int) ∧ Lib.pop8 (n.val : Int) ≤ 8 := by decide +kernel
  have := h ⟨b.toNat, by omega⟩
  simp only [Int.toNat_of_nonneg h0] at this
  exact this
theorem cnt_bytes (v : BitVec 32) : cnt v = Lib.pop8 ((v.toNat / 16777216 : Nat) : Int) + Lib.pop8 ((v.toNat / 65536 % 256 : Nat) : Int) + Lib.pop8 ((v.toNat / 256 % 256 : Nat) : Int) + Lib.pop8 ((v.toNat % 256 : Nat) : Int) := by
  have h0 := pop8_byte v 0
  have h1 := pop8_byte v 8
  have h2 := pop8_byte v 16
  have h3 := pop8_byte v 24
  have hlt := v.isLt
  simp only [Nat.pow_zero, Nat.div_one] at h0
  rw [show (2:Nat) ^ 8 = 256 from rfl] at h1
  rw [show (2:Nat) ^ 16 = 65536 from rfl] at h2
  rw [show (2:Nat) ^ 24 = 16777216 from rfl, Nat.mod_eq_of_lt (by omega)] at h3
  rw [h0, h1, h2, h3]
  unfold cnt
  have s1 : sumN (bt v) 32 = _ := sumN_split (bt v) 8 24
  have s2 : sumN (fun i => bt v (8 + i)) 24 = _ := sumN_split (fun i => bt v (8 + i)) 8 16
  have s3 : sumN (fun i => bt v (16 + i)) 16 = _ := sumN_split (fun i => bt v (16 + i)) 8 8
  have c1 : sumN (fun i => bt v (8 + (8 + i))) 16 = sumN (fun i => bt v (16 + i)) 16 := sumN_congr _ (fun i _ => by congr 1; omega)
  have c2 : sumN (fun i => bt v (16 + (8 + i))) 8 = sumN (fun i => bt v (24 + i)) 8 := sumN_congr _ (fun i _ => by congr 1; omega)
  have c0 : sumN (fun i => bt v (0 + i)) 8 = sumN (bt v) 8 := sumN_congr _ (fun i _ => by congr 1; omega)
  rw [c1] at s2
  rw [c2] at s3
  rw [c0]
  omega
/-- where a bit comes from, where blocks of k bits change places -/
def q (k i : Nat) : Nat := if i / k % 2 = 0 then i + k else i - k
/-- one stage of turning: blocks of k bits change places -/
theorem stage (v m : BitVec 32) (k : Nat) (hk : 0 < k) (hm : ∀ i, i < 32 → m.getLsbD i = decide (i / k % 2 = 0)) (hd : ∀ i, i < 32 → (i / k % 2 = 0 → i + k < 32 ∧ (k ≤ i → (i - k) / k % 2 = 1)) ∧ (i / k % 2 = 1 → k ≤ i ∧ (i - k) / k % 2 = 0)) (i : Nat) (hi : i < 32) :
    (((v >>> k) &&& m) ||| ((v &&& m) <<< k)).getLsbD i = v.getLsbD (q k i) := by
  unfold q
  rw [BitVec.getLsbD_or, BitVec.getLsbD_and, BitVec.getLsbD_ushiftRight, BitVec.getLsbD_shiftLeft, BitVec.getLsbD_and, hm i hi]
  obtain ⟨h0, h1⟩ := hd i hi
  by_cases h : i / k % 2 = 0
  · rw [if_pos h, Nat.add_comm k i]
    by_cases hki : k ≤ i
    · rw [hm (i - k) (by omega), (h0 h).2 hki]; simp [h]
    · simp [h, hki] <;> omega
  · have h' : i / k % 2 = 1 := by omega
    rw [if_neg h, hm (i - k) (by omega), (h1 h').2]
    have := (h1 h').1
    simp [h, hi] <;> omega
def rev1 (v : BitVec 32) : BitVec 32 := ((v >>> 1) &&& 0x55555555#32) ||| ((v &&& 0x55555555#32) <<< 1)
def rev2 (v : BitVec 32) : BitVec 32 := ((v >>> 2) &&& 0x33333333#32) ||| ((v &&& 0x33333333#32) <<< 2)
def rev4 (v : BitVec 32) : BitVec 32 := ((v >>> 4) &&& 0x0f0f0f0f#32) ||| ((v &&& 0x0f0f0f0f#32) <<< 4)
def rev8 (v : BitVec 32) : BitVec 32 := ((v >>> 8) &&& 0x00ff00ff#32) ||| ((v &&& 0x00ff00ff#32) <<< 8)
def rev16 (v : BitVec 32) : BitVec 32 := (v >>> 16) ||| (v <<< 16)
theorem rev1_bit (v : BitVec 32) (i : Nat) (hi : i < 32) : (rev1 v).getLsbD i = v.getLsbD (q 1 i) :=
  stage v _ 1 (by decide) (fun i hi => by have : ∀ j : Fin 32, (0x55555555#32).getLsbD j.val = decide (j.val / 1 % 2 = 0) := by decide
                                          exact this ⟨i, hi⟩) (fun i hi => by omega) i hi
theorem rev2_bit (v : BitVec 32) (i : Nat) (hi : i < 32) : (rev2 v).getLsbD i = v.getLsbD (q 2 i) :=
  stage v _ 2 (by decide) (fun i hi => by have : ∀ j : Fin 32, (0x33333333#32).getLsbD j.val = decide (j.val / 2 % 2 = 0) := by decide
                                          exact this ⟨i, hi⟩) (fun i hi => by omega) i hi
theorem rev4_bit (v : BitVec 32) (i : Nat) (hi : i < 32) : (rev4 v).getLsbD i = v.getLsbD (q 4 i) :=
  stage v _ 4 (by decide) (fun i hi => by have : ∀ j : Fin 32, (0x0f0f0f0f#32).getLsbD j.val = decide (j.val / 4 % 2 = 0) := by decide
                                          exact this ⟨i, hi⟩) (fun i hi => by omega) i hi
theorem rev8_bit (v : BitVec 32) (i : Nat) (hi : i < 32) : (rev8 v).getLsbD i = v.getLsbD (q 8 i) :=
  stage v _ 8 (by decide) (fun i hi => by have : ∀ j : Fin 32, (0x00ff00ff#32).getLsbD j.val = decide (j.val / 8 % 2 = 0) := by decide
                                          exact this ⟨i, hi⟩) (fun i hi => by omega) i hi
theorem rev16_bit (v : BitVec 32) (i : Nat) (hi : i < 32) : (rev16 v).getLsbD i = v.getLsbD (q 16 i) := by
  have e : q 16 i = if i < 16 then i + 16 else i - 16 := by unfold q; split <;> split <;> omega
  rw [e]
  unfold rev16
  rw [BitVec.getLsbD_or, BitVec.getLsbD_ushiftRight, BitVec.getLsbD_shiftLeft]
  by_cases h : i < 16
  · simp [h, Nat.add_comm]
  · rw [if_neg h, BitVec.getLsbD_of_ge v (16 + i) (by omega)]
    simp [h, hi]
theorem q_all : ∀ j : Fin 32, q 16 j.val < 32 ∧ q 8 (q 16 j.val) < 32 ∧ q 4 (q 8 (q 16 j.val)) < 32 ∧ q 2 (q 4 (q 8 (q 16 j.val))) < 32 ∧ q 1 (q 2 (q 4 (q 8 (q 16 j.val)))) = 31 - j.val := by decide
theorem rev_all (v : BitVec 32) : rev16 (rev8 (rev4 (rev2 (rev1 v)))) = v.reverse := by
  apply BitVec.eq_of_getLsbD_eq
  intro i hi
  obtain ⟨ha, hb, hc, hd, e⟩ := q_all ⟨i, hi⟩
  rw [rev16_bit _ _ hi, rev8_bit _ _ ha, rev4_bit _ _ hb, rev2_bit _ _ hc, rev1_bit _ _ hd, e, BitVec.getLsbD_reverse, BitVec.getMsbD_eq_getLsbD]
  simp [hi]
end Go.Proofs.Ytkfffpdhnmjjmab
