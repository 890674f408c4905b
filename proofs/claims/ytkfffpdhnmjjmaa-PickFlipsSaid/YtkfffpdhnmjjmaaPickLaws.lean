/- The walks of the statements of layer 3 (pick), but for the one that speaks of the reference. -/
import Derived.Test.YtkfffpdhnmjjmaaPick
namespace Go.Proofs.Ytkfffpdhnmjjmaa
open Go.RowKit
set_option linter.unusedVariables false
theorem flip0 (x : Int) (h : -2147483648 ≤ x ∧ x ≤ 2147483647) : flipI x 0 = x := by
  unfold flipI
  have e : BitVec.ofInt 32 x ^^^ BitVec.ofInt 32 0 = BitVec.ofInt 32 x := by simp
  rw [e, toInt_ofInt32 x h]; unfold lowI; omega
theorem not_toInt (v : BitVec 32) : (~~~ v).toInt = - v.toInt - 1 := by
  have h := v.isLt
  have e : (~~~ v).toNat = 4294967295 - v.toNat := by simp [BitVec.toNat_not]
  rw [BitVec.toInt_eq_toNat_cond, BitVec.toInt_eq_toNat_cond, e]
  split <;> split <;> omega
theorem ofInt_neg1 : BitVec.ofInt 32 (-1) = BitVec.allOnes 32 := by decide
theorem flipm (x : Int) (h : -2147483648 ≤ x ∧ x ≤ 2147483647) : flipI x (-1) = lowI (-x) := by
  unfold flipI
  have e : BitVec.ofInt 32 x ^^^ BitVec.ofInt 32 (-1) = ~~~ BitVec.ofInt 32 x := by rw [ofInt_neg1, BitVec.xor_allOnes]
  rw [e, not_toInt, toInt_ofInt32 x h]; unfold lowI; omega
theorem sel0 (a b : Int) (h : -2147483648 ≤ b ∧ b ≤ 2147483647) : selI 0 a b = b := by
  unfold selI
  rw [show BitVec.ofInt 32 0 = 0#32 from rfl]
  simp only [BitVec.and_zero, BitVec.zero_or, BitVec.not_zero, BitVec.and_allOnes]
  exact toInt_ofInt32 b h
theorem selm (a b : Int) (h : -2147483648 ≤ a ∧ a ≤ 2147483647) : selI (-1) a b = a := by
  unfold selI
  rw [ofInt_neg1]
  simp only [BitVec.and_allOnes, BitVec.not_allOnes, BitVec.and_zero, BitVec.or_zero]
  exact toInt_ofInt32 a h
theorem ofInt_not (x : Int) (h : -2147483648 ≤ x ∧ x ≤ 2147483647) : BitVec.ofInt 32 (-x - 1) = ~~~ BitVec.ofInt 32 x := by
  apply BitVec.eq_of_toInt_eq
  rw [not_toInt, toInt_ofInt32 _ (by omega), toInt_ofInt32 _ h]
theorem compl_bits (x : Int) : BitVec.ofInt 32 (bits .xor .i32 (-1) x) = ~~~ BitVec.ofInt 32 x := by
  rw [bits_i32, ofInt_neg1, ofInt_toInt32]
  show BitVec.allOnes 32 ^^^ BitVec.ofInt 32 x = _
  rw [BitVec.xor_comm, BitVec.xor_allOnes]
theorem sel_swap (x a b : Int) : selI (bits .xor .i32 (-1) x) b a = selI x a b := by
  unfold selI
  rw [compl_bits, BitVec.not_not, BitVec.or_comm]
set_option maxHeartbeats 4000000 in
theorem PickFlips_walk (a0 : Int) (w0 : (Lit.int .i32 a0).wf = true) (w : World) :
    Calls Try.prog 13 #[.int .i32 a0] w fun e w' => e = .returned (.bool true) ∧ Below w.heap.size w w' := by
  have b0 := bd_i32 w0
  clear w0
  have hB := Below.refl w.heap.size w
  have f0 := flip0 a0 b0
  have fm := flipm a0 b0
  have c0 := fun w => flip_any a0 0 w
  have c1 := fun w => flip_any a0 (-1) w
  rw [f0] at c0
  rw [fm] at c1
  have cs := fun w => sign_any a0 w b0
  have hl := lowI_bd (-a0)
  have wr : wrap32 (-a0) = lowI (-a0) := lowI_wrap _
  by_cases h : a0 < 0
  · have e1 : - ifI (decide (a0 < 0)) = -1 := by simp [h, ifI]
    rw [e1] at cs
    have f2 := flipm (lowI (-a0)) hl
    have e2 : lowI (- lowI (-a0)) = a0 := by unfold lowI; omega
    rw [e2] at f2
    have c2 := fun w => flip_any (lowI (-a0)) (-1) w
    rw [f2] at c2
    have C0 := hid c0
    have C1 := hid c1
    have C2 := hid c2
    have CS := hid cs
    clear c0 c1 c2 cs f0 fm e1 f2 e2
    have t1 : (lowI (-a0) == lowI (-a0)) = true := by simp
    have d : 0 ≤ lowI (-a0) ∨ (¬ 0 ≤ lowI (-a0) ∧ (a0 == -2147483648) = true) := by unfold lowI; simp; omega
    rcases d with d | ⟨d, d2⟩
    all_goals
      go_enter Try.func13, Try.ntmps13
      go_wp2_with fail
      refine (CS.out _).mono ?_
      rintro e w2 ⟨rfl, rfl⟩
      go_wp2_with fail
      refine (C1.out _).mono ?_
      rintro e w2 ⟨rfl, rfl⟩
      go_wp2_with fail
      refine (C2.out _).mono ?_
      rintro e w2 ⟨rfl, rfl⟩
      go_wp2_with fail
      refine (C0.out _).mono ?_
      rintro e w2 ⟨rfl, rfl⟩
      go_wp2_with fail
      refine (C1.out _).mono ?_
      rintro e w2 ⟨rfl, rfl⟩
      go_wp2_with fail
      refine (awake03 _).mono ?_
      rintro e w2 ⟨rfl, rfl⟩
      go_wp2
      go_ret
      exact ⟨rfl, hB⟩
  · have e1 : - ifI (decide (a0 < 0)) = 0 := by simp [h, ifI]
    rw [e1] at cs
    have C0 := hid c0
    have C1 := hid c1
    have CS := hid cs
    clear c0 c1 cs f0 fm e1
    have t1 : (lowI (-a0) == -a0) = true := by unfold lowI; simp; omega
    go_enter Try.func13, Try.ntmps13
    go_wp2_with fail
    refine (CS.out _).mono ?_
    rintro e w2 ⟨rfl, rfl⟩
    go_wp2_with fail
    refine (C0.out _).mono ?_
    rintro e w2 ⟨rfl, rfl⟩
    go_wp2_with fail
    refine (C0.out _).mono ?_
    rintro e w2 ⟨rfl, rfl⟩
    go_wp2_with fail
    refine (C0.out _).mono ?_
    rintro e w2 ⟨rfl, rfl⟩
    go_wp2_with fail
    refine (C1.out _).mono ?_
    rintro e w2 ⟨rfl, rfl⟩
    go_wp2_with fail
    refine (awake03 _).mono ?_
    rintro e w2 ⟨rfl, rfl⟩
    go_wp2
    go_ret
    exact ⟨rfl, hB⟩
end Go.Proofs.Ytkfffpdhnmjjmaa
