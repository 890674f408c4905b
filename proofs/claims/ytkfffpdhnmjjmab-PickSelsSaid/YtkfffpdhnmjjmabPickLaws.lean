/- The walks of the statements of layer 3 (pick), but for the one that speaks of the reference. -/
import Derived.Test.YtkfffpdhnmjjmabPick
namespace Go.Proofs.Ytkfffpdhnmjjmab
open Go.RowKit
set_option linter.unusedVariables false
theorem flip0 (x : Int) (h : -2147483648 ≤ x ∧ x ≤ 2147483647) : flipI x 0 = x := by
  unfold flipI
  have e : BitVec.ofInt 32 x ^^^ BitVec.ofInt 32 0 = BitVec.ofInt 32 x := by simp
  rw [e, toInt_ofInt32 x h]; unfold lowI; omega
theorem not_toInt (v : BitVec 32) : (~~~ v).toInt = - v.toInt - 1 := by
  have h := v.isLt
  have e : (~~~ v).toNat = 4294967295 - v.toNat := by simp [BitVec.toNat_not]
  rw [BitVec.toInt_eq_toNat_cond, BitVec.toInt_eq_toNat_cond, e]
  split <;> split <;> omega
theorem ofInt_neg1 : BitVec.ofInt 32 (-1) = BitVec.allOnes 32 := by decide
theorem flipm (x : Int) (h : -2147483648 ≤ x ∧ x ≤ 2147483647) : flipI x (-1) = lowI (-x) := by
  unfold flipI
  have e : BitVec.ofInt 32 x ^^^ BitVec.ofInt 32 (-1) = ~~~ BitVec.ofInt 32 x := by rw [ofInt_neg1, BitVec.xor_allOnes]
  rw [e, not_toInt, toInt_ofInt32 x h]; unfold lowI; omega
theorem sel0 (a b : Int) (h : -2147483648 ≤ b ∧ b ≤ 2147483647) : selI 0 a b = b := by
  unfold selI
  rw [show BitVec.ofInt 32 0 = 0#32 from rfl]
  simp only [BitVec.and_zero, BitVec.zero_or, BitVec.not_zero, BitVec.and_allOnes]
  exact toInt_ofInt32 b h
theorem selm (a b : Int) (h : -2147483648 ≤ a ∧ a ≤ 2147483647) : selI (-1) a b = a := by
  unfold selI
  rw [ofInt_neg1]
  simp only [BitVec.and_allOnes, BitVec.not_allOnes, BitVec.and_zero, BitVec.or_zero]
  exact toInt_ofInt32 a h
theorem ofInt_not (x : Int) (h : -2147483648 ≤ x ∧ x ≤ 2147483647) : BitVec.ofInt 32 (-x - 1) = ~~~ BitVec.ofInt 32 x := by
  apply BitVec.eq_of_toInt_eq
  rw [not_toInt, toInt_ofInt32 _ (by omega), toInt_ofInt32 _ h]
theorem compl_bits (x : Int) : BitVec.ofInt 32 (bits .xor .i32 (-1) x) = ~~~ BitVec.ofInt 32 x := by
  rw [bits_i32, ofInt_neg1, ofInt_toInt32]
  show BitVec.allOnes 32 ^^^ BitVec.ofInt 32 x = _
  rw [BitVec.xor_comm, BitVec.xor_allOnes]
theorem sel_swap (x a b : Int) : selI (bits .xor .i32 (-1) x) b a = selI x a b := by
  unfold selI
  rw [compl_bits, BitVec.not_not, BitVec.or_comm]
set_option maxHeartbeats 1000000 in
theorem PickSels_11 (a0 : Int) (a1 : Int) (a2 : Int) (w0 : (Lit.int .i32 a0).wf = true) (w1 : (Lit.int .i32 a1).wf = true) (w2 : (Lit.int .i32 a2).wf = true) (w : World) (h : a0 = 0) (g : a1 < a2) :
    Calls Try.prog 3 #[.int .i32 a0, .int .i32 a1, .int .i32 a2] w fun e w' => e = .returned (.bool true) ∧ Below w.heap.size w w' := by
  have b0 := bd_i32 w0
  have b1 := bd_i32 w1
  have b2 := bd_i32 w2
  clear w0 w1 w2
  have hB := Below.refl w.heap.size w
  subst h
  have cm := fun w => mask_any 0 w b0
  have e1 : - ifI ((0 : Int) != 0) = 0 := by simp [ifI]
  rw [e1] at cm
  have CM := hid cm
  clear cm e1
  have cl := fun w => less_any a1 a2 w b1 b2
  have e2 : ifI (decide (a1 < a2)) = 1 := by simp [g, ifI]
  rw [e2] at cl
  have CL := hid cl
  clear cl e2
  have k := fun w => sel_any (0) a1 a2 w
  rw [sel0 a1 a2 b2] at k
  have K0 := hid k
  clear k
  have k := fun w => sel_any (-1) a1 a2 w
  rw [selm a1 a2 b1] at k
  have KM := hid k
  clear k
  have k := fun w => sel_any (0) a2 a1 w
  rw [sel0 a2 a1 b1] at k
  have J0 := hid k
  clear k
  have k := fun w => sel_any (-1) a2 a1 w
  rw [selm a2 a1 b2] at k
  have JM := hid k
  clear k
  have c := fun w => min_any a1 a2 w b1 b2
  have e3 : min a1 a2 = a1 := by omega
  rw [e3] at c
  have CN := hid c
  clear c e3
  have t1 : (a1 == a1) = true := by simp
  have t2 : (a2 == a2) = true := by simp
  clear g
  go_enter Try.func3, Try.ntmps3
  go_wp2_with fail
  refine (CM.out _).mono ?_
  rintro e w2 ⟨rfl, rfl⟩
  go_wp2_with fail
  refine (K0.out _).mono ?_
  rintro e w2 ⟨rfl, rfl⟩
  go_wp2_with fail
  refine (JM.out _).mono ?_
  rintro e w2 ⟨rfl, rfl⟩
  go_wp2_with fail
  refine (K0.out _).mono ?_
  rintro e w2 ⟨rfl, rfl⟩
  go_wp2_with fail
  refine (JM.out _).mono ?_
  rintro e w2 ⟨rfl, rfl⟩
  go_wp2_with fail
  refine (CL.out _).mono ?_
  rintro e w2 ⟨rfl, rfl⟩
  go_wp2_with fail
  refine (KM.out _).mono ?_
  rintro e w2 ⟨rfl, rfl⟩
  go_wp2_with fail
  refine (CN.out _).mono ?_
  rintro e w2 ⟨rfl, rfl⟩
  go_wp2_with fail
  refine (awake03 _).mono ?_
  rintro e w2 ⟨rfl, rfl⟩
  go_wp2
  go_ret
  exact ⟨rfl, hB⟩
set_option maxHeartbeats 1000000 in
theorem PickSels_10 (a0 : Int) (a1 : Int) (a2 : Int) (w0 : (Lit.int .i32 a0).wf = true) (w1 : (Lit.int .i32 a1).wf = true) (w2 : (Lit.int .i32 a2).wf = true) (w : World) (h : a0 = 0) (g : ¬ a1 < a2) :
    Calls Try.prog 3 #[.int .i32 a0, .int .i32 a1, .int .i32 a2] w fun e w' => e = .returned (.bool true) ∧ Below w.heap.size w w' := by
  have b0 := bd_i32 w0
  have b1 := bd_i32 w1
  have b2 := bd_i32 w2
  clear w0 w1 w2
  have hB := Below.refl w.heap.size w
  subst h
  have cm := fun w => mask_any 0 w b0
  have e1 : - ifI ((0 : Int) != 0) = 0 := by simp [ifI]
  rw [e1] at cm
  have CM := hid cm
  clear cm e1
  have cl := fun w => less_any a1 a2 w b1 b2
  have e2 : ifI (decide (a1 < a2)) = 0 := by simp [g, ifI]
  rw [e2] at cl
  have CL := hid cl
  clear cl e2
  have k := fun w => sel_any (0) a1 a2 w
  rw [sel0 a1 a2 b2] at k
  have K0 := hid k
  clear k
  have k := fun w => sel_any (-1) a1 a2 w
  rw [selm a1 a2 b1] at k
  have KM := hid k
  clear k
  have k := fun w => sel_any (0) a2 a1 w
  rw [sel0 a2 a1 b1] at k
  have J0 := hid k
  clear k
  have k := fun w => sel_any (-1) a2 a1 w
  rw [selm a2 a1 b2] at k
  have JM := hid k
  clear k
  have c := fun w => min_any a1 a2 w b1 b2
  have e3 : min a1 a2 = a2 := by omega
  rw [e3] at c
  have CN := hid c
  clear c e3
  have t1 : (a1 == a1) = true := by simp
  have t2 : (a2 == a2) = true := by simp
  clear g
  go_enter Try.func3, Try.ntmps3
  go_wp2_with fail
  refine (CM.out _).mono ?_
  rintro e w2 ⟨rfl, rfl⟩
  go_wp2_with fail
  refine (K0.out _).mono ?_
  rintro e w2 ⟨rfl, rfl⟩
  go_wp2_with fail
  refine (JM.out _).mono ?_
  rintro e w2 ⟨rfl, rfl⟩
  go_wp2_with fail
  refine (K0.out _).mono ?_
  rintro e w2 ⟨rfl, rfl⟩
  go_wp2_with fail
  refine (JM.out _).mono ?_
  rintro e w2 ⟨rfl, rfl⟩
  go_wp2_with fail
  refine (CL.out _).mono ?_
  rintro e w2 ⟨rfl, rfl⟩
  go_wp2_with fail
  refine (K0.out _).mono ?_
  rintro e w2 ⟨rfl, rfl⟩
  go_wp2_with fail
  refine (CN.out _).mono ?_
  rintro e w2 ⟨rfl, rfl⟩
  go_wp2_with fail
  refine (awake03 _).mono ?_
  rintro e w2 ⟨rfl, rfl⟩
  go_wp2
  go_ret
  exact ⟨rfl, hB⟩
set_option maxHeartbeats 1000000 in
theorem PickSels_01 (a0 : Int) (a1 : Int) (a2 : Int) (w0 : (Lit.int .i32 a0).wf = true) (w1 : (Lit.int .i32 a1).wf = true) (w2 : (Lit.int .i32 a2).wf = true) (w : World) (h : ¬ a0 = 0) (g : a1 < a2) :
    Calls Try.prog 3 #[.int .i32 a0, .int .i32 a1, .int .i32 a2] w fun e w' => e = .returned (.bool true) ∧ Below w.heap.size w w' := by
  have b0 := bd_i32 w0
  have b1 := bd_i32 w1
  have b2 := bd_i32 w2
  clear w0 w1 w2
  have hB := Below.refl w.heap.size w
  have cm := fun w => mask_any a0 w b0
  have e1 : - ifI ((a0 : Int) != 0) = -1 := by simp [h, ifI]
  rw [e1] at cm
  have CM := hid cm
  clear cm e1
  have cl := fun w => less_any a1 a2 w b1 b2
  have e2 : ifI (decide (a1 < a2)) = 1 := by simp [g, ifI]
  rw [e2] at cl
  have CL := hid cl
  clear cl e2
  have k := fun w => sel_any (0) a1 a2 w
  rw [sel0 a1 a2 b2] at k
  have K0 := hid k
  clear k
  have k := fun w => sel_any (-1) a1 a2 w
  rw [selm a1 a2 b1] at k
  have KM := hid k
  clear k
  have k := fun w => sel_any (0) a2 a1 w
  rw [sel0 a2 a1 b1] at k
  have J0 := hid k
  clear k
  have k := fun w => sel_any (-1) a2 a1 w
  rw [selm a2 a1 b2] at k
  have JM := hid k
  clear k
  have k := fun w => sel_any (bits .xor .i32 (-1) a0) a2 a1 w
  rw [sel_swap a0 a1 a2] at k
  have KX := hid k
  clear k
  have c := fun w => min_any a1 a2 w b1 b2
  have e3 : min a1 a2 = a1 := by omega
  rw [e3] at c
  have CN := hid c
  clear c e3
  have t1 : (a1 == a1) = true := by simp
  have t2 : (a2 == a2) = true := by simp
  have t3 : (selI a0 a1 a2 == selI a0 a1 a2) = true := by simp
  have h2 : (a0 != 0) = true := by simp [h]
  clear h g
  go_enter Try.func3, Try.ntmps3
  go_wp2_with fail
  refine (CM.out _).mono ?_
  rintro e w2 ⟨rfl, rfl⟩
  go_wp2_with fail
  refine (KM.out _).mono ?_
  rintro e w2 ⟨rfl, rfl⟩
  go_wp2_with fail
  refine (J0.out _).mono ?_
  rintro e w2 ⟨rfl, rfl⟩
  go_wp2_with fail
  refine (sel_any _ _ _ _).mono ?_
  rintro e w2 ⟨rfl, rfl⟩
  go_wp2_with fail
  refine (KX.out _).mono ?_
  rintro e w2 ⟨rfl, rfl⟩
  go_wp2_with fail
  refine (CL.out _).mono ?_
  rintro e w2 ⟨rfl, rfl⟩
  go_wp2_with fail
  refine (KM.out _).mono ?_
  rintro e w2 ⟨rfl, rfl⟩
  go_wp2_with fail
  refine (CN.out _).mono ?_
  rintro e w2 ⟨rfl, rfl⟩
  go_wp2_with fail
  refine (awake03 _).mono ?_
  rintro e w2 ⟨rfl, rfl⟩
  go_wp2
  go_ret
  exact ⟨rfl, hB⟩
set_option maxHeartbeats 1000000 in
theorem PickSels_00 (a0 : Int) (a1 : Int) (a2 : Int) (w0 : (Lit.int .i32 a0).wf = true) (w1 : (Lit.int .i32 a1).wf = true) (w2 : (Lit.int .i32 a2).wf = true) (w : World) (h : ¬ a0 = 0) (g : ¬ a1 < a2) :
    Calls Try.prog 3 #[.int .i32 a0, .int .i32 a1, .int .i32 a2] w fun e w' => e = .returned (.bool true) ∧ Below w.heap.size w w' := by
  have b0 := bd_i32 w0
  have b1 := bd_i32 w1
  have b2 := bd_i32 w2
  clear w0 w1 w2
  have hB := Below.refl w.heap.size w
  have cm := fun w => mask_any a0 w b0
  have e1 : - ifI ((a0 : Int) != 0) = -1 := by simp [h, ifI]
  rw [e1] at cm
  have CM := hid cm
  clear cm e1
  have cl := fun w => less_any a1 a2 w b1 b2
  have e2 : ifI (decide (a1 < a2)) = 0 := by simp [g, ifI]
  rw [e2] at cl
  have CL := hid cl
  clear cl e2
  have k := fun w => sel_any (0) a1 a2 w
  rw [sel0 a1 a2 b2] at k
  have K0 := hid k
  clear k
  have k := fun w => sel_any (-1) a1 a2 w
  rw [selm a1 a2 b1] at k
  have KM := hid k
  clear k
  have k := fun w => sel_any (0) a2 a1 w
  rw [sel0 a2 a1 b1] at k
  have J0 := hid k
  clear k
  have k := fun w => sel_any (-1) a2 a1 w
  rw [selm a2 a1 b2] at k
  have JM := hid k
  clear k
  have k := fun w => sel_any (bits .xor .i32 (-1) a0) a2 a1 w
  rw [sel_swap a0 a1 a2] at k
  have KX := hid k
  clear k
  have c := fun w => min_any a1 a2 w b1 b2
  have e3 : min a1 a2 = a2 := by omega
  rw [e3] at c
  have CN := hid c
  clear c e3
  have t1 : (a1 == a1) = true := by simp
  have t2 : (a2 == a2) = true := by simp
  have t3 : (selI a0 a1 a2 == selI a0 a1 a2) = true := by simp
  have h2 : (a0 != 0) = true := by simp [h]
  clear h g
  go_enter Try.func3, Try.ntmps3
  go_wp2_with fail
  refine (CM.out _).mono ?_
  rintro e w2 ⟨rfl, rfl⟩
  go_wp2_with fail
  refine (KM.out _).mono ?_
  rintro e w2 ⟨rfl, rfl⟩
  go_wp2_with fail
  refine (J0.out _).mono ?_
  rintro e w2 ⟨rfl, rfl⟩
  go_wp2_with fail
  refine (sel_any _ _ _ _).mono ?_
  rintro e w2 ⟨rfl, rfl⟩
  go_wp2_with fail
  refine (KX.out _).mono ?_
  rintro e w2 ⟨rfl, rfl⟩
  go_wp2_with fail
  refine (CL.out _).mono ?_
  rintro e w2 ⟨rfl, rfl⟩
  go_wp2_with fail
  refine (K0.out _).mono ?_
  rintro e w2 ⟨rfl, rfl⟩
  go_wp2_with fail
  refine (CN.out _).mono ?_
  rintro e w2 ⟨rfl, rfl⟩
  go_wp2_with fail
  refine (awake03 _).mono ?_
  rintro e w2 ⟨rfl, rfl⟩
  go_wp2
  go_ret
  exact ⟨rfl, hB⟩
theorem PickSels_walk (a0 : Int) (a1 : Int) (a2 : Int) (w0 : (Lit.int .i32 a0).wf = true) (w1 : (Lit.int .i32 a1).wf = true) (w2 : (Lit.int .i32 a2).wf = true) (w : World) :
    Calls Try.prog 3 #[.int .i32 a0, .int .i32 a1, .int .i32 a2] w fun e w' => e = .returned (.bool true) ∧ Below w.heap.size w w' := by
  by_cases h : a0 = 0 <;> by_cases g : a1 < a2
  · exact PickSels_11 a0 a1 a2 w0 w1 w2 w h g
  · exact PickSels_10 a0 a1 a2 w0 w1 w2 w h g
  · exact PickSels_01 a0 a1 a2 w0 w1 w2 w h g
  · exact PickSels_00 a0 a1 a2 w0 w1 w2 w h g
set_option maxHeartbeats 1000000 in
theorem PickOrders_0 (a0 : Int) (a1 : Int) (w0 : (Lit.int .i32 a0).wf = true) (w1 : (Lit.int .i32 a1).wf = true) (w : World) (h : a0 = a1) (g : 0 ≤ a0) (k : 0 ≤ a1) :
    Calls Try.prog 6 #[.int .i32 a0, .int .i32 a1] w fun e w' => e = .returned (.bool true) ∧ Below w.heap.size w w' := by
  have b0 := bd_i32 w0
  have b1 := bd_i32 w1
  clear w0 w1
  have hB := Below.refl w.heap.size w
  subst h
  have c := fun w => less_any a0 a0 w b0 b0
  have e : ifI (decide (a0 < a0)) = 0 := by rw [show decide (a0 < a0) = false from by simp <;> omega]; decide
  rw [e] at c
  have CL := hid c
  clear c e
  have c := fun w => less_any a0 a0 w b0 b0
  have e : ifI (decide (a0 < a0)) = 0 := by rw [show decide (a0 < a0) = false from by simp <;> omega]; decide
  rw [e] at c
  have CK := hid c
  clear c e
  have c := fun w => same_any a0 a0 w b0 b0
  have e : ifI (a0 == a0) = 1 := by rw [show (a0 == a0) = true from by simp <;> omega]; decide
  rw [e] at c
  have CS := hid c
  clear c e
  have c := fun w => under_any a0 a0 w b0 b0
  have e : ifI (decide (a0 % 4294967296 < a0 % 4294967296)) = 0 := by rw [show decide (a0 % 4294967296 < a0 % 4294967296) = false from by simp <;> omega]; decide
  rw [e] at c
  have CU := hid c
  clear c e
  have c := fun w => under_any a0 a0 w b0 b0
  have e : ifI (decide (a0 % 4294967296 < a0 % 4294967296)) = 0 := by rw [show decide (a0 % 4294967296 < a0 % 4294967296) = false from by simp <;> omega]; decide
  rw [e] at c
  have CV := hid c
  clear c e
  have c := fun w => sign_any a0 w b0
  have e : - ifI (decide (a0 < 0)) = 0 := by rw [show decide (a0 < 0) = false from by simp <;> omega]; decide
  rw [e] at c
  have CX := hid c
  clear c e
  have c := fun w => sign_any a0 w b0
  have e : - ifI (decide (a0 < 0)) = 0 := by rw [show decide (a0 < 0) = false from by simp <;> omega]; decide
  rw [e] at c
  have CY := hid c
  clear c e
  have c := fun w => min_any a0 a0 w b0 b0
  have e : min a0 a0 = a0 := by omega
  rw [e] at c
  have CN := hid c
  clear c e
  have c := fun w => max_any a0 a0 w b0 b0
  have e : max a0 a0 = a0 := by omega
  rw [e] at c
  have CM := hid c
  clear c e
  have t0 : (a0 == a0) = true := by simp
  have t2 : (a0 + a0 == a0 + a0) = true := by simp
  go_enter Try.func6, Try.ntmps6
  go_wp2_with fail
  refine (CL.out _).mono ?_
  rintro e w2 ⟨rfl, rfl⟩
  go_wp2_with fail
  refine (CK.out _).mono ?_
  rintro e w2 ⟨rfl, rfl⟩
  go_wp2_with fail
  refine (CS.out _).mono ?_
  rintro e w2 ⟨rfl, rfl⟩
  go_wp2_with fail
  refine (CU.out _).mono ?_
  rintro e w2 ⟨rfl, rfl⟩
  go_wp2_with fail
  refine (CV.out _).mono ?_
  rintro e w2 ⟨rfl, rfl⟩
  go_wp2_with fail
  refine (CS.out _).mono ?_
  rintro e w2 ⟨rfl, rfl⟩
  go_wp2_with fail
  refine (CX.out _).mono ?_
  rintro e w2 ⟨rfl, rfl⟩
  go_wp2_with fail
  refine (CY.out _).mono ?_
  rintro e w2 ⟨rfl, rfl⟩
  go_wp2_with fail
  refine (CL.out _).mono ?_
  rintro e w2 ⟨rfl, rfl⟩
  go_wp2_with fail
  refine (CU.out _).mono ?_
  rintro e w2 ⟨rfl, rfl⟩
  go_wp2_with fail
  refine (CN.out _).mono ?_
  rintro e w2 ⟨rfl, rfl⟩
  go_wp2_with fail
  refine (CM.out _).mono ?_
  rintro e w2 ⟨rfl, rfl⟩
  go_wp2_with fail
  refine (awake03 _).mono ?_
  rintro e w2 ⟨rfl, rfl⟩
  go_wp2
  go_ret
  exact ⟨rfl, hB⟩
set_option maxHeartbeats 1000000 in
theorem PickOrders_1 (a0 : Int) (a1 : Int) (w0 : (Lit.int .i32 a0).wf = true) (w1 : (Lit.int .i32 a1).wf = true) (w : World) (h : a0 = a1) (g : a0 < 0) (k : a1 < 0) :
    Calls Try.prog 6 #[.int .i32 a0, .int .i32 a1] w fun e w' => e = .returned (.bool true) ∧ Below w.heap.size w w' := by
  have b0 := bd_i32 w0
  have b1 := bd_i32 w1
  clear w0 w1
  have hB := Below.refl w.heap.size w
  subst h
  have c := fun w => less_any a0 a0 w b0 b0
  have e : ifI (decide (a0 < a0)) = 0 := by rw [show decide (a0 < a0) = false from by simp <;> omega]; decide
  rw [e] at c
  have CL := hid c
  clear c e
  have c := fun w => less_any a0 a0 w b0 b0
  have e : ifI (decide (a0 < a0)) = 0 := by rw [show decide (a0 < a0) = false from by simp <;> omega]; decide
  rw [e] at c
  have CK := hid c
  clear c e
  have c := fun w => same_any a0 a0 w b0 b0
  have e : ifI (a0 == a0) = 1 := by rw [show (a0 == a0) = true from by simp <;> omega]; decide
  rw [e] at c
  have CS := hid c
  clear c e
  have c := fun w => under_any a0 a0 w b0 b0
  have e : ifI (decide (a0 % 4294967296 < a0 % 4294967296)) = 0 := by rw [show decide (a0 % 4294967296 < a0 % 4294967296) = false from by simp <;> omega]; decide
  rw [e] at c
  have CU := hid c
  clear c e
  have c := fun w => under_any a0 a0 w b0 b0
  have e : ifI (decide (a0 % 4294967296 < a0 % 4294967296)) = 0 := by rw [show decide (a0 % 4294967296 < a0 % 4294967296) = false from by simp <;> omega]; decide
  rw [e] at c
  have CV := hid c
  clear c e
  have c := fun w => sign_any a0 w b0
  have e : - ifI (decide (a0 < 0)) = -1 := by rw [show decide (a0 < 0) = true from by simp <;> omega]; decide
  rw [e] at c
  have CX := hid c
  clear c e
  have c := fun w => sign_any a0 w b0
  have e : - ifI (decide (a0 < 0)) = -1 := by rw [show decide (a0 < 0) = true from by simp <;> omega]; decide
  rw [e] at c
  have CY := hid c
  clear c e
  have c := fun w => min_any a0 a0 w b0 b0
  have e : min a0 a0 = a0 := by omega
  rw [e] at c
  have CN := hid c
  clear c e
  have c := fun w => max_any a0 a0 w b0 b0
  have e : max a0 a0 = a0 := by omega
  rw [e] at c
  have CM := hid c
  clear c e
  have t0 : (a0 == a0) = true := by simp
  have t2 : (a0 + a0 == a0 + a0) = true := by simp
  go_enter Try.func6, Try.ntmps6
  go_wp2_with fail
  refine (CL.out _).mono ?_
  rintro e w2 ⟨rfl, rfl⟩
  go_wp2_with fail
  refine (CK.out _).mono ?_
  rintro e w2 ⟨rfl, rfl⟩
  go_wp2_with fail
  refine (CS.out _).mono ?_
  rintro e w2 ⟨rfl, rfl⟩
  go_wp2_with fail
  refine (CU.out _).mono ?_
  rintro e w2 ⟨rfl, rfl⟩
  go_wp2_with fail
  refine (CV.out _).mono ?_
  rintro e w2 ⟨rfl, rfl⟩
  go_wp2_with fail
  refine (CS.out _).mono ?_
  rintro e w2 ⟨rfl, rfl⟩
  go_wp2_with fail
  refine (CX.out _).mono ?_
  rintro e w2 ⟨rfl, rfl⟩
  go_wp2_with fail
  refine (CY.out _).mono ?_
  rintro e w2 ⟨rfl, rfl⟩
  go_wp2_with fail
  refine (CL.out _).mono ?_
  rintro e w2 ⟨rfl, rfl⟩
  go_wp2_with fail
  refine (CU.out _).mono ?_
  rintro e w2 ⟨rfl, rfl⟩
  go_wp2_with fail
  refine (CN.out _).mono ?_
  rintro e w2 ⟨rfl, rfl⟩
  go_wp2_with fail
  refine (CM.out _).mono ?_
  rintro e w2 ⟨rfl, rfl⟩
  go_wp2_with fail
  refine (awake03 _).mono ?_
  rintro e w2 ⟨rfl, rfl⟩
  go_wp2
  go_ret
  exact ⟨rfl, hB⟩
set_option maxHeartbeats 1000000 in
theorem PickOrders_2 (a0 : Int) (a1 : Int) (w0 : (Lit.int .i32 a0).wf = true) (w1 : (Lit.int .i32 a1).wf = true) (w : World) (h : a0 < a1) (g : 0 ≤ a0) (k : 0 ≤ a1) :
    Calls Try.prog 6 #[.int .i32 a0, .int .i32 a1] w fun e w' => e = .returned (.bool true) ∧ Below w.heap.size w w' := by
  have b0 := bd_i32 w0
  have b1 := bd_i32 w1
  clear w0 w1
  have hB := Below.refl w.heap.size w
  have c := fun w => less_any a0 a1 w b0 b1
  have e : ifI (decide (a0 < a1)) = 1 := by rw [show decide (a0 < a1) = true from by simp <;> omega]; decide
  rw [e] at c
  have CL := hid c
  clear c e
  have c := fun w => less_any a1 a0 w b1 b0
  have e : ifI (decide (a1 < a0)) = 0 := by rw [show decide (a1 < a0) = false from by simp <;> omega]; decide
  rw [e] at c
  have CK := hid c
  clear c e
  have c := fun w => same_any a0 a1 w b0 b1
  have e : ifI (a0 == a1) = 0 := by rw [show (a0 == a1) = false from by simp <;> omega]; decide
  rw [e] at c
  have CS := hid c
  clear c e
  have c := fun w => under_any a0 a1 w b0 b1
  have e : ifI (decide (a0 % 4294967296 < a1 % 4294967296)) = 1 := by rw [show decide (a0 % 4294967296 < a1 % 4294967296) = true from by simp <;> omega]; decide
  rw [e] at c
  have CU := hid c
  clear c e
  have c := fun w => under_any a1 a0 w b1 b0
  have e : ifI (decide (a1 % 4294967296 < a0 % 4294967296)) = 0 := by rw [show decide (a1 % 4294967296 < a0 % 4294967296) = false from by simp <;> omega]; decide
  rw [e] at c
  have CV := hid c
  clear c e
  have c := fun w => sign_any a0 w b0
  have e : - ifI (decide (a0 < 0)) = 0 := by rw [show decide (a0 < 0) = false from by simp <;> omega]; decide
  rw [e] at c
  have CX := hid c
  clear c e
  have c := fun w => sign_any a1 w b1
  have e : - ifI (decide (a1 < 0)) = 0 := by rw [show decide (a1 < 0) = false from by simp <;> omega]; decide
  rw [e] at c
  have CY := hid c
  clear c e
  have c := fun w => min_any a0 a1 w b0 b1
  have e : min a0 a1 = a0 := by omega
  rw [e] at c
  have CN := hid c
  clear c e
  have c := fun w => max_any a0 a1 w b0 b1
  have e : max a0 a1 = a1 := by omega
  rw [e] at c
  have CM := hid c
  clear c e
  have t0 : (a0 == a0) = true := by simp
  have t1 : (a1 == a1) = true := by simp
  have t2 : (a0 + a1 == a0 + a1) = true := by simp <;> omega
  go_enter Try.func6, Try.ntmps6
  go_wp2_with fail
  refine (CL.out _).mono ?_
  rintro e w2 ⟨rfl, rfl⟩
  go_wp2_with fail
  refine (CK.out _).mono ?_
  rintro e w2 ⟨rfl, rfl⟩
  go_wp2_with fail
  refine (CS.out _).mono ?_
  rintro e w2 ⟨rfl, rfl⟩
  go_wp2_with fail
  refine (CU.out _).mono ?_
  rintro e w2 ⟨rfl, rfl⟩
  go_wp2_with fail
  refine (CV.out _).mono ?_
  rintro e w2 ⟨rfl, rfl⟩
  go_wp2_with fail
  refine (CS.out _).mono ?_
  rintro e w2 ⟨rfl, rfl⟩
  go_wp2_with fail
  refine (CX.out _).mono ?_
  rintro e w2 ⟨rfl, rfl⟩
  go_wp2_with fail
  refine (CY.out _).mono ?_
  rintro e w2 ⟨rfl, rfl⟩
  go_wp2_with fail
  refine (CL.out _).mono ?_
  rintro e w2 ⟨rfl, rfl⟩
  go_wp2_with fail
  refine (CU.out _).mono ?_
  rintro e w2 ⟨rfl, rfl⟩
  go_wp2_with fail
  refine (CN.out _).mono ?_
  rintro e w2 ⟨rfl, rfl⟩
  go_wp2_with fail
  refine (CM.out _).mono ?_
  rintro e w2 ⟨rfl, rfl⟩
  go_wp2_with fail
  refine (awake03 _).mono ?_
  rintro e w2 ⟨rfl, rfl⟩
  go_wp2
  go_ret
  exact ⟨rfl, hB⟩
set_option maxHeartbeats 1000000 in
theorem PickOrders_3 (a0 : Int) (a1 : Int) (w0 : (Lit.int .i32 a0).wf = true) (w1 : (Lit.int .i32 a1).wf = true) (w : World) (h : a0 < a1) (g : a0 < 0) (k : a1 < 0) :
    Calls Try.prog 6 #[.int .i32 a0, .int .i32 a1] w fun e w' => e = .returned (.bool true) ∧ Below w.heap.size w w' := by
  have b0 := bd_i32 w0
  have b1 := bd_i32 w1
  clear w0 w1
  have hB := Below.refl w.heap.size w
  have c := fun w => less_any a0 a1 w b0 b1
  have e : ifI (decide (a0 < a1)) = 1 := by rw [show decide (a0 < a1) = true from by simp <;> omega]; decide
  rw [e] at c
  have CL := hid c
  clear c e
  have c := fun w => less_any a1 a0 w b1 b0
  have e : ifI (decide (a1 < a0)) = 0 := by rw [show decide (a1 < a0) = false from by simp <;> omega]; decide
  rw [e] at c
  have CK := hid c
  clear c e
  have c := fun w => same_any a0 a1 w b0 b1
  have e : ifI (a0 == a1) = 0 := by rw [show (a0 == a1) = false from by simp <;> omega]; decide
  rw [e] at c
  have CS := hid c
  clear c e
  have c := fun w => under_any a0 a1 w b0 b1
  have e : ifI (decide (a0 % 4294967296 < a1 % 4294967296)) = 1 := by rw [show decide (a0 % 4294967296 < a1 % 4294967296) = true from by simp <;> omega]; decide
  rw [e] at c
  have CU := hid c
  clear c e
  have c := fun w => under_any a1 a0 w b1 b0
  have e : ifI (decide (a1 % 4294967296 < a0 % 4294967296)) = 0 := by rw [show decide (a1 % 4294967296 < a0 % 4294967296) = false from by simp <;> omega]; decide
  rw [e] at c
  have CV := hid c
  clear c e
  have c := fun w => sign_any a0 w b0
  have e : - ifI (decide (a0 < 0)) = -1 := by rw [show decide (a0 < 0) = true from by simp <;> omega]; decide
  rw [e] at c
  have CX := hid c
  clear c e
  have c := fun w => sign_any a1 w b1
  have e : - ifI (decide (a1 < 0)) = -1 := by rw [show decide (a1 < 0) = true from by simp <;> omega]; decide
  rw [e] at c
  have CY := hid c
  clear c e
  have c := fun w => min_any a0 a1 w b0 b1
  have e : min a0 a1 = a0 := by omega
  rw [e] at c
  have CN := hid c
  clear c e
  have c := fun w => max_any a0 a1 w b0 b1
  have e : max a0 a1 = a1 := by omega
  rw [e] at c
  have CM := hid c
  clear c e
  have t0 : (a0 == a0) = true := by simp
  have t1 : (a1 == a1) = true := by simp
  have t2 : (a0 + a1 == a0 + a1) = true := by simp <;> omega
  go_enter Try.func6, Try.ntmps6
  go_wp2_with fail
  refine (CL.out _).mono ?_
  rintro e w2 ⟨rfl, rfl⟩
  go_wp2_with fail
  refine (CK.out _).mono ?_
  rintro e w2 ⟨rfl, rfl⟩
  go_wp2_with fail
  refine (CS.out _).mono ?_
  rintro e w2 ⟨rfl, rfl⟩
  go_wp2_with fail
  refine (CU.out _).mono ?_
  rintro e w2 ⟨rfl, rfl⟩
  go_wp2_with fail
  refine (CV.out _).mono ?_
  rintro e w2 ⟨rfl, rfl⟩
  go_wp2_with fail
  refine (CS.out _).mono ?_
  rintro e w2 ⟨rfl, rfl⟩
  go_wp2_with fail
  refine (CX.out _).mono ?_
  rintro e w2 ⟨rfl, rfl⟩
  go_wp2_with fail
  refine (CY.out _).mono ?_
  rintro e w2 ⟨rfl, rfl⟩
  go_wp2_with fail
  refine (CL.out _).mono ?_
  rintro e w2 ⟨rfl, rfl⟩
  go_wp2_with fail
  refine (CU.out _).mono ?_
  rintro e w2 ⟨rfl, rfl⟩
  go_wp2_with fail
  refine (CN.out _).mono ?_
  rintro e w2 ⟨rfl, rfl⟩
  go_wp2_with fail
  refine (CM.out _).mono ?_
  rintro e w2 ⟨rfl, rfl⟩
  go_wp2_with fail
  refine (awake03 _).mono ?_
  rintro e w2 ⟨rfl, rfl⟩
  go_wp2
  go_ret
  exact ⟨rfl, hB⟩
set_option maxHeartbeats 1000000 in
theorem PickOrders_4 (a0 : Int) (a1 : Int) (w0 : (Lit.int .i32 a0).wf = true) (w1 : (Lit.int .i32 a1).wf = true) (w : World) (h : a0 < a1) (g : a0 < 0) (k : 0 ≤ a1) :
    Calls Try.prog 6 #[.int .i32 a0, .int .i32 a1] w fun e w' => e = .returned (.bool true) ∧ Below w.heap.size w w' := by
  have b0 := bd_i32 w0
  have b1 := bd_i32 w1
  clear w0 w1
  have hB := Below.refl w.heap.size w
  have c := fun w => less_any a0 a1 w b0 b1
  have e : ifI (decide (a0 < a1)) = 1 := by rw [show decide (a0 < a1) = true from by simp <;> omega]; decide
  rw [e] at c
  have CL := hid c
  clear c e
  have c := fun w => less_any a1 a0 w b1 b0
  have e : ifI (decide (a1 < a0)) = 0 := by rw [show decide (a1 < a0) = false from by simp <;> omega]; decide
  rw [e] at c
  have CK := hid c
  clear c e
  have c := fun w => same_any a0 a1 w b0 b1
  have e : ifI (a0 == a1) = 0 := by rw [show (a0 == a1) = false from by simp <;> omega]; decide
  rw [e] at c
  have CS := hid c
  clear c e
  have c := fun w => under_any a0 a1 w b0 b1
  have e : ifI (decide (a0 % 4294967296 < a1 % 4294967296)) = 0 := by rw [show decide (a0 % 4294967296 < a1 % 4294967296) = false from by simp <;> omega]; decide
  rw [e] at c
  have CU := hid c
  clear c e
  have c := fun w => under_any a1 a0 w b1 b0
  have e : ifI (decide (a1 % 4294967296 < a0 % 4294967296)) = 1 := by rw [show decide (a1 % 4294967296 < a0 % 4294967296) = true from by simp <;> omega]; decide
  rw [e] at c
  have CV := hid c
  clear c e
  have c := fun w => sign_any a0 w b0
  have e : - ifI (decide (a0 < 0)) = -1 := by rw [show decide (a0 < 0) = true from by simp <;> omega]; decide
  rw [e] at c
  have CX := hid c
  clear c e
  have c := fun w => sign_any a1 w b1
  have e : - ifI (decide (a1 < 0)) = 0 := by rw [show decide (a1 < 0) = false from by simp <;> omega]; decide
  rw [e] at c
  have CY := hid c
  clear c e
  have c := fun w => min_any a0 a1 w b0 b1
  have e : min a0 a1 = a0 := by omega
  rw [e] at c
  have CN := hid c
  clear c e
  have c := fun w => max_any a0 a1 w b0 b1
  have e : max a0 a1 = a1 := by omega
  rw [e] at c
  have CM := hid c
  clear c e
  have t0 : (a0 == a0) = true := by simp
  have t1 : (a1 == a1) = true := by simp
  have t2 : (a0 + a1 == a0 + a1) = true := by simp <;> omega
  go_enter Try.func6, Try.ntmps6
  go_wp2_with fail
  refine (CL.out _).mono ?_
  rintro e w2 ⟨rfl, rfl⟩
  go_wp2_with fail
  refine (CK.out _).mono ?_
  rintro e w2 ⟨rfl, rfl⟩
  go_wp2_with fail
  refine (CS.out _).mono ?_
  rintro e w2 ⟨rfl, rfl⟩
  go_wp2_with fail
  refine (CU.out _).mono ?_
  rintro e w2 ⟨rfl, rfl⟩
  go_wp2_with fail
  refine (CV.out _).mono ?_
  rintro e w2 ⟨rfl, rfl⟩
  go_wp2_with fail
  refine (CS.out _).mono ?_
  rintro e w2 ⟨rfl, rfl⟩
  go_wp2_with fail
  refine (CX.out _).mono ?_
  rintro e w2 ⟨rfl, rfl⟩
  go_wp2_with fail
  refine (CY.out _).mono ?_
  rintro e w2 ⟨rfl, rfl⟩
  go_wp2_with fail
  refine (CL.out _).mono ?_
  rintro e w2 ⟨rfl, rfl⟩
  go_wp2_with fail
  refine (CU.out _).mono ?_
  rintro e w2 ⟨rfl, rfl⟩
  go_wp2_with fail
  refine (CN.out _).mono ?_
  rintro e w2 ⟨rfl, rfl⟩
  go_wp2_with fail
  refine (CM.out _).mono ?_
  rintro e w2 ⟨rfl, rfl⟩
  go_wp2_with fail
  refine (awake03 _).mono ?_
  rintro e w2 ⟨rfl, rfl⟩
  go_wp2
  go_ret
  exact ⟨rfl, hB⟩
set_option maxHeartbeats 1000000 in
theorem PickOrders_5 (a0 : Int) (a1 : Int) (w0 : (Lit.int .i32 a0).wf = true) (w1 : (Lit.int .i32 a1).wf = true) (w : World) (h : a1 < a0) (g : 0 ≤ a0) (k : 0 ≤ a1) :
    Calls Try.prog 6 #[.int .i32 a0, .int .i32 a1] w fun e w' => e = .returned (.bool true) ∧ Below w.heap.size w w' := by
  have b0 := bd_i32 w0
  have b1 := bd_i32 w1
  clear w0 w1
  have hB := Below.refl w.heap.size w
  have c := fun w => less_any a0 a1 w b0 b1
  have e : ifI (decide (a0 < a1)) = 0 := by rw [show decide (a0 < a1) = false from by simp <;> omega]; decide
  rw [e] at c
  have CL := hid c
  clear c e
  have c := fun w => less_any a1 a0 w b1 b0
  have e : ifI (decide (a1 < a0)) = 1 := by rw [show decide (a1 < a0) = true from by simp <;> omega]; decide
  rw [e] at c
  have CK := hid c
  clear c e
  have c := fun w => same_any a0 a1 w b0 b1
  have e : ifI (a0 == a1) = 0 := by rw [show (a0 == a1) = false from by simp <;> omega]; decide
  rw [e] at c
  have CS := hid c
  clear c e
  have c := fun w => under_any a0 a1 w b0 b1
  have e : ifI (decide (a0 % 4294967296 < a1 % 4294967296)) = 0 := by rw [show decide (a0 % 4294967296 < a1 % 4294967296) = false from by simp <;> omega]; decide
  rw [e] at c
  have CU := hid c
  clear c e
  have c := fun w => under_any a1 a0 w b1 b0
  have e : ifI (decide (a1 % 4294967296 < a0 % 4294967296)) = 1 := by rw [show decide (a1 % 4294967296 < a0 % 4294967296) = true from by simp <;> omega]; decide
  rw [e] at c
  have CV := hid c
  clear c e
  have c := fun w => sign_any a0 w b0
  have e : - ifI (decide (a0 < 0)) = 0 := by rw [show decide (a0 < 0) = false from by simp <;> omega]; decide
  rw [e] at c
  have CX := hid c
  clear c e
  have c := fun w => sign_any a1 w b1
  have e : - ifI (decide (a1 < 0)) = 0 := by rw [show decide (a1 < 0) = false from by simp <;> omega]; decide
  rw [e] at c
  have CY := hid c
  clear c e
  have c := fun w => min_any a0 a1 w b0 b1
  have e : min a0 a1 = a1 := by omega
  rw [e] at c
  have CN := hid c
  clear c e
  have c := fun w => max_any a0 a1 w b0 b1
  have e : max a0 a1 = a0 := by omega
  rw [e] at c
  have CM := hid c
  clear c e
  have t0 : (a0 == a0) = true := by simp
  have t1 : (a1 == a1) = true := by simp
  have t2 : (a1 + a0 == a0 + a1) = true := by simp <;> omega
  have t3 : (a1 == a0) = false := by simp <;> omega
  go_enter Try.func6, Try.ntmps6
  go_wp2_with fail
  refine (CL.out _).mono ?_
  rintro e w2 ⟨rfl, rfl⟩
  go_wp2_with fail
  refine (CK.out _).mono ?_
  rintro e w2 ⟨rfl, rfl⟩
  go_wp2_with fail
  refine (CS.out _).mono ?_
  rintro e w2 ⟨rfl, rfl⟩
  go_wp2_with fail
  refine (CU.out _).mono ?_
  rintro e w2 ⟨rfl, rfl⟩
  go_wp2_with fail
  refine (CV.out _).mono ?_
  rintro e w2 ⟨rfl, rfl⟩
  go_wp2_with fail
  refine (CS.out _).mono ?_
  rintro e w2 ⟨rfl, rfl⟩
  go_wp2_with fail
  refine (CX.out _).mono ?_
  rintro e w2 ⟨rfl, rfl⟩
  go_wp2_with fail
  refine (CY.out _).mono ?_
  rintro e w2 ⟨rfl, rfl⟩
  go_wp2_with fail
  refine (CL.out _).mono ?_
  rintro e w2 ⟨rfl, rfl⟩
  go_wp2_with fail
  refine (CU.out _).mono ?_
  rintro e w2 ⟨rfl, rfl⟩
  go_wp2_with fail
  refine (CN.out _).mono ?_
  rintro e w2 ⟨rfl, rfl⟩
  go_wp2_with fail
  refine (CM.out _).mono ?_
  rintro e w2 ⟨rfl, rfl⟩
  go_wp2_with fail
  refine (awake03 _).mono ?_
  rintro e w2 ⟨rfl, rfl⟩
  go_wp2
  go_ret
  exact ⟨rfl, hB⟩
set_option maxHeartbeats 1000000 in
theorem PickOrders_6 (a0 : Int) (a1 : Int) (w0 : (Lit.int .i32 a0).wf = true) (w1 : (Lit.int .i32 a1).wf = true) (w : World) (h : a1 < a0) (g : a0 < 0) (k : a1 < 0) :
    Calls Try.prog 6 #[.int .i32 a0, .int .i32 a1] w fun e w' => e = .returned (.bool true) ∧ Below w.heap.size w w' := by
  have b0 := bd_i32 w0
  have b1 := bd_i32 w1
  clear w0 w1
  have hB := Below.refl w.heap.size w
  have c := fun w => less_any a0 a1 w b0 b1
  have e : ifI (decide (a0 < a1)) = 0 := by rw [show decide (a0 < a1) = false from by simp <;> omega]; decide
  rw [e] at c
  have CL := hid c
  clear c e
  have c := fun w => less_any a1 a0 w b1 b0
  have e : ifI (decide (a1 < a0)) = 1 := by rw [show decide (a1 < a0) = true from by simp <;> omega]; decide
  rw [e] at c
  have CK := hid c
  clear c e
  have c := fun w => same_any a0 a1 w b0 b1
  have e : ifI (a0 == a1) = 0 := by rw [show (a0 == a1) = false from by simp <;> omega]; decide
  rw [e] at c
  have CS := hid c
  clear c e
  have c := fun w => under_any a0 a1 w b0 b1
  have e : ifI (decide (a0 % 4294967296 < a1 % 4294967296)) = 0 := by rw [show decide (a0 % 4294967296 < a1 % 4294967296) = false from by simp <;> omega]; decide
  rw [e] at c
  have CU := hid c
  clear c e
  have c := fun w => under_any a1 a0 w b1 b0
  have e : ifI (decide (a1 % 4294967296 < a0 % 4294967296)) = 1 := by rw [show decide (a1 % 4294967296 < a0 % 4294967296) = true from by simp <;> omega]; decide
  rw [e] at c
  have CV := hid c
  clear c e
  have c := fun w => sign_any a0 w b0
  have e : - ifI (decide (a0 < 0)) = -1 := by rw [show decide (a0 < 0) = true from by simp <;> omega]; decide
  rw [e] at c
  have CX := hid c
  clear c e
  have c := fun w => sign_any a1 w b1
  have e : - ifI (decide (a1 < 0)) = -1 := by rw [show decide (a1 < 0) = true from by simp <;> omega]; decide
  rw [e] at c
  have CY := hid c
  clear c e
  have c := fun w => min_any a0 a1 w b0 b1
  have e : min a0 a1 = a1 := by omega
  rw [e] at c
  have CN := hid c
  clear c e
  have c := fun w => max_any a0 a1 w b0 b1
  have e : max a0 a1 = a0 := by omega
  rw [e] at c
  have CM := hid c
  clear c e
  have t0 : (a0 == a0) = true := by simp
  have t1 : (a1 == a1) = true := by simp
  have t2 : (a1 + a0 == a0 + a1) = true := by simp <;> omega
  have t3 : (a1 == a0) = false := by simp <;> omega
  go_enter Try.func6, Try.ntmps6
  go_wp2_with fail
  refine (CL.out _).mono ?_
  rintro e w2 ⟨rfl, rfl⟩
  go_wp2_with fail
  refine (CK.out _).mono ?_
  rintro e w2 ⟨rfl, rfl⟩
  go_wp2_with fail
  refine (CS.out _).mono ?_
  rintro e w2 ⟨rfl, rfl⟩
  go_wp2_with fail
  refine (CU.out _).mono ?_
  rintro e w2 ⟨rfl, rfl⟩
  go_wp2_with fail
  refine (CV.out _).mono ?_
  rintro e w2 ⟨rfl, rfl⟩
  go_wp2_with fail
  refine (CS.out _).mono ?_
  rintro e w2 ⟨rfl, rfl⟩
  go_wp2_with fail
  refine (CX.out _).mono ?_
  rintro e w2 ⟨rfl, rfl⟩
  go_wp2_with fail
  refine (CY.out _).mono ?_
  rintro e w2 ⟨rfl, rfl⟩
  go_wp2_with fail
  refine (CL.out _).mono ?_
  rintro e w2 ⟨rfl, rfl⟩
  go_wp2_with fail
  refine (CU.out _).mono ?_
  rintro e w2 ⟨rfl, rfl⟩
  go_wp2_with fail
  refine (CN.out _).mono ?_
  rintro e w2 ⟨rfl, rfl⟩
  go_wp2_with fail
  refine (CM.out _).mono ?_
  rintro e w2 ⟨rfl, rfl⟩
  go_wp2_with fail
  refine (awake03 _).mono ?_
  rintro e w2 ⟨rfl, rfl⟩
  go_wp2
  go_ret
  exact ⟨rfl, hB⟩
set_option maxHeartbeats 1000000 in
theorem PickOrders_7 (a0 : Int) (a1 : Int) (w0 : (Lit.int .i32 a0).wf = true) (w1 : (Lit.int .i32 a1).wf = true) (w : World) (h : a1 < a0) (g : 0 ≤ a0) (k : a1 < 0) :
    Calls Try.prog 6 #[.int .i32 a0, .int .i32 a1] w fun e w' => e = .returned (.bool true) ∧ Below w.heap.size w w' := by
  have b0 := bd_i32 w0
  have b1 := bd_i32 w1
  clear w0 w1
  have hB := Below.refl w.heap.size w
  have c := fun w => less_any a0 a1 w b0 b1
  have e : ifI (decide (a0 < a1)) = 0 := by rw [show decide (a0 < a1) = false from by simp <;> omega]; decide
  rw [e] at c
  have CL := hid c
  clear c e
  have c := fun w => less_any a1 a0 w b1 b0
  have e : ifI (decide (a1 < a0)) = 1 := by rw [show decide (a1 < a0) = true from by simp <;> omega]; decide
  rw [e] at c
  have CK := hid c
  clear c e
  have c := fun w => same_any a0 a1 w b0 b1
  have e : ifI (a0 == a1) = 0 := by rw [show (a0 == a1) = false from by simp <;> omega]; decide
  rw [e] at c
  have CS := hid c
  clear c e
  have c := fun w => under_any a0 a1 w b0 b1
  have e : ifI (decide (a0 % 4294967296 < a1 % 4294967296)) = 1 := by rw [show decide (a0 % 4294967296 < a1 % 4294967296) = true from by simp <;> omega]; decide
  rw [e] at c
  have CU := hid c
  clear c e
  have c := fun w => under_any a1 a0 w b1 b0
  have e : ifI (decide (a1 % 4294967296 < a0 % 4294967296)) = 0 := by rw [show decide (a1 % 4294967296 < a0 % 4294967296) = false from by simp <;> omega]; decide
  rw [e] at c
  have CV := hid c
  clear c e
  have c := fun w => sign_any a0 w b0
  have e : - ifI (decide (a0 < 0)) = 0 := by rw [show decide (a0 < 0) = false from by simp <;> omega]; decide
  rw [e] at c
  have CX := hid c
  clear c e
  have c := fun w => sign_any a1 w b1
  have e : - ifI (decide (a1 < 0)) = -1 := by rw [show decide (a1 < 0) = true from by simp <;> omega]; decide
  rw [e] at c
  have CY := hid c
  clear c e
  have c := fun w => min_any a0 a1 w b0 b1
  have e : min a0 a1 = a1 := by omega
  rw [e] at c
  have CN := hid c
  clear c e
  have c := fun w => max_any a0 a1 w b0 b1
  have e : max a0 a1 = a0 := by omega
  rw [e] at c
  have CM := hid c
  clear c e
  have t0 : (a0 == a0) = true := by simp
  have t1 : (a1 == a1) = true := by simp
  have t2 : (a1 + a0 == a0 + a1) = true := by simp <;> omega
  have t3 : (a1 == a0) = false := by simp <;> omega
  go_enter Try.func6, Try.ntmps6
  go_wp2_with fail
  refine (CL.out _).mono ?_
  rintro e w2 ⟨rfl, rfl⟩
  go_wp2_with fail
  refine (CK.out _).mono ?_
  rintro e w2 ⟨rfl, rfl⟩
  go_wp2_with fail
  refine (CS.out _).mono ?_
  rintro e w2 ⟨rfl, rfl⟩
  go_wp2_with fail
  refine (CU.out _).mono ?_
  rintro e w2 ⟨rfl, rfl⟩
  go_wp2_with fail
  refine (CV.out _).mono ?_
  rintro e w2 ⟨rfl, rfl⟩
  go_wp2_with fail
  refine (CS.out _).mono ?_
  rintro e w2 ⟨rfl, rfl⟩
  go_wp2_with fail
  refine (CX.out _).mono ?_
  rintro e w2 ⟨rfl, rfl⟩
  go_wp2_with fail
  refine (CY.out _).mono ?_
  rintro e w2 ⟨rfl, rfl⟩
  go_wp2_with fail
  refine (CL.out _).mono ?_
  rintro e w2 ⟨rfl, rfl⟩
  go_wp2_with fail
  refine (CU.out _).mono ?_
  rintro e w2 ⟨rfl, rfl⟩
  go_wp2_with fail
  refine (CN.out _).mono ?_
  rintro e w2 ⟨rfl, rfl⟩
  go_wp2_with fail
  refine (CM.out _).mono ?_
  rintro e w2 ⟨rfl, rfl⟩
  go_wp2_with fail
  refine (awake03 _).mono ?_
  rintro e w2 ⟨rfl, rfl⟩
  go_wp2
  go_ret
  exact ⟨rfl, hB⟩
theorem PickOrders_walk (a0 : Int) (a1 : Int) (w0 : (Lit.int .i32 a0).wf = true) (w1 : (Lit.int .i32 a1).wf = true) (w : World) :
    Calls Try.prog 6 #[.int .i32 a0, .int .i32 a1] w fun e w' => e = .returned (.bool true) ∧ Below w.heap.size w w' := by
  have b0 := bd_i32 w0
  have b1 := bd_i32 w1

  have d : (a0 = a1 ∧ 0 ≤ a0 ∧ 0 ≤ a1) ∨ (a0 = a1 ∧ a0 < 0 ∧ a1 < 0) ∨ (a0 < a1 ∧ 0 ≤ a0 ∧ 0 ≤ a1) ∨ (a0 < a1 ∧ a0 < 0 ∧ a1 < 0) ∨ (a0 < a1 ∧ a0 < 0 ∧ 0 ≤ a1) ∨ (a1 < a0 ∧ 0 ≤ a0 ∧ 0 ≤ a1) ∨ (a1 < a0 ∧ a0 < 0 ∧ a1 < 0) ∨ (a1 < a0 ∧ 0 ≤ a0 ∧ a1 < 0) := by omega
  rcases d with ⟨h, g, k⟩ | ⟨h, g, k⟩ | ⟨h, g, k⟩ | ⟨h, g, k⟩ | ⟨h, g, k⟩ | ⟨h, g, k⟩ | ⟨h, g, k⟩ | ⟨h, g, k⟩
  · exact PickOrders_0 a0 a1 w0 w1 w h g k
  · exact PickOrders_1 a0 a1 w0 w1 w h g k
  · exact PickOrders_2 a0 a1 w0 w1 w h g k
  · exact PickOrders_3 a0 a1 w0 w1 w h g k
  · exact PickOrders_4 a0 a1 w0 w1 w h g k
  · exact PickOrders_5 a0 a1 w0 w1 w h g k
  · exact PickOrders_6 a0 a1 w0 w1 w h g k
  · exact PickOrders_7 a0 a1 w0 w1 w h g k
end Go.Proofs.Ytkfffpdhnmjjmab
