/- What the functions of package pick return: contracts. -/
import Derived.Test.YtkfffpdhnmjjmabWord
import Derived.Laws.EntriesVeiled
namespace Go.Proofs.Ytkfffpdhnmjjmab
open Go.RowKit
set_option linter.unusedVariables false
theorem i32_core (v : BitVec 32) : IntKind.i32.wrap (v.toNat : Int) = v.toInt := by
  rw [i32wrap, BitVec.toInt_eq_toNat_cond]
  have := v.isLt
  split <;> omega
theorem bits_i32 (op : BinOp) (x y : Int) : bits op .i32 x y = (match op with
    | .and => BitVec.ofInt 32 x &&& BitVec.ofInt 32 y
    | .or => BitVec.ofInt 32 x ||| BitVec.ofInt 32 y
    | .xor => BitVec.ofInt 32 x ^^^ BitVec.ofInt 32 y
    | _ => BitVec.ofInt 32 x &&& ~~~ BitVec.ofInt 32 y).toInt := by
  unfold bits
  exact i32_core _
theorem ofInt_toInt32 (v : BitVec 32) : BitVec.ofInt 32 v.toInt = v := BitVec.ofInt_toInt
theorem toInt_bd (v : BitVec 32) : -2147483648 ≤ v.toInt ∧ v.toInt ≤ 2147483647 := by
  rw [BitVec.toInt_eq_toNat_cond]; have := v.isLt; split <;> omega
theorem toInt_ofInt32 (x : Int) (h : -2147483648 ≤ x ∧ x ≤ 2147483647) : (BitVec.ofInt 32 x).toInt = x := by
  have h1 := ofInt_nat 32 x
  rw [BitVec.toInt_eq_toNat_cond]
  split <;> omega
def selI (m a b : Int) : Int := ((BitVec.ofInt 32 a &&& BitVec.ofInt 32 m) ||| (BitVec.ofInt 32 b &&& ~~~ BitVec.ofInt 32 m)).toInt
def flipI (x m : Int) : Int := lowI ((BitVec.ofInt 32 x ^^^ BitVec.ofInt 32 m).toInt - m)
def ifI (p : Bool) : Int := if p then 1 else 0
theorem sign_any (x : Int) (w : World) (hx : -2147483648 ≤ x ∧ x ≤ 2147483647) :
    Calls Try.prog 33 #[.int .i32 x] w fun e w' => e = .returned (.int .i32 (- ifI (decide (x < 0)))) ∧ w = w' := by
  go_enter Try.func33, Try.ntmps33
  go_wp2
  go_ret
  exact ⟨ret_int (by unfold ifI; simp; split <;> omega), rfl⟩
theorem flip_any (x m : Int) (w : World) :
    Calls Try.prog 36 #[.int .i32 x, .int .i32 m] w fun e w' => e = .returned (.int .i32 (flipI x m)) ∧ w = w' := by
  go_enter Try.func36, Try.ntmps36
  go_wp2
  go_ret
  refine ⟨ret_int ?_, rfl⟩
  show wrap32 (bits .xor .i32 x m - m) = _
  rw [bits_i32, lowI_wrap]; rfl
theorem sel_any (m a b : Int) (w : World) :
    Calls Try.prog 13 #[.int .i32 m, .int .i32 a, .int .i32 b] w fun e w' => e = .returned (.int .i32 (selI m a b)) ∧ w = w' := by
  go_enter Try.func13, Try.ntmps13
  go_wp2
  go_ret
  refine ⟨ret_int ?_, rfl⟩
  show bits .or .i32 (bits .and .i32 a m) (bits .andNot .i32 b m) = _
  rw [bits_i32, bits_i32, bits_i32]
  simp only [ofInt_toInt32]; rfl
theorem mask_any (x : Int) (w : World) (hx : -2147483648 ≤ x ∧ x ≤ 2147483647) :
    Calls Try.prog 12 #[.int .i32 x] w fun e w' => e = .returned (.int .i32 (- ifI (x != 0))) ∧ w = w' := by
  by_cases h : (x != 0) = true
  · have H := hid h
    simp only [bne_iff_ne] at h
    have e : (x != 0) = true := by simpa using H.out
    rw [e]
    simp only [ifI]
    clear e H
    go_enter Try.func12, Try.ntmps12
    go_wp2_with go_in
    go_ret
    exact ⟨ret_int (by decide), rfl⟩
  · have H := hid h
    simp only [bne_iff_ne] at h
    have e : (x != 0) = false := by simpa using H.out
    rw [e]
    simp only [ifI]
    clear e H
    go_enter Try.func12, Try.ntmps12
    go_wp2_with go_in
    go_ret
    exact ⟨ret_int (by decide), rfl⟩
theorem less_any (a b : Int) (w : World) (ha : -2147483648 ≤ a ∧ a ≤ 2147483647) (hb : -2147483648 ≤ b ∧ b ≤ 2147483647) :
    Calls Try.prog 14 #[.int .i32 a, .int .i32 b] w fun e w' => e = .returned (.int .i32 (ifI (decide (a < b)))) ∧ w = w' := by
  by_cases h : (decide (a < b)) = true
  · have H := hid h
    simp only [decide_eq_true_eq] at h
    have e : (decide (a < b)) = true := by simpa using H.out
    rw [e]
    simp only [ifI]
    clear e H
    go_enter Try.func14, Try.ntmps14
    go_wp2_with go_in
    go_ret
    exact ⟨ret_int (by decide), rfl⟩
  · have H := hid h
    simp only [decide_eq_true_eq] at h
    have e : (decide (a < b)) = false := by simpa using H.out
    rw [e]
    simp only [ifI]
    clear e H
    go_enter Try.func14, Try.ntmps14
    go_wp2_with go_in
    go_ret
    exact ⟨ret_int (by decide), rfl⟩
theorem under_any (a b : Int) (w : World) (ha : -2147483648 ≤ a ∧ a ≤ 2147483647) (hb : -2147483648 ≤ b ∧ b ≤ 2147483647) :
    Calls Try.prog 39 #[.int .i32 a, .int .i32 b] w fun e w' => e = .returned (.int .i32 (ifI (decide (a % 4294967296 < b % 4294967296)))) ∧ w = w' := by
  by_cases h : (decide (a % 4294967296 < b % 4294967296)) = true
  · have H := hid h
    simp only [decide_eq_true_eq] at h
    have e : (decide (a % 4294967296 < b % 4294967296)) = true := by simpa using H.out
    rw [e]
    simp only [ifI]
    clear e H
    go_enter Try.func39, Try.ntmps39
    go_wp2_with go_in
    go_ret
    exact ⟨ret_int (by decide), rfl⟩
  · have H := hid h
    simp only [decide_eq_true_eq] at h
    have e : (decide (a % 4294967296 < b % 4294967296)) = false := by simpa using H.out
    rw [e]
    simp only [ifI]
    clear e H
    go_enter Try.func39, Try.ntmps39
    go_wp2_with go_in
    go_ret
    exact ⟨ret_int (by decide), rfl⟩
theorem same_any (a b : Int) (w : World) (ha : -2147483648 ≤ a ∧ a ≤ 2147483647) (hb : -2147483648 ≤ b ∧ b ≤ 2147483647) :
    Calls Try.prog 41 #[.int .i32 a, .int .i32 b] w fun e w' => e = .returned (.int .i32 (ifI (a == b))) ∧ w = w' := by
  by_cases h : (a == b) = true
  · have H := hid h
    simp only [beq_iff_eq] at h
    have e : (a == b) = true := by simpa using H.out
    rw [e]
    simp only [ifI]
    clear e H
    go_enter Try.func41, Try.ntmps41
    go_wp2_with go_in
    go_ret
    exact ⟨ret_int (by decide), rfl⟩
  · have H := hid h
    simp only [beq_iff_eq] at h
    have e : (a == b) = false := by simpa using H.out
    rw [e]
    simp only [ifI]
    clear e H
    go_enter Try.func41, Try.ntmps41
    go_wp2_with go_in
    go_ret
    exact ⟨ret_int (by decide), rfl⟩
theorem min_any (a b : Int) (w : World) (ha : -2147483648 ≤ a ∧ a ≤ 2147483647) (hb : -2147483648 ≤ b ∧ b ≤ 2147483647) :
    Calls Try.prog 15 #[.int .i32 a, .int .i32 b] w fun e w' => e = .returned (.int .i32 (min a b)) ∧ w = w' := by
  go_enter Try.func15, Try.ntmps15
  go_wp2_with go_in
  all_goals
    go_ret
    exact ⟨ret_int (by omega), rfl⟩
theorem max_any (a b : Int) (w : World) (ha : -2147483648 ≤ a ∧ a ≤ 2147483647) (hb : -2147483648 ≤ b ∧ b ≤ 2147483647) :
    Calls Try.prog 44 #[.int .i32 a, .int .i32 b] w fun e w' => e = .returned (.int .i32 (max a b)) ∧ w = w' := by
  go_enter Try.func44, Try.ntmps44
  go_wp2_with go_in
  all_goals
    go_ret
    exact ⟨ret_int (by omega), rfl⟩
theorem awake03 (w : World) : Calls Try.prog 16 #[] w fun e w' => e = .returned (.bool true) ∧ w = w' := by
  go_enter Try.func16, Try.ntmps16
  go_wp2_with fail
  refine (sel_any _ _ _ _).mono ?_
  rintro e w2 ⟨rfl, rfl⟩
  rw [show selI 15 (-1) 0 = 15 from by decide]
  go_wp2_with fail
  refine (under_any _ _ _ (by omega) (by omega)).mono ?_
  rintro e w2 ⟨rfl, rfl⟩
  rw [show ifI (decide ((-1 : Int) % 4294967296 < 1 % 4294967296)) = 0 from by decide]
  go_wp2_with fail
  refine (flip_any _ _ _).mono ?_
  rintro e w2 ⟨rfl, rfl⟩
  rw [show flipI 5 (-1) = -5 from by decide]
  go_wp2_with fail
  refine (flip_any _ _ _).mono ?_
  rintro e w2 ⟨rfl, rfl⟩
  rw [show flipI (-2147483648) (-1) = -2147483648 from by decide]
  go_wp2_with fail
  refine (mask_any _ _ (by omega)).mono ?_
  rintro e w2 ⟨rfl, rfl⟩
  rw [show - ifI ((2 : Int) != 0) = -1 from by decide]
  go_wp2_with fail
  refine (max_any _ _ _ (by omega) (by omega)).mono ?_
  rintro e w2 ⟨rfl, rfl⟩
  rw [show max (-1 : Int) 1 = 1 from by decide]
  go_wp2
  go_ret
  exact ⟨rfl, rfl⟩
end Go.Proofs.Ytkfffpdhnmjjmab
