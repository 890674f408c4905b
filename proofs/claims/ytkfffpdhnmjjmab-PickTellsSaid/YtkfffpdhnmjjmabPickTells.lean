/- The walk of the statement of layer 3 (pick) that speaks of the reference. -/
import Derived.Test.YtkfffpdhnmjjmabRef03
import Derived.Test.YtkfffpdhnmjjmabPick
namespace Go.Proofs.Ytkfffpdhnmjjmab
open Go.RowKit
set_option linter.unusedVariables false
theorem rif_any (p : Bool) (w : World) :
    Calls Try.prog 70 #[.bool p] w fun e w' => e = .returned (.int .i32 (ifI p)) ∧ w = w' := rone_any p w
theorem ifI_bd (p : Bool) : 0 ≤ ifI p ∧ ifI p ≤ 1 := by cases p <;> simp [ifI]
theorem rmask_any (x : Int) (w : World) (hx : -2147483648 ≤ x ∧ x ≤ 2147483647) :
    Calls Try.prog 32 #[.int .i32 x] w fun e w' => e = .returned (.int .i32 (- ifI (x != 0))) ∧ w = w' := by
  have hb := ifI_bd (x != 0)
  have H := hid (fun w => rif_any (x != 0) w)
  go_enter Try.func32, Try.ntmps32
  go_wp2_with fail
  refine (H.out _).mono ?_
  rintro e w2 ⟨rfl, rfl⟩
  generalize hz : ifI (x != 0) = z at *
  have HZ := hid hz
  clear hz
  go_wp2
  go_ret
  exact ⟨ret_int (by rw [HZ.out]), rfl⟩
theorem rsign_any (x : Int) (w : World) (hx : -2147483648 ≤ x ∧ x ≤ 2147483647) :
    Calls Try.prog 34 #[.int .i32 x] w fun e w' => e = .returned (.int .i32 (- ifI (decide (x < 0)))) ∧ w = w' := by
  have hb := ifI_bd (decide (x < 0))
  have H := hid (fun w => rif_any (decide (x < 0)) w)
  go_enter Try.func34, Try.ntmps34
  go_wp2_with fail
  refine (H.out _).mono ?_
  rintro e w2 ⟨rfl, rfl⟩
  generalize hz : ifI (decide (x < 0)) = z at *
  have HZ := hid hz
  clear hz
  go_wp2
  go_ret
  exact ⟨ret_int (by rw [HZ.out]), rfl⟩
theorem rless_any (a b : Int) (w : World) (ha : -2147483648 ≤ a ∧ a ≤ 2147483647) (hb : -2147483648 ≤ b ∧ b ≤ 2147483647) :
    Calls Try.prog 38 #[.int .i32 a, .int .i32 b] w fun e w' => e = .returned (.int .i32 (ifI (decide (a < b)))) ∧ w = w' := by
  have H := hid (fun w => rif_any (decide (a < b)) w)
  go_enter Try.func38, Try.ntmps38
  go_wp2_with fail
  refine (H.out _).mono ?_
  rintro e w2 ⟨rfl, rfl⟩
  generalize hz : ifI (decide (a < b)) = z at *
  have HZ := hid hz
  clear hz
  go_wp2
  go_ret
  exact ⟨ret_int (by rw [HZ.out]), rfl⟩
theorem rsame_any (a b : Int) (w : World) (ha : -2147483648 ≤ a ∧ a ≤ 2147483647) (hb : -2147483648 ≤ b ∧ b ≤ 2147483647) :
    Calls Try.prog 42 #[.int .i32 a, .int .i32 b] w fun e w' => e = .returned (.int .i32 (ifI (a == b))) ∧ w = w' := by
  have H := hid (fun w => rif_any (a == b) w)
  go_enter Try.func42, Try.ntmps42
  go_wp2_with fail
  refine (H.out _).mono ?_
  rintro e w2 ⟨rfl, rfl⟩
  generalize hz : ifI (a == b) = z at *
  have HZ := hid hz
  clear hz
  go_wp2
  go_ret
  exact ⟨ret_int (by rw [HZ.out]), rfl⟩
theorem runder_any (a b : Int) (w : World) (ha : -2147483648 ≤ a ∧ a ≤ 2147483647) (hb : -2147483648 ≤ b ∧ b ≤ 2147483647) :
    Calls Try.prog 40 #[.int .i32 a, .int .i32 b] w fun e w' => e = .returned (.int .i32 (ifI (decide (a % 4294967296 < b % 4294967296)))) ∧ w = w' := by
  have PA := hid (fun w => rplain_any a w ha)
  have PB := hid (fun w => rplain_any b w hb)
  have H := hid (fun w => rif_any (decide (a % 4294967296 < b % 4294967296)) w)
  generalize a % 4294967296 = x at *
  generalize b % 4294967296 = y at *
  go_enter Try.func40, Try.ntmps40
  go_wp2_with fail
  refine (PA.out _).mono ?_
  rintro e w2 ⟨rfl, rfl⟩
  go_wp2_with fail
  refine (PB.out _).mono ?_
  rintro e w2 ⟨rfl, rfl⟩
  go_wp2_with fail
  refine (H.out _).mono ?_
  rintro e w2 ⟨rfl, rfl⟩
  generalize hz : ifI (decide (x < y)) = z at *
  have HZ := hid hz
  clear hz
  go_wp2
  go_ret
  exact ⟨ret_int (by rw [HZ.out]), rfl⟩
theorem rmin_any (a b : Int) (w : World) (ha : -2147483648 ≤ a ∧ a ≤ 2147483647) (hb : -2147483648 ≤ b ∧ b ≤ 2147483647) :
    Calls Try.prog 43 #[.int .i32 a, .int .i32 b] w fun e w' => e = .returned (.int .i32 (min a b)) ∧ w = w' := by
  go_enter Try.func43, Try.ntmps43
  go_wp2
  all_goals
    go_ret
    exact ⟨ret_int (by omega), rfl⟩
theorem rmax_any (a b : Int) (w : World) (ha : -2147483648 ≤ a ∧ a ≤ 2147483647) (hb : -2147483648 ≤ b ∧ b ≤ 2147483647) :
    Calls Try.prog 45 #[.int .i32 a, .int .i32 b] w fun e w' => e = .returned (.int .i32 (max a b)) ∧ w = w' := by
  go_enter Try.func45, Try.ntmps45
  go_wp2
  all_goals
    go_ret
    exact ⟨ret_int (by omega), rfl⟩
set_option maxRecDepth 20000 in
set_option maxHeartbeats 1000000 in
theorem PickTells_walk (a0 : Int) (a1 : Int) (a2 : Int) (w0 : (Lit.int .i32 a0).wf = true) (w1 : (Lit.int .i32 a1).wf = true) (w2 : (Lit.int .i32 a2).wf = true) (w : World) :
    Calls Try.prog 5 #[.int .i32 a0, .int .i32 a1, .int .i32 a2] w fun e w' => e = .returned (.bool true) ∧ Below w.heap.size w w' := by
  have b0 := bd_i32 w0
  have b1 := bd_i32 w1
  have b2 := bd_i32 w2
  clear w0 w1 w2
  have hB := Below.refl w.heap.size w
  obtain ⟨m, rfl⟩ : ∃ v, a0 = S v := ⟨V a0, (S_V _ b0).symm⟩
  obtain ⟨a, rfl⟩ : ∃ v, a1 = S v := ⟨V a1, (S_V _ b1).symm⟩
  obtain ⟨b, rfl⟩ : ∃ v, a2 = S v := ⟨V a2, (S_V _ b2).symm⟩
  have es : selI (S m) (S a) (S b) = S (selV m a b) := by
    show S ((V (S a) &&& V (S m)) ||| (V (S b) &&& ~~~ V (S m))) = _
    rw [V_S, V_S, V_S]; rfl
  have ef : flipI (S a) (S m) = lowI (S (a ^^^ m) - S m) := by
    show lowI (S (V (S a) ^^^ V (S m)) - S m) = _
    rw [V_S, V_S]
  have C1 := hid (fun w => mask_any (S a) w b1)
  have R1 := hid (fun w => rmask_any (S a) w b1)
  have C2 := hid (fun w => sign_any (S a) w b1)
  have R2 := hid (fun w => rsign_any (S a) w b1)
  have C3 := hid (fun w => sel_any (S m) (S a) (S b) w)
  have R3 := hid (fun w => rsel_bv m a b w)
  have C4 := hid (fun w => flip_any (S a) (S m) w)
  have R4 := hid (fun w => rflip_bv a m w)
  have C5 := hid (fun w => less_any (S a) (S b) w b1 b2)
  have R5 := hid (fun w => rless_any (S a) (S b) w b1 b2)
  have C6 := hid (fun w => under_any (S a) (S b) w b1 b2)
  have R6 := hid (fun w => runder_any (S a) (S b) w b1 b2)
  have C7 := hid (fun w => same_any (S a) (S b) w b1 b2)
  have R7 := hid (fun w => rsame_any (S a) (S b) w b1 b2)
  have C8 := hid (fun w => min_any (S a) (S b) w b1 b2)
  have R8 := hid (fun w => rmin_any (S a) (S b) w b1 b2)
  have C9 := hid (fun w => max_any (S a) (S b) w b1 b2)
  have R9 := hid (fun w => rmax_any (S a) (S b) w b1 b2)
  rw [es] at C3
  rw [ef] at C4
  clear es ef
  generalize S (selV m a b) = z3 at *
  generalize lowI (S (a ^^^ m) - S m) = z4 at *
  generalize -ifI (S a != 0) = z1 at *
  generalize -ifI (decide (S a < 0)) = z2 at *
  generalize ifI (decide (S a < S b)) = z5 at *
  generalize ifI (decide (S a % 4294967296 < S b % 4294967296)) = z6 at *
  generalize ifI (S a == S b) = z7 at *
  generalize min (S a) (S b) = z8 at *
  generalize max (S a) (S b) = z9 at *
  go_enter Try.func5, Try.ntmps5
  go_wp2_with fail
  refine (C1.out _).mono ?_
  rintro e w2 ⟨rfl, rfl⟩
  go_wp2_with fail
  refine (R1.out _).mono ?_
  rintro e w2 ⟨rfl, rfl⟩
  go_wp2_with fail
  refine (C2.out _).mono ?_
  rintro e w2 ⟨rfl, rfl⟩
  go_wp2_with fail
  refine (R2.out _).mono ?_
  rintro e w2 ⟨rfl, rfl⟩
  go_wp2_with fail
  refine (C3.out _).mono ?_
  rintro e w2 ⟨rfl, rfl⟩
  go_wp2_with fail
  refine (R3.out _).mono ?_
  rintro e w2 ⟨rfl, hb⟩
  replace hB := chain hB hb; clear hb
  go_wp2_with fail
  refine (C4.out _).mono ?_
  rintro e w2 ⟨rfl, rfl⟩
  go_wp2_with fail
  refine (R4.out _).mono ?_
  rintro e w2 ⟨rfl, hb⟩
  replace hB := chain hB hb; clear hb
  go_wp2_with fail
  refine (C5.out _).mono ?_
  rintro e w2 ⟨rfl, rfl⟩
  go_wp2_with fail
  refine (R5.out _).mono ?_
  rintro e w2 ⟨rfl, rfl⟩
  go_wp2_with fail
  refine (C6.out _).mono ?_
  rintro e w2 ⟨rfl, rfl⟩
  go_wp2_with fail
  refine (R6.out _).mono ?_
  rintro e w2 ⟨rfl, rfl⟩
  go_wp2_with fail
  refine (C7.out _).mono ?_
  rintro e w2 ⟨rfl, rfl⟩
  go_wp2_with fail
  refine (R7.out _).mono ?_
  rintro e w2 ⟨rfl, rfl⟩
  go_wp2_with fail
  refine (C8.out _).mono ?_
  rintro e w2 ⟨rfl, rfl⟩
  go_wp2_with fail
  refine (R8.out _).mono ?_
  rintro e w2 ⟨rfl, rfl⟩
  go_wp2_with fail
  refine (C9.out _).mono ?_
  rintro e w2 ⟨rfl, rfl⟩
  go_wp2_with fail
  refine (R9.out _).mono ?_
  rintro e w2 ⟨rfl, rfl⟩
  go_wp2_with fail
  refine (awake03 _).mono ?_
  rintro e w9 ⟨rfl, rfl⟩
  go_wp2
  go_ret
  exact ⟨rfl, hB⟩
end Go.Proofs.Ytkfffpdhnmjjmab
