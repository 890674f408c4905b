/- What the functions of package sat, and its reference, return: contracts. -/
import Derived.Test.YtkfffpdhnmjjmaaBase
namespace Go.Proofs.Ytkfffpdhnmjjmaa
open Go.RowKit
def satI (x : Int) : Int := min (max x (-2147483648)) 2147483647
theorem satI_bd (x : Int) : -2147483648 ≤ satI x ∧ satI x ≤ 2147483647 := by unfold satI; omega
theorem within64 (x l h : Int) (w : World) :
    Calls Try.prog 53 #[.int .i64 x, .int .i64 l, .int .i64 h] w fun e w' => e = .returned (.int .i64 (min (max x l) h)) ∧ w = w' := by
  go_enter Try.func53, Try.ntmps53
  go_wp2
  all_goals
    go_ret
    exact ⟨ret_int (by omega), rfl⟩
theorem sat_any (x : Int) (w : World) :
    Calls Try.prog 15 #[.int .i64 x] w fun e w' => e = .returned (.int .i32 (satI x)) ∧ w = w' := by
  go_enter Try.func15, Try.ntmps15
  go_wp2_with (go_at_call 53; refine (within64 _ _ _ _).mono ?_; rintro e w' ⟨rfl, rfl⟩)
  go_ret
  exact ⟨rfl, rfl⟩
theorem sum_two (x y : Int) (b : Nat) (w : World) (hx : -4294967296 ≤ x ∧ x ≤ 4294967296) (hy : -4294967296 ≤ y ∧ y ≤ 4294967296)
    (h0 : w.cell? ⟨b, 0, none⟩ = some (.int .i64 x)) (h1 : w.cell? ⟨b, 1, none⟩ = some (.int .i64 y)) :
    Calls Try.prog 55 #[.slice (some ⟨b, 0, none⟩) 2 2] w fun e w' => e = .returned (.int .i32 (satI (x + y))) ∧ w = w' := by
  go_enter Try.func55, Try.ntmps55
  go_wp2_with fail
  go_loop [3, 8] (fun n i => (i = .int .i64 0 ∧ n = .int .i64 0) ∨ (i = .int .i64 1 ∧ n = .int .i64 x) ∨ (i = .int .i64 2 ∧ n = .int .i64 (x + y))) (fun _ i => 2 - (intOf i).toNat)
  case atStart => exact .inl ⟨rfl, rfl⟩
  case round =>
    rcases hrel with ⟨rfl, rfl⟩ | ⟨rfl, rfl⟩ | ⟨rfl, rfl⟩
    · go_wp2
      go_round
      case rel => exact .inr (.inl ⟨rfl, by simp⟩)
      case measure => simp [intOf]
    · go_wp2
      go_round
      case rel => exact .inr (.inr ⟨rfl, rfl⟩)
      case measure => simp [intOf]
    · go_wp2_with (go_at_call 15; refine (sat_any _ _).mono ?_; rintro e w' ⟨rfl, rfl⟩)
      go_ret
      exact ⟨rfl, rfl⟩
theorem sum_one (x : Int) (b : Nat) (w : World) (hx : -4294967296 ≤ x ∧ x ≤ 4294967296)
    (h0 : w.cell? ⟨b, 0, none⟩ = some (.int .i64 x)) :
    Calls Try.prog 55 #[.slice (some ⟨b, 0, none⟩) 1 1] w fun e w' => e = .returned (.int .i32 (satI x)) ∧ w = w' := by
  go_enter Try.func55, Try.ntmps55
  go_wp2_with fail
  go_loop [3, 8] (fun n i => (i = .int .i64 0 ∧ n = .int .i64 0) ∨ (i = .int .i64 1 ∧ n = .int .i64 x)) (fun _ i => 2 - (intOf i).toNat)
  case atStart => exact .inl ⟨rfl, rfl⟩
  case round =>
    rcases hrel with ⟨rfl, rfl⟩ | ⟨rfl, rfl⟩
    · go_wp2
      go_round
      case rel => exact .inr ⟨rfl, by simp⟩
      case measure => simp [intOf]
    · go_wp2_with (go_at_call 15; refine (sat_any _ _).mono ?_; rintro e w' ⟨rfl, rfl⟩)
      go_ret
      exact ⟨rfl, rfl⟩
theorem add_any (a b : Int) (w : World) (ha : -2147483648 ≤ a ∧ a ≤ 2147483647) (hb : -2147483648 ≤ b ∧ b ≤ 2147483647) :
    Calls Try.prog 22 #[.int .i32 a, .int .i32 b] w fun e w' => e = .returned (.int .i32 (satI (a + b))) ∧ Below w.heap.size w w' := by
  go_enter Try.func22, Try.ntmps22
  go_wp2_with fail
  refine (sum_two a b _ _ (by omega) (by omega) (by go_simp) (by go_simp)).mono ?_
  rintro e w' ⟨rfl, rfl⟩
  go_wp2
  go_ret
  exact ⟨rfl, (Below.refl _ _).alloc (Nat.le_refl _) _⟩
theorem sub_any (a b : Int) (w : World) (ha : -2147483648 ≤ a ∧ a ≤ 2147483647) (hb : -2147483648 ≤ b ∧ b ≤ 2147483647) :
    Calls Try.prog 24 #[.int .i32 a, .int .i32 b] w fun e w' => e = .returned (.int .i32 (satI (a - b))) ∧ Below w.heap.size w w' := by
  go_enter Try.func24, Try.ntmps24
  go_wp2_with fail
  refine (sum_two a (-b) _ _ (by omega) (by omega) (by go_simp) (by go_simp)).mono ?_
  rintro e w' ⟨rfl, rfl⟩
  go_wp2
  go_ret
  exact ⟨ret_int (by rw [Int.sub_eq_add_neg]), (Below.refl _ _).alloc (Nat.le_refl _) _⟩
theorem neg_any (a : Int) (w : World) (ha : -2147483648 ≤ a ∧ a ≤ 2147483647) :
    Calls Try.prog 26 #[.int .i32 a] w fun e w' => e = .returned (.int .i32 (satI (-a))) ∧ Below w.heap.size w w' := by
  go_enter Try.func26, Try.ntmps26
  go_wp2_with fail
  refine (sum_one (-a) _ _ (by omega) (by go_simp)).mono ?_
  rintro e w' ⟨rfl, rfl⟩
  go_wp2
  go_ret
  exact ⟨rfl, (Below.refl _ _).alloc (Nat.le_refl _) _⟩
theorem abs_any (a : Int) (w : World) (ha : -2147483648 ≤ a ∧ a ≤ 2147483647) :
    Calls Try.prog 28 #[.int .i32 a] w fun e w' => e = .returned (.int .i32 (satI (max a (-a)))) ∧ Below w.heap.size w w' := by
  have h1 := satI_bd (-a)
  go_enter Try.func28, Try.ntmps28
  go_wp2_with fail
  refine (neg_any a _ ha).mono ?_
  rintro e w' ⟨rfl, hb⟩
  go_wp2
  all_goals
    go_ret
    exact ⟨ret_int (by unfold satI at *; omega), hb⟩
theorem within32 (x l h : Int) (w : World) :
    Calls Try.prog 54 #[.int .i32 x, .int .i32 l, .int .i32 h] w fun e w' => e = .returned (.int .i32 (min (max x l) h)) ∧ w = w' := by
  go_enter Try.func54, Try.ntmps54
  go_wp2
  all_goals
    go_ret
    exact ⟨ret_int (by omega), rfl⟩
theorem clamp_any (x l h : Int) (w : World) :
    Calls Try.prog 19 #[.int .i32 x, .int .i32 l, .int .i32 h] w fun e w' => e = .returned (.int .i32 (min (max x l) h)) ∧ w = w' := by
  go_enter Try.func19, Try.ntmps19
  go_wp2_with fail
  refine (within32 _ _ _ _).mono ?_
  rintro e w' ⟨rfl, rfl⟩
  go_wp2
  go_ret
  exact ⟨rfl, rfl⟩
def hitsB (x : Int) : Bool := decide (x < -2147483648) || decide (2147483647 < x)
theorem hits_any (x : Int) (w : World) (hx : -9223372036854775808 ≤ x ∧ x ≤ 9223372036854775807) :
    Calls Try.prog 17 #[.int .i64 x] w fun e w' => e = .returned (.bool (hitsB x)) ∧ w = w' := by
  go_enter Try.func17, Try.ntmps17
  go_wp2
  go_ret
  refine ⟨ret_bool ?_, rfl⟩
  rw [Bool.eq_iff_iff]
  simp [hitsB, wrap32, wrap64]
  omega
/-! the reference -/
theorem rsat_any (x : Int) (w : World) :
    Calls Try.prog 20 #[.int .i64 x] w fun e w' => e = .returned (.int .i32 (satI x)) ∧ w = w' := by
  go_enter Try.func20, Try.ntmps20
  go_wp2
  all_goals
    go_ret
    exact ⟨ret_int (by unfold satI; omega), rfl⟩
theorem rhits_any (x : Int) (w : World) :
    Calls Try.prog 21 #[.int .i64 x] w fun e w' => e = .returned (.bool (hitsB x)) ∧ w = w' := by
  go_enter Try.func21, Try.ntmps21
  go_wp2
  all_goals
    go_ret
    refine ⟨ret_bool ?_, rfl⟩
    rw [Bool.eq_iff_iff]
    simp [hitsB]
    try omega
theorem radd_any (a b : Int) (w : World) (ha : -2147483648 ≤ a ∧ a ≤ 2147483647) (hb : -2147483648 ≤ b ∧ b ≤ 2147483647) :
    Calls Try.prog 23 #[.int .i32 a, .int .i32 b] w fun e w' => e = .returned (.int .i32 (satI (a + b))) ∧ w = w' := by
  go_enter Try.func23, Try.ntmps23
  go_wp2_with fail
  refine (rsat_any _ _).mono ?_
  rintro e w' ⟨rfl, rfl⟩
  go_wp2
  go_ret
  exact ⟨rfl, rfl⟩
theorem rsub_any (a b : Int) (w : World) (ha : -2147483648 ≤ a ∧ a ≤ 2147483647) (hb : -2147483648 ≤ b ∧ b ≤ 2147483647) :
    Calls Try.prog 25 #[.int .i32 a, .int .i32 b] w fun e w' => e = .returned (.int .i32 (satI (a - b))) ∧ w = w' := by
  go_enter Try.func25, Try.ntmps25
  go_wp2_with fail
  refine (rsat_any _ _).mono ?_
  rintro e w' ⟨rfl, rfl⟩
  go_wp2
  go_ret
  exact ⟨rfl, rfl⟩
theorem rneg_any (a : Int) (w : World) (ha : -2147483648 ≤ a ∧ a ≤ 2147483647) :
    Calls Try.prog 27 #[.int .i32 a] w fun e w' => e = .returned (.int .i32 (satI (-a))) ∧ w = w' := by
  go_enter Try.func27, Try.ntmps27
  go_wp2_with fail
  refine (rsat_any _ _).mono ?_
  rintro e w' ⟨rfl, rfl⟩
  go_wp2
  go_ret
  exact ⟨ret_int (by unfold satI; omega), rfl⟩
theorem rabs_any (a : Int) (w : World) (ha : -2147483648 ≤ a ∧ a ≤ 2147483647) :
    Calls Try.prog 29 #[.int .i32 a] w fun e w' => e = .returned (.int .i32 (satI (max a (-a)))) ∧ w = w' := by
  go_enter Try.func29, Try.ntmps29
  go_wp2_with (go_at_call 27; refine (rneg_any _ _ ha).mono ?_; rintro e w' ⟨rfl, rfl⟩)
  all_goals
    go_ret
    exact ⟨ret_int (by unfold satI; omega), rfl⟩
theorem rclamp_any (x l h : Int) (w : World) :
    Calls Try.prog 30 #[.int .i32 x, .int .i32 l, .int .i32 h] w fun e w' => e = .returned (.int .i32 (min (max x l) h)) ∧ w = w' := by
  go_enter Try.func30, Try.ntmps30
  go_wp2
  all_goals
    go_ret
    exact ⟨ret_int (by omega), rfl⟩
end Go.Proofs.Ytkfffpdhnmjjmaa
