/- The reference of layer 36 (frame): Right: a contract. -/
import Derived.Test.YtecbfegohdllbaaDoorFrameRef
namespace Go.Proofs.YtecbfegohdllbaaDoor
open Go.RowKit
set_option linter.unusedVariables false
set_option linter.unusedSimpArgs false
theorem within_r (x a b : Int) (r : Bool) (h : Hid (decide (a ≤ x ∧ x ≤ b) = r)) (w : World) : Calls Tryd.prog 88 #[.int .i64 x, .int .i64 a, .int .i64 b] w fun e w' => e = .returned (.bool r) ∧ w = w' := by
  have h := h.out
  subst h
  exact within_any x a b w
set_option maxRecDepth 20000 in
set_option maxHeartbeats 1000000 in
theorem rright_0 (f s u g q0 q1 q2 q3 x0 x1 x2 : Int) (w : World) (d0 : Hid (decide (-32768 ≤ wrap64 x0 ∧ wrap64 x0 ≤ 32767) = false)) :
    Calls Tryd.prog 56 #[.agg #[.int .i64 f, .int .i64 s, .int .i64 u, .int .i64 g, .int .i32 q0, .int .i32 q1, .int .i32 q2, .int .i32 q3, .int .i32 x0, .int .i32 x1, .int .i32 x2]] w fun e w' => e = .returned (.bool false) ∧ Below w.heap.size w w' := by
  go_enter Tryd.func56, Tryd.ntmps56
  go_wp2_with fail
  refine wp_loop_rounds 4 ?_
  rw [rounds_succ]
  go_wp2_with (go_at_call 88; refine (within_r _ _ _ _ (by assumption) _).mono ?_; rintro e w3 ⟨rfl, rfl⟩)
  go_ret
  exact ⟨rfl, (Below.refl _ w).alloc (Nat.le_refl _) _⟩
set_option maxRecDepth 20000 in
set_option maxHeartbeats 1000000 in
theorem rright_1 (f s u g q0 q1 q2 q3 x0 x1 x2 : Int) (w : World) (d0 : Hid (decide (-32768 ≤ wrap64 x0 ∧ wrap64 x0 ≤ 32767) = true)) (d1 : Hid (decide (-32768 ≤ wrap64 x1 ∧ wrap64 x1 ≤ 32767) = false)) :
    Calls Tryd.prog 56 #[.agg #[.int .i64 f, .int .i64 s, .int .i64 u, .int .i64 g, .int .i32 q0, .int .i32 q1, .int .i32 q2, .int .i32 q3, .int .i32 x0, .int .i32 x1, .int .i32 x2]] w fun e w' => e = .returned (.bool false) ∧ Below w.heap.size w w' := by
  go_enter Tryd.func56, Tryd.ntmps56
  go_wp2_with fail
  refine wp_loop_rounds 4 ?_
  rw [rounds_succ]
  go_wp2_with (go_at_call 88; refine (within_r _ _ _ _ (by assumption) _).mono ?_; rintro e w3 ⟨rfl, rfl⟩)
  rw [rounds_succ]
  go_wp2_with (go_at_call 88; refine (within_r _ _ _ _ (by assumption) _).mono ?_; rintro e w3 ⟨rfl, rfl⟩)
  go_ret
  exact ⟨rfl, (Below.refl _ w).alloc (Nat.le_refl _) _⟩
set_option maxRecDepth 20000 in
set_option maxHeartbeats 1000000 in
theorem rright_2 (f s u g q0 q1 q2 q3 x0 x1 x2 : Int) (w : World) (d0 : Hid (decide (-32768 ≤ wrap64 x0 ∧ wrap64 x0 ≤ 32767) = true)) (d1 : Hid (decide (-32768 ≤ wrap64 x1 ∧ wrap64 x1 ≤ 32767) = true)) (d2 : Hid (decide (-32768 ≤ wrap64 x2 ∧ wrap64 x2 ≤ 32767) = false)) :
    Calls Tryd.prog 56 #[.agg #[.int .i64 f, .int .i64 s, .int .i64 u, .int .i64 g, .int .i32 q0, .int .i32 q1, .int .i32 q2, .int .i32 q3, .int .i32 x0, .int .i32 x1, .int .i32 x2]] w fun e w' => e = .returned (.bool false) ∧ Below w.heap.size w w' := by
  go_enter Tryd.func56, Tryd.ntmps56
  go_wp2_with fail
  refine wp_loop_rounds 4 ?_
  rw [rounds_succ]
  go_wp2_with (go_at_call 88; refine (within_r _ _ _ _ (by assumption) _).mono ?_; rintro e w3 ⟨rfl, rfl⟩)
  rw [rounds_succ]
  go_wp2_with (go_at_call 88; refine (within_r _ _ _ _ (by assumption) _).mono ?_; rintro e w3 ⟨rfl, rfl⟩)
  rw [rounds_succ]
  go_wp2_with (go_at_call 88; refine (within_r _ _ _ _ (by assumption) _).mono ?_; rintro e w3 ⟨rfl, rfl⟩)
  go_ret
  exact ⟨rfl, (Below.refl _ w).alloc (Nat.le_refl _) _⟩
set_option maxRecDepth 20000 in
set_option maxHeartbeats 1000000 in
theorem rright_3 (f s u g q0 q1 q2 q3 x0 x1 x2 : Int) (w : World) (d0 : Hid (decide (-32768 ≤ wrap64 x0 ∧ wrap64 x0 ≤ 32767) = true)) (d1 : Hid (decide (-32768 ≤ wrap64 x1 ∧ wrap64 x1 ≤ 32767) = true)) (d2 : Hid (decide (-32768 ≤ wrap64 x2 ∧ wrap64 x2 ≤ 32767) = true)) (d3 : Hid (decide (0 ≤ f ∧ f ≤ 15) = false)) :
    Calls Tryd.prog 56 #[.agg #[.int .i64 f, .int .i64 s, .int .i64 u, .int .i64 g, .int .i32 q0, .int .i32 q1, .int .i32 q2, .int .i32 q3, .int .i32 x0, .int .i32 x1, .int .i32 x2]] w fun e w' => e = .returned (.bool false) ∧ Below w.heap.size w w' := by
  go_enter Tryd.func56, Tryd.ntmps56
  go_wp2_with fail
  refine wp_loop_rounds 4 ?_
  rw [rounds_succ]
  go_wp2_with (go_at_call 88; refine (within_r _ _ _ _ (by assumption) _).mono ?_; rintro e w3 ⟨rfl, rfl⟩)
  rw [rounds_succ]
  go_wp2_with (go_at_call 88; refine (within_r _ _ _ _ (by assumption) _).mono ?_; rintro e w3 ⟨rfl, rfl⟩)
  rw [rounds_succ]
  go_wp2_with (go_at_call 88; refine (within_r _ _ _ _ (by assumption) _).mono ?_; rintro e w3 ⟨rfl, rfl⟩)
  rw [rounds_succ]
  go_wp2_with (go_at_call 88; refine (within_r _ _ _ _ (by assumption) _).mono ?_; rintro e w3 ⟨rfl, rfl⟩)
  go_ret
  exact ⟨rfl, (Below.refl _ w).alloc (Nat.le_refl _) _⟩
set_option maxRecDepth 20000 in
set_option maxHeartbeats 1000000 in
theorem rright_4 (f s u g q0 q1 q2 q3 x0 x1 x2 : Int) (w : World) (d0 : Hid (decide (-32768 ≤ wrap64 x0 ∧ wrap64 x0 ≤ 32767) = true)) (d1 : Hid (decide (-32768 ≤ wrap64 x1 ∧ wrap64 x1 ≤ 32767) = true)) (d2 : Hid (decide (-32768 ≤ wrap64 x2 ∧ wrap64 x2 ≤ 32767) = true)) (d3 : Hid (decide (0 ≤ f ∧ f ≤ 15) = true)) (d4 : Hid (decide (0 ≤ s ∧ s ≤ 65535) = false)) :
    Calls Tryd.prog 56 #[.agg #[.int .i64 f, .int .i64 s, .int .i64 u, .int .i64 g, .int .i32 q0, .int .i32 q1, .int .i32 q2, .int .i32 q3, .int .i32 x0, .int .i32 x1, .int .i32 x2]] w fun e w' => e = .returned (.bool false) ∧ Below w.heap.size w w' := by
  go_enter Tryd.func56, Tryd.ntmps56
  go_wp2_with fail
  refine wp_loop_rounds 4 ?_
  rw [rounds_succ]
  go_wp2_with (go_at_call 88; refine (within_r _ _ _ _ (by assumption) _).mono ?_; rintro e w3 ⟨rfl, rfl⟩)
  rw [rounds_succ]
  go_wp2_with (go_at_call 88; refine (within_r _ _ _ _ (by assumption) _).mono ?_; rintro e w3 ⟨rfl, rfl⟩)
  rw [rounds_succ]
  go_wp2_with (go_at_call 88; refine (within_r _ _ _ _ (by assumption) _).mono ?_; rintro e w3 ⟨rfl, rfl⟩)
  rw [rounds_succ]
  go_wp2_with (go_at_call 88; refine (within_r _ _ _ _ (by assumption) _).mono ?_; rintro e w3 ⟨rfl, rfl⟩)
  go_ret
  exact ⟨rfl, (Below.refl _ w).alloc (Nat.le_refl _) _⟩
set_option maxRecDepth 20000 in
set_option maxHeartbeats 1000000 in
theorem rright_5 (f s u g q0 q1 q2 q3 x0 x1 x2 : Int) (w : World) (d0 : Hid (decide (-32768 ≤ wrap64 x0 ∧ wrap64 x0 ≤ 32767) = true)) (d1 : Hid (decide (-32768 ≤ wrap64 x1 ∧ wrap64 x1 ≤ 32767) = true)) (d2 : Hid (decide (-32768 ≤ wrap64 x2 ∧ wrap64 x2 ≤ 32767) = true)) (d3 : Hid (decide (0 ≤ f ∧ f ≤ 15) = true)) (d4 : Hid (decide (0 ≤ s ∧ s ≤ 65535) = true)) (d5 : Hid (decide (0 ≤ u ∧ u ≤ 65535) = false)) :
    Calls Tryd.prog 56 #[.agg #[.int .i64 f, .int .i64 s, .int .i64 u, .int .i64 g, .int .i32 q0, .int .i32 q1, .int .i32 q2, .int .i32 q3, .int .i32 x0, .int .i32 x1, .int .i32 x2]] w fun e w' => e = .returned (.bool false) ∧ Below w.heap.size w w' := by
  go_enter Tryd.func56, Tryd.ntmps56
  go_wp2_with fail
  refine wp_loop_rounds 4 ?_
  rw [rounds_succ]
  go_wp2_with (go_at_call 88; refine (within_r _ _ _ _ (by assumption) _).mono ?_; rintro e w3 ⟨rfl, rfl⟩)
  rw [rounds_succ]
  go_wp2_with (go_at_call 88; refine (within_r _ _ _ _ (by assumption) _).mono ?_; rintro e w3 ⟨rfl, rfl⟩)
  rw [rounds_succ]
  go_wp2_with (go_at_call 88; refine (within_r _ _ _ _ (by assumption) _).mono ?_; rintro e w3 ⟨rfl, rfl⟩)
  rw [rounds_succ]
  go_wp2_with (go_at_call 88; refine (within_r _ _ _ _ (by assumption) _).mono ?_; rintro e w3 ⟨rfl, rfl⟩)
  go_ret
  exact ⟨rfl, (Below.refl _ w).alloc (Nat.le_refl _) _⟩
set_option maxRecDepth 20000 in
set_option maxHeartbeats 1000000 in
theorem rright_6 (f s u g q0 q1 q2 q3 x0 x1 x2 : Int) (w : World) (d0 : Hid (decide (-32768 ≤ wrap64 x0 ∧ wrap64 x0 ≤ 32767) = true)) (d1 : Hid (decide (-32768 ≤ wrap64 x1 ∧ wrap64 x1 ≤ 32767) = true)) (d2 : Hid (decide (-32768 ≤ wrap64 x2 ∧ wrap64 x2 ≤ 32767) = true)) (d3 : Hid (decide (0 ≤ f ∧ f ≤ 15) = true)) (d4 : Hid (decide (0 ≤ s ∧ s ≤ 65535) = true)) (d5 : Hid (decide (0 ≤ u ∧ u ≤ 65535) = true)) (d6 : Hid (decide (0 ≤ g ∧ g ≤ 65535) = false)) :
    Calls Tryd.prog 56 #[.agg #[.int .i64 f, .int .i64 s, .int .i64 u, .int .i64 g, .int .i32 q0, .int .i32 q1, .int .i32 q2, .int .i32 q3, .int .i32 x0, .int .i32 x1, .int .i32 x2]] w fun e w' => e = .returned (.bool false) ∧ Below w.heap.size w w' := by
  go_enter Tryd.func56, Tryd.ntmps56
  go_wp2_with fail
  refine wp_loop_rounds 4 ?_
  rw [rounds_succ]
  go_wp2_with (go_at_call 88; refine (within_r _ _ _ _ (by assumption) _).mono ?_; rintro e w3 ⟨rfl, rfl⟩)
  rw [rounds_succ]
  go_wp2_with (go_at_call 88; refine (within_r _ _ _ _ (by assumption) _).mono ?_; rintro e w3 ⟨rfl, rfl⟩)
  rw [rounds_succ]
  go_wp2_with (go_at_call 88; refine (within_r _ _ _ _ (by assumption) _).mono ?_; rintro e w3 ⟨rfl, rfl⟩)
  rw [rounds_succ]
  go_wp2_with (go_at_call 88; refine (within_r _ _ _ _ (by assumption) _).mono ?_; rintro e w3 ⟨rfl, rfl⟩)
  go_ret
  exact ⟨rfl, (Below.refl _ w).alloc (Nat.le_refl _) _⟩
set_option maxRecDepth 20000 in
set_option maxHeartbeats 1000000 in
theorem rright_7 (f s u g q0 q1 q2 q3 x0 x1 x2 : Int) (w : World) (d0 : Hid (decide (-32768 ≤ wrap64 x0 ∧ wrap64 x0 ≤ 32767) = true)) (d1 : Hid (decide (-32768 ≤ wrap64 x1 ∧ wrap64 x1 ≤ 32767) = true)) (d2 : Hid (decide (-32768 ≤ wrap64 x2 ∧ wrap64 x2 ≤ 32767) = true)) (d3 : Hid (decide (0 ≤ f ∧ f ≤ 15) = true)) (d4 : Hid (decide (0 ≤ s ∧ s ≤ 65535) = true)) (d5 : Hid (decide (0 ≤ u ∧ u ≤ 65535) = true)) (d6 : Hid (decide (0 ≤ g ∧ g ≤ 65535) = true)) :
    Calls Tryd.prog 56 #[.agg #[.int .i64 f, .int .i64 s, .int .i64 u, .int .i64 g, .int .i32 q0, .int .i32 q1, .int .i32 q2, .int .i32 q3, .int .i32 x0, .int .i32 x1, .int .i32 x2]] w fun e w' => e = .returned (.bool true) ∧ Below w.heap.size w w' := by
  go_enter Tryd.func56, Tryd.ntmps56
  go_wp2_with fail
  refine wp_loop_rounds 4 ?_
  rw [rounds_succ]
  go_wp2_with (go_at_call 88; refine (within_r _ _ _ _ (by assumption) _).mono ?_; rintro e w3 ⟨rfl, rfl⟩)
  rw [rounds_succ]
  go_wp2_with (go_at_call 88; refine (within_r _ _ _ _ (by assumption) _).mono ?_; rintro e w3 ⟨rfl, rfl⟩)
  rw [rounds_succ]
  go_wp2_with (go_at_call 88; refine (within_r _ _ _ _ (by assumption) _).mono ?_; rintro e w3 ⟨rfl, rfl⟩)
  rw [rounds_succ]
  go_wp2_with (go_at_call 88; refine (within_r _ _ _ _ (by assumption) _).mono ?_; rintro e w3 ⟨rfl, rfl⟩)
  go_ret
  exact ⟨rfl, (Below.refl _ w).alloc (Nat.le_refl _) _⟩
theorem w64_i32 {x : Int} (h : -2147483648 ≤ x ∧ x ≤ 2147483647) : wrap64 x = x := by unfold wrap64; omega
theorem rright_any (f s u g q0 q1 q2 q3 x0 x1 x2 : Int) (w : World) (b0 : -2147483648 ≤ x0 ∧ x0 ≤ 2147483647) (b1 : -2147483648 ≤ x1 ∧ x1 ≤ 2147483647) (b2 : -2147483648 ≤ x2 ∧ x2 ≤ 2147483647) :
    Calls Tryd.prog 56 #[.agg #[.int .i64 f, .int .i64 s, .int .i64 u, .int .i64 g, .int .i32 q0, .int .i32 q1, .int .i32 q2, .int .i32 q3, .int .i32 x0, .int .i32 x1, .int .i32 x2]] w fun e w' => ∃ b, e = .returned (.bool b) ∧ (b = true ↔ Right f s u g x0 x1 x2) ∧ Below w.heap.size w w' := by
  have v0 := w64_i32 b0
  have v1 := w64_i32 b1
  have v2 := w64_i32 b2
  by_cases p0 : (-32768 ≤ x0 ∧ x0 ≤ 32767)
  case neg => exact (rright_0 f s u g q0 q1 q2 q3 x0 x1 x2 w (hid (by rw [v0]; simpa using p0))).mono (fun e w' h => ⟨false, h.1, ⟨fun h => (by cases h), fun R => absurd R.2.2.2.2.1 p0⟩, h.2⟩)
  by_cases p1 : (-32768 ≤ x1 ∧ x1 ≤ 32767)
  case neg => exact (rright_1 f s u g q0 q1 q2 q3 x0 x1 x2 w (hid (by rw [v0]; simpa using p0)) (hid (by rw [v1]; simpa using p1))).mono (fun e w' h => ⟨false, h.1, ⟨fun h => (by cases h), fun R => absurd R.2.2.2.2.2.1 p1⟩, h.2⟩)
  by_cases p2 : (-32768 ≤ x2 ∧ x2 ≤ 32767)
  case neg => exact (rright_2 f s u g q0 q1 q2 q3 x0 x1 x2 w (hid (by rw [v0]; simpa using p0)) (hid (by rw [v1]; simpa using p1)) (hid (by rw [v2]; simpa using p2))).mono (fun e w' h => ⟨false, h.1, ⟨fun h => (by cases h), fun R => absurd R.2.2.2.2.2.2 p2⟩, h.2⟩)
  by_cases p3 : (0 ≤ f ∧ f ≤ 15)
  case neg => exact (rright_3 f s u g q0 q1 q2 q3 x0 x1 x2 w (hid (by rw [v0]; simpa using p0)) (hid (by rw [v1]; simpa using p1)) (hid (by rw [v2]; simpa using p2)) (hid (by skip; simpa using p3))).mono (fun e w' h => ⟨false, h.1, ⟨fun h => (by cases h), fun R => absurd R.1 p3⟩, h.2⟩)
  by_cases p4 : (0 ≤ s ∧ s ≤ 65535)
  case neg => exact (rright_4 f s u g q0 q1 q2 q3 x0 x1 x2 w (hid (by rw [v0]; simpa using p0)) (hid (by rw [v1]; simpa using p1)) (hid (by rw [v2]; simpa using p2)) (hid (by skip; simpa using p3)) (hid (by skip; simpa using p4))).mono (fun e w' h => ⟨false, h.1, ⟨fun h => (by cases h), fun R => absurd R.2.1 p4⟩, h.2⟩)
  by_cases p5 : (0 ≤ u ∧ u ≤ 65535)
  case neg => exact (rright_5 f s u g q0 q1 q2 q3 x0 x1 x2 w (hid (by rw [v0]; simpa using p0)) (hid (by rw [v1]; simpa using p1)) (hid (by rw [v2]; simpa using p2)) (hid (by skip; simpa using p3)) (hid (by skip; simpa using p4)) (hid (by skip; simpa using p5))).mono (fun e w' h => ⟨false, h.1, ⟨fun h => (by cases h), fun R => absurd R.2.2.1 p5⟩, h.2⟩)
  by_cases p6 : (0 ≤ g ∧ g ≤ 65535)
  case neg => exact (rright_6 f s u g q0 q1 q2 q3 x0 x1 x2 w (hid (by rw [v0]; simpa using p0)) (hid (by rw [v1]; simpa using p1)) (hid (by rw [v2]; simpa using p2)) (hid (by skip; simpa using p3)) (hid (by skip; simpa using p4)) (hid (by skip; simpa using p5)) (hid (by skip; simpa using p6))).mono (fun e w' h => ⟨false, h.1, ⟨fun h => (by cases h), fun R => absurd R.2.2.2.1 p6⟩, h.2⟩)
  exact (rright_7 f s u g q0 q1 q2 q3 x0 x1 x2 w (hid (by rw [v0]; simpa using p0)) (hid (by rw [v1]; simpa using p1)) (hid (by rw [v2]; simpa using p2)) (hid (by skip; simpa using p3)) (hid (by skip; simpa using p4)) (hid (by skip; simpa using p5)) (hid (by skip; simpa using p6))).mono (fun e w' h => ⟨true, h.1, ⟨fun _ => ⟨p3, p4, p5, p6, p0, p1, p2⟩, fun _ => rfl⟩, h.2⟩)
end Go.Proofs.YtecbfegohdllbaaDoor
