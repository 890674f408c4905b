/- The example that the statements of layer 1 (word) ask. -/
import Derived.Test.YtkfffpdhnmjjmabWord
namespace Go.Proofs.Ytkfffpdhnmjjmab
open Go.RowKit
set_option linter.unusedVariables false
theorem awake01 (w : World) : Calls Try.prog 31 #[] w fun e w' => e = .returned (.bool true) ∧ Below w.heap.size w w' := by
  go_enter Try.func31, Try.ntmps31
  go_wp2_with fail
  refine (from_four 0 0 1 2 w.heap.size 0 4 _ (by omega) (by omega) (by omega) (by omega) (by go_simp) (by go_simp) (by go_simp) (by go_simp)).mono ?_
  rintro e w2 ⟨rfl, rfl⟩
  rw [show lowI (((0 * 256 + 0) * 256 + 1) * 256 + 2) = 258 from by decide]
  go_wp2_with fail
  refine (low_any _ _).mono ?_
  rintro e w2 ⟨rfl, rfl⟩
  rw [show lowI 2147483648 = -2147483648 from by decide]
  go_wp2_with fail
  refine (high_any _ _ (by omega)).mono ?_
  rintro e w2 ⟨rfl, rfl⟩
  rw [show (-1 : Int) / 4294967296 = -1 from by decide]
  go_wp2_with fail
  refine (pair_any _ _ _ (by omega) (by omega)).mono ?_
  rintro e w2 ⟨rfl, rfl⟩
  rw [show halfI (256 * 255 + 254) = -2 from by decide]
  go_wp2_with fail
  refine (half_any _ _).mono ?_
  rintro e w2 ⟨rfl, rfl⟩
  rw [show halfI 65535 = -1 from by decide]
  go_wp2
  go_ret
  exact ⟨rfl, (Below.refl _ _).alloc (Nat.le_refl _) _⟩
end Go.Proofs.Ytkfffpdhnmjjmab
