/- The reference of layer 36 (frame): two, within: contracts. -/
import Derived.Test.YtecbfegohdllbaaDoorFramePut
namespace Go.Proofs.YtecbfegohdllbaaDoor
open Go.RowKit
set_option linter.unusedVariables false
set_option linter.unusedSimpArgs false
theorem within_any (x a b : Int) (w : World) : Calls Tryd.prog 88 #[.int .i64 x, .int .i64 a, .int .i64 b] w fun e w' => e = .returned (.bool (decide (a ≤ x ∧ x ≤ b))) ∧ w = w' := by
  by_cases h1 : a ≤ x
  · by_cases h2 : x ≤ b
    · have hd : decide (a ≤ x ∧ x ≤ b) = true := by simp [h1, h2]
      rw [hd]
      clear hd
      go_enter Tryd.func88, Tryd.ntmps88
      go_wp2
      go_ret
      exact ⟨by simp [h1, h2], rfl⟩
    · have hd : decide (a ≤ x ∧ x ≤ b) = false := by simp [h2]
      rw [hd]
      clear hd
      go_enter Tryd.func88, Tryd.ntmps88
      go_wp2
      go_ret
      exact ⟨by simp [h1]; try omega, rfl⟩
  · have hd : decide (a ≤ x ∧ x ≤ b) = false := by simp [h1]
    rw [hd]
    clear hd
    go_enter Tryd.func88, Tryd.ntmps88
    go_wp2
    go_ret
    exact ⟨by simp [h1]; try omega, rfl⟩
set_option maxRecDepth 20000 in
theorem rtwo_any (x : Int) (w : World) (hx : -2147483648 ≤ x ∧ x ≤ 2147483647) :
    Calls Tryd.prog 74 #[.int .i64 x] w fun e w' => e = .returned (.slice (some ⟨w.heap.size, 0, none⟩) 2 2) ∧ w' = w.alloc (.cells #[.int .u8 (x / 256 % 256), .int .u8 (x % 256)] 5) := by
  have MD := hid (mod_any x 65536 w (by omega) (by omega))
  have h1 : x / 256 % 256 = x % 65536 / 256 := by omega
  have h2 : x % 256 = x % 65536 % 256 := by omega
  rw [h1, h2]
  clear h1 h2
  have h3 : 0 ≤ x % 65536 := by omega
  have h4 : x % 65536 < 65536 := by omega
  generalize x % 65536 = y at *
  have H3 := hid h3
  have H4 := hid h4
  go_enter Tryd.func74, Tryd.ntmps74
  go_wp2_with fail
  refine MD.out.mono ?_
  rintro e w2 ⟨rfl, rfl⟩
  go_wp2
  go_ret
  exact ⟨rfl, rfl⟩
end Go.Proofs.YtecbfegohdllbaaDoor
