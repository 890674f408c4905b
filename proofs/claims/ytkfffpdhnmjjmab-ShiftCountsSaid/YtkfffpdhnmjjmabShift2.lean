/- Layer 2 (shift): leading noughts. -/
import Derived.Test.YtkfffpdhnmjjmabShift
import Derived.Test.YtkfffpdhnmjjmabShelf
namespace Go.Proofs.Ytkfffpdhnmjjmab
open Go.RowKit
set_option linter.unusedVariables false
theorem clz_any (x : Int) (w : World) (hx : -2147483648 ≤ x ∧ x ≤ 2147483647) :
    Calls Try.prog 54 #[.int .i32 x] w fun e w' => e = .returned (.int .i32 (32 - (Lib.bitLen (x % 4294967296).toNat : Int))) ∧ w = w' := by
  have hl := Any.bitLen_le32 (x % 4294967296) (by omega) (by omega)
  have C := hid (fun w => Go.Proofs.Try.bits_LeadingZeros32 (x % 4294967296) w (by omega) (by omega))
  generalize (Lib.bitLen (x % 4294967296).toNat) = b at *
  go_enter Try.func54, Try.ntmps54
  go_wp2_with fail
  refine (C.out _).mono ?_
  rintro e w2 ⟨rfl, rfl⟩
  go_wp2
  go_ret
  exact ⟨rfl, rfl⟩
end Go.Proofs.Ytkfffpdhnmjjmab
