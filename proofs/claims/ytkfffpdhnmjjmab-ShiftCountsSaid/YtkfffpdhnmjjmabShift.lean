/- Layer 2 (shift): contracts. -/
import Derived.Test.YtkfffpdhnmjjmabWord
import Derived.Handy
namespace Go.Proofs.Ytkfffpdhnmjjmab
open Go.RowKit
set_option linter.unusedVariables false
theorem and31 (n : Int) : bits .and .i32 n 31 = n % 32 := by
  have h := and_low .i32 5 n (by decide)
  rw [show ((2:Int) ^ 5) = 32 from rfl, show (32 - 1 : Int) = 31 from rfl] at h
  rw [h, i32wrap]; omega
theorem shl_eq (x p : Int) : wrap32 (x % 4294967296 * p % 4294967296) = lowI (x * p) := by
  rw [lowI_wrap]
  have e : x % 4294967296 * p % 4294967296 = x * p % 4294967296 := by rw [Int.mul_emod, Int.emod_emod_of_dvd _ (Int.dvd_refl _), ← Int.mul_emod]
  rw [e]
  generalize x * p = z
  unfold lowI; omega
theorem shl_any (x n : Int) (w : World) (hx : -2147483648 ≤ x ∧ x ≤ 2147483647) (hn : -2147483648 ≤ n ∧ n ≤ 2147483647) :
    Calls Try.prog 46 #[.int .i32 x, .int .i32 n] w fun e w' => e = .returned (.int .i32 (lowI (x * 2 ^ (n % 32).toNat))) ∧ Below w.heap.size w w' := by
  have a := and31 n
  have h0 : 0 ≤ n % 32 := by omega
  have h1 : n % 32 < 32 := by omega
  generalize n % 32 = m at *
  have E := hid (shl_eq x (2 ^ m.toNat))
  go_enter Try.func46, Try.ntmps46
  go_wp2_with (first | (go_at_call 74; go_in) | (go_at_call 83; go_in) | (go_at_call 75; go_in))
  go_ret
  exact ⟨ret_int E.out, by go_grown⟩
theorem shr_any (x n : Int) (w : World) (hx : -2147483648 ≤ x ∧ x ≤ 2147483647) (hn : -2147483648 ≤ n ∧ n ≤ 2147483647) :
    Calls Try.prog 48 #[.int .i32 x, .int .i32 n] w fun e w' => e = .returned (.int .i32 (lowI (x % 4294967296 / 2 ^ (n % 32).toNat))) ∧ Below w.heap.size w w' := by
  have a := and31 n
  have h0 : 0 ≤ n % 32 := by omega
  have h1 : n % 32 < 32 := by omega
  generalize n % 32 = m at *
  go_enter Try.func48, Try.ntmps48
  go_wp2_with (first | (go_at_call 74; go_in) | (go_at_call 83; go_in) | (go_at_call 77; go_in))
  go_ret
  exact ⟨ret_int (by rw [lowI_wrap]), by go_grown⟩
theorem sar_any (x n : Int) (w : World) (hx : -2147483648 ≤ x ∧ x ≤ 2147483647) (hn : -2147483648 ≤ n ∧ n ≤ 2147483647) :
    Calls Try.prog 50 #[.int .i32 x, .int .i32 n] w fun e w' => e = .returned (.int .i32 (x / 2 ^ (n % 32).toNat)) ∧ w = w' := by
  have a := and31 n
  have h0 : 0 ≤ n % 32 := by omega
  have h1 : n % 32 < 32 := by omega
  generalize n % 32 = m at *
  go_enter Try.func50, Try.ntmps50
  go_wp2
  go_ret
  exact ⟨rfl, rfl⟩
theorem u64and31 (m : Int) (h : 0 ≤ m ∧ m < 32) : bits .and .u64 m 31 = m := by
  have e := and_low .u64 5 m (by decide)
  rw [show ((2:Int) ^ 5) = 32 from rfl, show (32 - 1 : Int) = 31 from rfl] at e
  rw [e, show m % 32 = m by omega]
  simp [IntKind.wrap, IntKind.bits, IntKind.signed]; omega
/-- the word turned round by m, as the code reckons it -/
def rolI (x m : Int) : Int := wrap32 (bits .or .u32 (x % 4294967296 * 2 ^ m.toNat % 4294967296) (x % 4294967296 / 2 ^ (32 - m).toNat))
theorem rol_any (x n : Int) (w : World) (hx : -2147483648 ≤ x ∧ x ≤ 2147483647) (hn : -2147483648 ≤ n ∧ n ≤ 2147483647) :
    Calls Try.prog 52 #[.int .i32 x, .int .i32 n] w fun e w' => e = .returned (.int .i32 (rolI x (n % 32))) ∧ Below w.heap.size w w' := by
  have a := and31 n
  have h0 : 0 ≤ n % 32 := by omega
  have h1 : n % 32 < 32 := by omega
  generalize n % 32 = m at *
  have b := u64and31 m ⟨h0, h1⟩
  go_enter Try.func52, Try.ntmps52
  go_wp2_with (first | (go_at_call 74; go_in) | (go_at_call 83; go_in) | (go_at_call 78; go_in) | (go_at_call 79; go_in))
  go_ret
  exact ⟨ret_int rfl, by go_grown⟩
end Go.Proofs.Ytkfffpdhnmjjmab
