/- Layer 2 (shift): contracts on bit vectors. -/
import Derived.Test.YtkfffpdhnmjjmabShift2
import Derived.Test.YtkfffpdhnmjjmabBv
namespace Go.Proofs.Ytkfffpdhnmjjmab
open Go.RowKit
set_option linter.unusedVariables false
theorem shl_bv (v : BitVec 32) (n : Int) (w : World) (hn : -2147483648 ≤ n ∧ n ≤ 2147483647) :
    Calls Try.prog 46 #[.int .i32 (S v), .int .i32 n] w fun e w' => e = .returned (.int .i32 (S (v <<< (n % 32).toNat))) ∧ Below w.heap.size w w' := by
  have h := shl_any (S v) n w (S_bd v) hn
  rw [shl_S] at h; exact h
theorem shr_bv (v : BitVec 32) (n : Int) (w : World) (hn : -2147483648 ≤ n ∧ n ≤ 2147483647) :
    Calls Try.prog 48 #[.int .i32 (S v), .int .i32 n] w fun e w' => e = .returned (.int .i32 (S (v >>> (n % 32).toNat))) ∧ Below w.heap.size w w' := by
  have h := shr_any (S v) n w (S_bd v) hn
  rw [shr_S] at h; exact h
theorem sar_bv (v : BitVec 32) (n : Int) (w : World) (hn : -2147483648 ≤ n ∧ n ≤ 2147483647) :
    Calls Try.prog 50 #[.int .i32 (S v), .int .i32 n] w fun e w' => e = .returned (.int .i32 (S (v.sshiftRight (n % 32).toNat))) ∧ w = w' := by
  have h := sar_any (S v) n w (S_bd v) hn
  rw [sar_S] at h; exact h
theorem rol_S (v : BitVec 32) (k : Nat) (hk : k < 32) : rolI (S v) k = S (v.rotateLeft k) := by
  unfold rolI
  rw [lowI_wrap, Int.toNat_natCast, show (32 - (k : Int)).toNat = 32 - k by omega, S_mod]
  have e1 : BitVec.ofInt 32 ((v.toNat : Int) * 2 ^ k % 4294967296) = v <<< k := by
    apply V_of_mod
    rw [BitVec.toNat_shiftLeft, Nat.shiftLeft_eq, Int.natCast_emod, Int.natCast_mul, Int.natCast_pow, Int.emod_emod_of_dvd _ (Int.dvd_refl _)]; rfl
  have e2 : BitVec.ofInt 32 ((v.toNat : Int) / 2 ^ (32 - k)) = v >>> (32 - k) := by
    apply V_of_mod
    have hlt := v.isLt
    have h0 : v.toNat / 2 ^ (32 - k) ≤ v.toNat := Nat.div_le_self _ _
    rw [BitVec.toNat_ushiftRight, Nat.shiftRight_eq_div_pow]
    have e : ((v.toNat : Int) / 2 ^ (32 - k)) = ((v.toNat / 2 ^ (32 - k) : Nat) : Int) := by rw [Int.natCast_ediv, Int.natCast_pow]; rfl
    rw [e]
    generalize v.toNat / 2 ^ (32 - k) = d at *
    omega
  show lowI (IntKind.u32.wrap (((BitVec.ofInt 32 _ ||| BitVec.ofInt 32 _ : BitVec 32)).toNat : Int)) = _
  rw [e1, e2, IntKind.wrap_u32', ← S_low, BitVec.rotateLeft_eq_rotateLeftAux_of_lt hk]
  unfold lowI BitVec.rotateLeftAux; omega
theorem rol_bv (v : BitVec 32) (n : Int) (w : World) (hn : -2147483648 ≤ n ∧ n ≤ 2147483647) :
    Calls Try.prog 52 #[.int .i32 (S v), .int .i32 n] w fun e w' => e = .returned (.int .i32 (S (v.rotateLeft (n % 32).toNat))) ∧ Below w.heap.size w w' := by
  have h := rol_any (S v) n w (S_bd v) hn
  rw [← rol_S v _ (by omega), Int.toNat_of_nonneg (by omega)]; exact h
theorem clz_bv (v : BitVec 32) (w : World) :
    Calls Try.prog 54 #[.int .i32 (S v)] w fun e w' => e = .returned (.int .i32 (32 - (Lib.bitLen v.toNat : Int))) ∧ w = w' := by
  have h := clz_any (S v) w (S_bd v)
  rw [S_mod, Int.toNat_natCast] at h; exact h
end Go.Proofs.Ytkfffpdhnmjjmab
