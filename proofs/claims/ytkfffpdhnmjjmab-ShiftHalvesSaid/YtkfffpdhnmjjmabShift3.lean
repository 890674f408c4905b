/- Layer 2 (shift): ones counted, bits turned, and the page's example. -/
import Derived.Test.YtkfffpdhnmjjmabShiftBv
import Derived.Test.YtkfffpdhnmjjmabCount
import Derived.Lib.Tables
import Derived.Outline
import Derived.Deep.QuietTactic
import Derived.BigQuiet
namespace Go.Proofs.Ytkfffpdhnmjjmab
open Go.RowKit
set_option linter.unusedVariables false
theorem u8_in (n : Int) (h : 0 ≤ n ∧ n ≤ 255) : IntKind.u8.wrap n = n := by
  simp [IntKind.wrap, IntKind.bits, IntKind.signed]; omega
theorem below_drewN {B : Nat} {a w : World} (h : Below B a w) (n : Nat) : Below B a (w.drewN n) := ⟨h.os, h.tape, h.output, h.size, h.block⟩
theorem ones_bv (v : BitVec 32) (w : World) :
    Calls Try.prog 56 #[.int .i32 (S v)] w fun e w' => e = .returned (.int .i32 (cnt v)) ∧ Below w.heap.size w w' := by
  have hm := S_mod v
  have hx := S_bd v
  have hlt := v.isLt
  have hc := cnt_bytes v
  have a3 : bits .and .u32 ((v.toNat : Int) / 65536) 255 = ((v.toNat / 65536 % 256 : Nat) : Int) := by
    have := and_low .u32 8 ((v.toNat : Int) / 65536) (by decide)
    rw [show ((2:Int) ^ 8 - 1) = 255 from rfl, show ((2:Int) ^ 8) = 256 from rfl, IntKind.wrap_u32'] at this
    rw [this]; omega
  have a2 : bits .and .u32 ((v.toNat : Int) / 256) 255 = ((v.toNat / 256 % 256 : Nat) : Int) := by
    have := and_low .u32 8 ((v.toNat : Int) / 256) (by decide)
    rw [show ((2:Int) ^ 8 - 1) = 255 from rfl, show ((2:Int) ^ 8) = 256 from rfl, IntKind.wrap_u32'] at this
    rw [this]; omega
  have a1 : bits .and .u32 (v.toNat : Int) 255 = ((v.toNat % 256 : Nat) : Int) := by
    have := and_low .u32 8 (v.toNat : Int) (by decide)
    rw [show ((2:Int) ^ 8 - 1) = 255 from rfl, show ((2:Int) ^ 8) = 256 from rfl, IntKind.wrap_u32'] at this
    rw [this]; omega
  have a4 : (v.toNat : Int) / 16777216 = ((v.toNat / 16777216 : Nat) : Int) := rfl
  have b4 : ((v.toNat / 16777216 : Nat) : Int) ≤ 255 := by omega
  have b3 : ((v.toNat / 65536 % 256 : Nat) : Int) ≤ 255 := by omega
  have b2 : ((v.toNat / 256 % 256 : Nat) : Int) ≤ 255 := by omega
  have b1 : ((v.toNat % 256 : Nat) : Int) ≤ 255 := by omega
  have p4 := pop8_bd ((v.toNat / 16777216 : Nat) : Int) (by omega) b4
  have p3 := pop8_bd ((v.toNat / 65536 % 256 : Nat) : Int) (by omega) b3
  have p2 := pop8_bd ((v.toNat / 256 % 256 : Nat) : Int) (by omega) b2
  have p1 := pop8_bd ((v.toNat % 256 : Nat) : Int) (by omega) b1
  have n0 : (0 : Int) ≤ v.toNat := by omega
  have n1 : (v.toNat : Int) ≤ 4294967295 := by omega
  have c4 : (0 : Int) ≤ ((v.toNat / 16777216 : Nat) : Int) := by omega
  have c3 : (0 : Int) ≤ ((v.toNat / 65536 % 256 : Nat) : Int) := by omega
  have c2 : (0 : Int) ≤ ((v.toNat / 256 % 256 : Nat) : Int) := by omega
  have c1 : (0 : Int) ≤ ((v.toNat % 256 : Nat) : Int) := by omega
  generalize ((v.toNat / 16777216 : Nat) : Int) = z4 at *
  generalize ((v.toNat / 65536 % 256 : Nat) : Int) = z3 at *
  generalize ((v.toNat / 256 % 256 : Nat) : Int) = z2 at *
  generalize ((v.toNat % 256 : Nat) : Int) = z1 at *
  generalize (v.toNat : Int) = y at *
  generalize S v = x at *
  have HC := hid hc
  clear hc hlt
  have e1 := u8_in (Lib.pop8 z4 + Lib.pop8 z3) (by omega)
  have e2 := u8_in (Lib.pop8 z4 + Lib.pop8 z3 + Lib.pop8 z2) (by omega)
  have e3 := u8_in (Lib.pop8 z4 + Lib.pop8 z3 + Lib.pop8 z2 + Lib.pop8 z1) (by omega)
  have e4 : 0 ≤ Lib.pop8 z4 + Lib.pop8 z3 + Lib.pop8 z2 + Lib.pop8 z1 ∧ Lib.pop8 z4 + Lib.pop8 z3 + Lib.pop8 z2 + Lib.pop8 z1 ≤ 32 := by omega
  go_enter Try.func56, Try.ntmps56
  go_wp2_with (go_at_call 81; go_in)
  go_quiet (fail)
  go_wp2
  go_ret
  exact ⟨ret_int (by rw [HC.out]), below_drewN (Below.refl _ _) _⟩
theorem ub_and (a b : Int) : bits .and .u32 a b = ((V a &&& V b).toNat : Int) := by
  show IntKind.u32.wrap (((V a &&& V b).toNat : Nat) : Int) = _
  rw [IntKind.wrap_u32']; have := (V a &&& V b).isLt; omega
theorem ub_or (a b : Int) : bits .or .u32 a b = ((V a ||| V b).toNat : Int) := by
  show IntKind.u32.wrap (((V a ||| V b).toNat : Nat) : Int) = _
  rw [IntKind.wrap_u32']; have := (V a ||| V b).isLt; omega
theorem V_toNat (v : BitVec 32) : V (v.toNat : Int) = v := V_of_mod _ _ (by have := v.isLt; omega)
theorem V_shr (v : BitVec 32) (s : Nat) : V ((v.toNat : Int) / 2 ^ s) = v >>> s := V_of_mod _ _ (by
  have hlt := v.isLt
  have h0 : v.toNat / 2 ^ s ≤ v.toNat := Nat.div_le_self _ _
  rw [BitVec.toNat_ushiftRight, Nat.shiftRight_eq_div_pow]
  have e : ((v.toNat : Int) / 2 ^ s) = ((v.toNat / 2 ^ s : Nat) : Int) := by rw [Int.natCast_ediv, Int.natCast_pow]; rfl
  rw [e]
  generalize v.toNat / 2 ^ s = d at *
  omega)
theorem V_shl (v : BitVec 32) (s : Nat) : V ((v.toNat : Int) * 2 ^ s % 4294967296) = v <<< s := V_of_mod _ _ (by
  rw [BitVec.toNat_shiftLeft, Nat.shiftLeft_eq, Int.natCast_emod, Int.natCast_mul, Int.natCast_pow, Int.emod_emod_of_dvd _ (Int.dvd_refl _)]; rfl)
theorem stage_u32 (v : BitVec 32) (s : Nat) (M : Int) : bits .or .u32 (bits .and .u32 ((v.toNat : Int) / 2 ^ s) M) (bits .and .u32 (v.toNat : Int) M * 2 ^ s % 4294967296) = ((((v >>> s) &&& V M) ||| ((v &&& V M) <<< s)).toNat : Int) := by
  rw [ub_or, ub_and, ub_and, V_toNat, V_shr, V_toNat, V_shl]
theorem last_u32 (v : BitVec 32) : bits .or .u32 ((v.toNat : Int) / 65536) ((v.toNat : Int) * 65536 % 4294967296) = ((rev16 v).toNat : Int) := by
  have h1 := V_shr v 16
  have h2 := V_shl v 16
  rw [show ((2 : Int) ^ 16) = 65536 from rfl] at h1 h2
  rw [ub_or, h1, h2]; rfl
set_option maxRecDepth 20000 in
theorem turn_bv (v : BitVec 32) (w : World) :
    Calls Try.prog 58 #[.int .i32 (S v)] w fun e w' => e = .returned (.int .i32 (S v.reverse)) ∧ w = w' := by
  have hm := S_mod v
  have hx := S_bd v
  have bd : ∀ u : BitVec 32, (0 : Int) ≤ u.toNat ∧ (u.toNat : Int) ≤ 4294967295 := fun u => by have := u.isLt; omega
  have s1 : bits .or .u32 (bits .and .u32 ((v.toNat : Int) / 2) 1431655765) (bits .and .u32 (v.toNat : Int) 1431655765 * 2 % 4294967296) = ((rev1 v).toNat : Int) := stage_u32 v 1 1431655765
  have s2 : bits .or .u32 (bits .and .u32 (((rev1 v).toNat : Int) / 4) 858993459) (bits .and .u32 ((rev1 v).toNat : Int) 858993459 * 4 % 4294967296) = ((rev2 (rev1 v)).toNat : Int) := stage_u32 (rev1 v) 2 858993459
  have s3 : bits .or .u32 (bits .and .u32 (((rev2 (rev1 v)).toNat : Int) / 16) 252645135) (bits .and .u32 ((rev2 (rev1 v)).toNat : Int) 252645135 * 16 % 4294967296) = ((rev4 (rev2 (rev1 v))).toNat : Int) := stage_u32 (rev2 (rev1 v)) 4 252645135
  have s4 : bits .or .u32 (bits .and .u32 (((rev4 (rev2 (rev1 v))).toNat : Int) / 256) 16711935) (bits .and .u32 ((rev4 (rev2 (rev1 v))).toNat : Int) 16711935 * 256 % 4294967296) = ((rev8 (rev4 (rev2 (rev1 v)))).toNat : Int) := stage_u32 (rev4 (rev2 (rev1 v))) 8 16711935
  have s5 := last_u32 (rev8 (rev4 (rev2 (rev1 v))))
  rw [rev_all] at s5
  have HR := hid (S_low v.reverse)
  have b0 := bd v
  have b1 := bd (rev1 v)
  have b2 := bd (rev2 (rev1 v))
  have b3 := bd (rev4 (rev2 (rev1 v)))
  have b4 := bd (rev8 (rev4 (rev2 (rev1 v))))
  have b5 := bd v.reverse
  clear bd
  generalize hr : (v.reverse.toNat : Int) = y5 at *
  have HR2 := hid hr
  clear hr
  generalize ((rev8 (rev4 (rev2 (rev1 v)))).toNat : Int) = y4 at *
  generalize ((rev4 (rev2 (rev1 v))).toNat : Int) = y3 at *
  generalize ((rev2 (rev1 v)).toNat : Int) = y2 at *
  generalize ((rev1 v).toNat : Int) = y1 at *
  generalize (v.toNat : Int) = y at *
  generalize S v = x at *
  go_enter Try.func58, Try.ntmps58
  go_wp2_with (first | (go_at_call 82; go_in) | (go_at_call 85; go_in))
  go_ret
  exact ⟨ret_int (by rw [← HR.out, lowI_wrap]), rfl⟩
theorem awake02 (w : World) : Calls Try.prog 60 #[] w fun e w' => e = .returned (.bool true) ∧ Below w.heap.size w w' := by
  have hB := Below.refl w.heap.size w
  go_enter Try.func60, Try.ntmps60
  go_wp2_with fail
  refine (sar_any _ _ _ (by omega) (by omega)).mono ?_
  rintro e w2 ⟨rfl, rfl⟩
  rw [show ((-3 : Int) / 2 ^ ((1 : Int) % 32).toNat) = -2 from by decide]
  go_wp2_with fail
  refine (shr_any _ _ _ (by omega) (by omega)).mono ?_
  rintro e w2 ⟨rfl, hb⟩
  replace hB := chain hB hb
  rw [show lowI ((-1 : Int) % 4294967296 / 2 ^ ((28 : Int) % 32).toNat) = 15 from by decide]
  go_wp2_with fail
  refine (rol_any _ _ _ (by omega) (by omega)).mono ?_
  rintro e w3 ⟨rfl, hb⟩
  replace hB := chain hB hb
  rw [show rolI (-2147483648) ((1 : Int) % 32) = 1 from by decide +kernel]
  go_wp2_with fail
  refine (clz_any _ _ (by omega)).mono ?_
  rintro e w4 ⟨rfl, rfl⟩
  rw [show ((32 : Int) - (Lib.bitLen ((1 : Int) % 4294967296).toNat : Int)) = 31 from by decide]
  go_wp2_with fail
  refine (shl_any _ _ _ (by omega) (by omega)).mono ?_
  rintro e w4 ⟨rfl, hb⟩
  replace hB := chain hB hb
  rw [show lowI ((1 : Int) * 2 ^ ((33 : Int) % 32).toNat) = 2 from by decide]
  go_wp2_with fail
  refine (ones_bv 7#32 _).mono ?_
  rintro e w5 ⟨rfl, hb⟩
  replace hB := chain hB hb
  rw [show cnt 7#32 = 3 from by decide +kernel]
  go_wp2_with fail
  refine (turn_bv 1#32 _).mono ?_
  rintro e w6 ⟨rfl, rfl⟩
  rw [show S (BitVec.reverse 1#32) = -2147483648 from by decide +kernel]
  go_wp2
  go_ret
  exact ⟨rfl, hB⟩
end Go.Proofs.Ytkfffpdhnmjjmab
