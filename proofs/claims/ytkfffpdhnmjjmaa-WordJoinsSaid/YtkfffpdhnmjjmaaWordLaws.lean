/- The walks of the statements of layer 1 (word). -/
import Derived.Test.YtkfffpdhnmjjmaaWord
import Derived.Deep.QuietTactic
import Derived.BigQuiet
namespace Go.Proofs.Ytkfffpdhnmjjmaa
open Go.RowKit
set_option linter.unusedVariables false
theorem awake01 (w : World) : Calls Try.prog 34 #[] w fun e w' => e = .returned (.bool true) ∧ Below w.heap.size w w' := by
  go_enter Try.func34, Try.ntmps34
  go_wp2_with fail
  refine (from_four 0 0 1 2 w.heap.size 0 4 _ (by omega) (by omega) (by omega) (by omega) (by go_simp) (by go_simp) (by go_simp) (by go_simp)).mono ?_
  rintro e w2 ⟨rfl, rfl⟩
  rw [show lowI (((0 * 256 + 0) * 256 + 1) * 256 + 2) = 258 from by decide]
  go_wp2_with fail
  refine (low_any _ _).mono ?_
  rintro e w2 ⟨rfl, rfl⟩
  rw [show lowI 2147483648 = -2147483648 from by decide]
  go_wp2_with fail
  refine (high_any _ _ (by omega)).mono ?_
  rintro e w2 ⟨rfl, rfl⟩
  rw [show (-1 : Int) / 4294967296 = -1 from by decide]
  go_wp2_with fail
  refine (pair_any _ _ _ (by omega) (by omega)).mono ?_
  rintro e w2 ⟨rfl, rfl⟩
  rw [show halfI (256 * 255 + 254) = -2 from by decide]
  go_wp2_with fail
  refine (half_any _ _).mono ?_
  rintro e w2 ⟨rfl, rfl⟩
  rw [show halfI 65535 = -1 from by decide]
  go_wp2
  go_ret
  exact ⟨rfl, (Below.refl _ _).alloc (Nat.le_refl _) _⟩
theorem WordJoins_walk (a0 : Int) (a1 : Int) (a2 : Int) (w0 : (Lit.int .i64 a0).wf = true) (w1 : (Lit.int .i32 a1).wf = true) (w2 : (Lit.int .i32 a2).wf = true) (w : World) :
    Calls Try.prog 7 #[.int .i64 a0, .int .i32 a1, .int .i32 a2] w fun e w' => e = .returned (.bool true) ∧ Below w.heap.size w w' := by
  have b0 := bd_i64 w0
  have b1 := bd_i32 w1
  have b2 := bd_i32 w2
  clear w0 w1 w2
  have hB := Below.refl w.heap.size w
  have h0 : -2147483648 ≤ a0 / 4294967296 ∧ a0 / 4294967296 ≤ 2147483647 := by omega
  have hl := lowI_bd a0
  have t1 : (a0 / 4294967296 * 4294967296 + lowI a0 % 4294967296 == a0) = true := by simp; unfold lowI; omega
  have t2 : ((a1 * 4294967296 + a2 % 4294967296) / 4294967296 == a1) = true := by simp; omega
  have t3 : (lowI (a1 * 4294967296 + a2 % 4294967296) == a2) = true := by simp; unfold lowI; omega
  have t4 : (a1 / 2147483648 * 4294967296 + a1 % 4294967296 == a1) = true := by simp; omega
  go_enter Try.func7, Try.ntmps7
  go_wp2_with fail
  refine (join_any _ _ _ b1 b2).mono ?_
  rintro e w2 ⟨rfl, rfl⟩
  go_wp2_with fail
  refine (high_any _ _ b0).mono ?_
  rintro e w2 ⟨rfl, rfl⟩
  go_wp2_with fail
  refine (low_any _ _).mono ?_
  rintro e w2 ⟨rfl, rfl⟩
  go_wp2_with fail
  refine (join_any _ _ _ h0 hl).mono ?_
  rintro e w2 ⟨rfl, rfl⟩
  go_wp2_with fail
  refine (high_any _ _ (by omega)).mono ?_
  rintro e w2 ⟨rfl, rfl⟩
  go_wp2_with fail
  refine (low_any _ _).mono ?_
  rintro e w2 ⟨rfl, rfl⟩
  go_wp2_with fail
  refine (join_any _ _ _ (by omega) b1).mono ?_
  rintro e w2 ⟨rfl, rfl⟩
  go_wp2_with fail
  refine (awake01 _).mono ?_
  rintro e w2 ⟨rfl, hb⟩
  replace hB := chain hB hb; clear hb
  go_wp2
  go_ret
  exact ⟨rfl, hB⟩
theorem WordBack_walk (a0 : Int) (w0 : (Lit.int .i32 a0).wf = true) (w : World) :
    Calls Try.prog 14 #[.int .i32 a0] w fun e w' => e = .returned (.bool true) ∧ Below w.heap.size w w' := by
  have b0 := bd_i32 w0
  clear w0
  have hB := Below.refl w.heap.size w
  have hh := halfI_bd a0
  have t1 : (a0 == a0) = true := by simp
  have t3 : (halfI a0 == halfI a0) = true := by simp
  have t4 : (a0 / 65536 == a0 / 65536) = true := by simp
  have e1 : lowI (((a0 / 16777216 % 256 * 256 + a0 / 65536 % 256) * 256 + a0 / 256 % 256) * 256 + a0 % 256) = a0 := by unfold lowI; omega
  have e2 : halfI (256 * (a0 / 256 % 256) + a0 % 256) = halfI a0 := by unfold halfI; omega
  have e3 : halfI (256 * (a0 / 16777216 % 256) + a0 / 65536 % 256) = a0 / 65536 := by unfold halfI; omega
  have e4 : bits .and .i32 (halfI a0) 65535 = halfI a0 % 65536 := by
    have h := and_low .i32 16 (halfI a0) (by decide)
    rw [show ((2:Int) ^ 16) = 65536 from rfl, show (65536 - 1 : Int) = 65535 from rfl] at h
    rw [h, i32wrap]; omega
  have t5 : (a0 == a0 / 65536 * 65536 + halfI a0 % 65536) = true := by simp; unfold halfI; omega
  have E1 := hid e1
  have E2 := hid e2
  have E3 := hid e3
  clear e1 e2 e3
  go_enter Try.func14, Try.ntmps14
  go_wp2_with fail
  refine (bytes4_any _ _).mono ?_
  rintro e w2 ⟨b, c, rfl, hb, hc, hm, _, _, c0, c1, c2, c3⟩
  replace hB := chain hB hb; clear hb
  go_wp2_with fail
  refine (from_four _ _ _ _ _ _ _ _ (by omega) (by omega) (by omega) (by omega) c0 c1 c2 c3).mono ?_
  rintro e w3 ⟨rfl, rfl⟩
  rw [E1.out]
  go_wp2_with fail
  go_quiet ((go_at_call 51; exact Calls.quiet_of_same ((pair_any _ _ _ (by omega) (by omega)).mono fun _ _ h => ⟨h.1, h.2.symm⟩)))
  rw [E2.out, E3.out]
  replace hB : Below w.heap.size w (w2.drewN nq) := ⟨hB.os, hB.tape, hB.output, hB.size, hB.block⟩
  go_wp2_with fail
  refine (half_any _ _).mono ?_
  rintro e w3 ⟨rfl, rfl⟩
  go_wp2_with fail
  refine (awake01 _).mono ?_
  rintro e w4 ⟨rfl, hb⟩
  replace hB := chain hB hb; clear hb
  go_wp2
  go_ret
  exact ⟨rfl, hB⟩
end Go.Proofs.Ytkfffpdhnmjjmaa
