/- The walks of the statements of layer 2 (shift). -/
import Derived.Test.YtkfffpdhnmjjmabShiftFacts
namespace Go.Proofs.Ytkfffpdhnmjjmab
open Go.RowKit
set_option linter.unusedVariables false
set_option maxRecDepth 20000 in
set_option maxHeartbeats 1000000 in
theorem ShiftTells_walk (a0 : Int) (a1 : Int) (w0 : (Lit.int .i32 a0).wf = true) (w1 : (Lit.int .i32 a1).wf = true) (w : World) :
    Calls Try.prog 7 #[.int .i32 a0, .int .i32 a1] w fun e w' => e = .returned (.bool true) ∧ Below w.heap.size w w' := by
  have b0 := bd_i32 w0
  have b1 := bd_i32 w1
  clear w0 w1
  have hB := Below.refl w.heap.size w
  obtain ⟨v, rfl⟩ : ∃ v, a0 = S v := ⟨V a0, (S_V _ b0).symm⟩
  clear b0
  have bv := S_bd v
  go_enter Try.func7, Try.ntmps7
  go_wp2_with fail
  refine (shl_bv v a1 _ b1).mono ?_
  rintro e w2 ⟨rfl, hb⟩
  replace hB := chain hB hb; clear hb
  go_wp2_with fail
  refine (rshl_bv v a1 _ b1).mono ?_
  rintro e w2 ⟨rfl, hb⟩
  replace hB := chain hB hb; clear hb
  go_wp2_with fail
  refine (shr_bv v a1 _ b1).mono ?_
  rintro e w2 ⟨rfl, hb⟩
  replace hB := chain hB hb; clear hb
  go_wp2_with fail
  refine (rshr_bv v a1 _ b1).mono ?_
  rintro e w2 ⟨rfl, hb⟩
  replace hB := chain hB hb; clear hb
  go_wp2_with fail
  refine (sar_any (S v) a1 _ bv b1).mono ?_
  rintro e w2 ⟨rfl, rfl⟩
  go_wp2_with fail
  refine (rsar_any (S v) a1 _ bv b1).mono ?_
  rintro e w2 ⟨rfl, rfl⟩
  go_wp2_with fail
  refine (rol_bv v a1 _ b1).mono ?_
  rintro e w2 ⟨rfl, hb⟩
  replace hB := chain hB hb; clear hb
  go_wp2_with fail
  refine (rrol_bv v a1 _ b1).mono ?_
  rintro e w2 ⟨rfl, hb⟩
  replace hB := chain hB hb; clear hb
  go_wp2_with fail
  refine (clz_bv v _).mono ?_
  rintro e w2 ⟨rfl, rfl⟩
  go_wp2_with fail
  refine (rclz_bv v _).mono ?_
  rintro e w2 ⟨rfl, hb⟩
  replace hB := chain hB hb; clear hb
  go_wp2_with fail
  refine (ones_bv v _).mono ?_
  rintro e w2 ⟨rfl, hb⟩
  replace hB := chain hB hb; clear hb
  go_wp2_with fail
  refine (rones_bv v _).mono ?_
  rintro e w2 ⟨rfl, hb⟩
  replace hB := chain hB hb; clear hb
  go_wp2_with fail
  refine (turn_bv v _).mono ?_
  rintro e w2 ⟨rfl, rfl⟩
  go_wp2_with fail
  refine (rturn_bv v _).mono ?_
  rintro e w2 ⟨rfl, hb⟩
  replace hB := chain hB hb; clear hb
  go_wp2_with fail
  refine (awake02 _).mono ?_
  rintro e w2 ⟨rfl, hb⟩
  replace hB := chain hB hb; clear hb
  go_wp2
  go_ret
  exact ⟨rfl, hB⟩
set_option maxRecDepth 20000 in
set_option maxHeartbeats 1000000 in
theorem ShiftLeads_walk (a0 : Int) (w0 : (Lit.int .i32 a0).wf = true) (w : World) :
    Calls Try.prog 9 #[.int .i32 a0] w fun e w' => e = .returned (.bool true) ∧ Below w.heap.size w w' := by
  have b0 := bd_i32 w0
  clear w0
  have hB := Below.refl w.heap.size w
  obtain ⟨v, rfl⟩ : ∃ v, a0 = S v := ⟨V a0, (S_V _ b0).symm⟩
  clear b0
  have bv := S_bd v
  by_cases hz : S v = 0
  · have hl : (32 - (Lib.bitLen v.toNat : Int)) = 32 := by
      have := S_nat v
      have hlt := v.isLt
      have hn : v.toNat = 0 := by split at this <;> omega
      rw [hn]; rfl
    have hze : (S v == 0) = true := by simp [hz]
    have HL := hid hl
    clear hl hz
    go_enter Try.func9, Try.ntmps9
    go_wp2_with fail
    refine (clz_bv v _).mono ?_
    rintro e w2 ⟨rfl, rfl⟩
    rw [HL.out]
    go_wp2_with fail
    refine (awake02 _).mono ?_
    rintro e w2 ⟨rfl, hb⟩
    replace hB := chain hB hb; clear hb
    go_wp2
    go_ret
    exact ⟨rfl, hB⟩
  · obtain ⟨k, hk, hl, h1, h2, h3⟩ := lead_facts v hz
    have hze : (S v == 0) = false := by simp [hz]
    have HL := hid hl
    have H2 := hid h2
    have e31 : (31 - (k : Int)) % 32 = ((31 - k : Nat) : Int) := by omega
    have ek : (k : Int) % 32 = (k : Int) := by omega
    have SH := hid (fun w => shl_bv v (31 - (k : Int)) w (by omega))
    have SR := hid (fun w => shr_bv v (k : Int) w (by omega))
    rw [e31, Int.toNat_natCast] at SH
    rw [ek, Int.toNat_natCast, h2] at SR
    have hS1 : S 1#32 = 1 := by decide
    rw [hS1] at SR
    have h1b := S_bd (v <<< (31 - k))
    generalize S (v <<< (31 - k)) = y at *
    clear hl h2 hz e31 ek hS1
    by_cases hn : S v < 0
    · have hk0 : ((31 - (k : Int)) == 0) = true := by simp; exact h3.2 hn
      have hnd : decide (S v < 0) = true := by simp [hn]
      clear h3
      go_enter Try.func9, Try.ntmps9
      go_wp2_with fail
      refine (clz_bv v _).mono ?_
      rintro e w2 ⟨rfl, rfl⟩
      rw [HL.out]
      go_wp2_with fail
      refine (SH.out _).mono ?_
      rintro e w2 ⟨rfl, hb⟩
      replace hB := chain hB hb; clear hb
      go_wp2_with fail
      rw [show (31 - (31 - (k : Int))) = (k : Int) by omega]
      refine (SR.out _).mono ?_
      rintro e w2 ⟨rfl, hb⟩
      replace hB := chain hB hb; clear hb
      go_wp2_with fail
      refine (awake02 _).mono ?_
      rintro e w2 ⟨rfl, hb⟩
      replace hB := chain hB hb; clear hb
      go_wp2
      go_ret
      exact ⟨rfl, hB⟩
    · have hk0 : ((31 - (k : Int)) == 0) = false := by simp; exact fun e => hn (h3.1 e)
      have hnd : decide (S v < 0) = false := by simp; omega
      clear h3
      go_enter Try.func9, Try.ntmps9
      go_wp2_with fail
      refine (clz_bv v _).mono ?_
      rintro e w2 ⟨rfl, rfl⟩
      rw [HL.out]
      go_wp2_with fail
      refine (SH.out _).mono ?_
      rintro e w2 ⟨rfl, hb⟩
      replace hB := chain hB hb; clear hb
      go_wp2_with fail
      rw [show (31 - (31 - (k : Int))) = (k : Int) by omega]
      refine (SR.out _).mono ?_
      rintro e w2 ⟨rfl, hb⟩
      replace hB := chain hB hb; clear hb
      go_wp2_with fail
      refine (awake02 _).mono ?_
      rintro e w2 ⟨rfl, hb⟩
      replace hB := chain hB hb; clear hb
      go_wp2
      go_ret
      exact ⟨rfl, hB⟩
set_option maxRecDepth 20000 in
set_option maxHeartbeats 1000000 in
theorem ShiftCounts_walk (a0 : Int) (a1 : Int) (w0 : (Lit.int .i32 a0).wf = true) (w1 : (Lit.int .i32 a1).wf = true) (w : World) :
    Calls Try.prog 10 #[.int .i32 a0, .int .i32 a1] w fun e w' => e = .returned (.bool true) ∧ Below w.heap.size w w' := by
  have b0 := bd_i32 w0
  have b1 := bd_i32 w1
  clear w0 w1
  have hB := Below.refl w.heap.size w
  obtain ⟨v, rfl⟩ : ∃ v, a0 = S v := ⟨V a0, (S_V _ b0).symm⟩
  clear b0
  obtain ⟨u, rfl⟩ : ∃ u, a1 = S u := ⟨V a1, (S_V _ b1).symm⟩
  clear b1
  have bv := S_bd v
  have bu := S_bd u
  have hx : bits .xor .i32 (S v) (S u) = S (v ^^^ u) := by rw [bits_xor, V_S, V_S]
  have ha : bits .and .i32 (S v) (S u) = S (v &&& u) := by rw [bits_and, V_S, V_S]
  have hn := xor_ones v
  have c0 := sumN_bd v 32
  have c1 := sumN_bd (~~~v) 32
  have c2 := sumN_bd u 32
  have c3 := sumN_bd (v ^^^ u) 32
  have c4 := sumN_bd (v &&& u) 32
  have e1 := cnt_not v
  have e2 := cnt_both v u
  have R := hid (cnt_rev v)
  have RR := hid (rev_rev v)
  have O0 := hid (ones_bv v)
  have O1 := hid (ones_bv (~~~v))
  have O2 := hid (ones_bv u)
  have O3 := hid (ones_bv (v ^^^ u))
  have O4 := hid (ones_bv (v &&& u))
  have O5 := hid (ones_bv v.reverse)
  rw [R.out] at O5
  have T0 := hid (turn_bv v)
  have T1 := hid (turn_bv v.reverse)
  rw [RR.out] at T1
  change 0 ≤ cnt v ∧ cnt v ≤ _ at c0
  change 0 ≤ cnt (~~~v) ∧ cnt (~~~v) ≤ _ at c1
  change 0 ≤ cnt u ∧ cnt u ≤ _ at c2
  change 0 ≤ cnt (v ^^^ u) ∧ cnt (v ^^^ u) ≤ _ at c3
  change 0 ≤ cnt (v &&& u) ∧ cnt (v &&& u) ≤ _ at c4
  generalize cnt v = n0 at *
  generalize cnt (~~~v) = n1 at *
  generalize cnt u = n2 at *
  generalize cnt (v ^^^ u) = n3 at *
  generalize cnt (v &&& u) = n4 at *
  generalize S (v ^^^ u) = x3 at *
  generalize S (v &&& u) = x4 at *
  generalize S (~~~v) = x1 at *
  have q1 : (n0 + n1 == 32) = true := by simp; exact e1
  have q2 : (n0 + n2 == n3 + 2 * n4) = true := by simp; exact e2
  clear e1 e2 R RR
  go_enter Try.func10, Try.ntmps10
  go_wp2_with fail
  refine (O0.out _).mono ?_
  rintro e w2 ⟨rfl, hb⟩
  replace hB := chain hB hb; clear hb
  go_wp2_with fail
  refine (O1.out _).mono ?_
  rintro e w2 ⟨rfl, hb⟩
  replace hB := chain hB hb; clear hb
  go_wp2_with fail
  refine (T0.out _).mono ?_
  rintro e w2 ⟨rfl, rfl⟩
  go_wp2_with fail
  refine (O5.out _).mono ?_
  rintro e w2 ⟨rfl, hb⟩
  replace hB := chain hB hb; clear hb
  go_wp2_with fail
  refine (O0.out _).mono ?_
  rintro e w2 ⟨rfl, hb⟩
  replace hB := chain hB hb; clear hb
  go_wp2_with fail
  refine (T0.out _).mono ?_
  rintro e w2 ⟨rfl, rfl⟩
  go_wp2_with fail
  refine (T1.out _).mono ?_
  rintro e w2 ⟨rfl, rfl⟩
  go_wp2_with fail
  refine (O0.out _).mono ?_
  rintro e w2 ⟨rfl, hb⟩
  replace hB := chain hB hb; clear hb
  go_wp2_with fail
  refine (O2.out _).mono ?_
  rintro e w2 ⟨rfl, hb⟩
  replace hB := chain hB hb; clear hb
  go_wp2_with fail
  refine (O3.out _).mono ?_
  rintro e w2 ⟨rfl, hb⟩
  replace hB := chain hB hb; clear hb
  go_wp2_with fail
  refine (O4.out _).mono ?_
  rintro e w2 ⟨rfl, hb⟩
  replace hB := chain hB hb; clear hb
  go_wp2_with fail
  refine (awake02 _).mono ?_
  rintro e w2 ⟨rfl, hb⟩
  replace hB := chain hB hb; clear hb
  go_wp2
  go_ret
  exact ⟨rfl, hB⟩
set_option maxRecDepth 20000 in
set_option maxHeartbeats 1000000 in
theorem ShiftHalves_walk (a0 : Int) (a1 : Int) (w0 : (Lit.int .i32 a0).wf = true) (w1 : (Lit.int .i32 a1).wf = true) (w : World) :
    Calls Try.prog 11 #[.int .i32 a0, .int .i32 a1] w fun e w' => e = .returned (.bool true) ∧ Below w.heap.size w w' := by
  have b0 := bd_i32 w0
  have b1 := bd_i32 w1
  clear w0 w1
  have hB := Below.refl w.heap.size w
  obtain ⟨v, rfl⟩ : ∃ v, a0 = S v := ⟨V a0, (S_V _ b0).symm⟩
  clear b0
  have bv := S_bd v
  obtain ⟨m, hm⟩ : ∃ m : Nat, a1 % 32 = (m : Int) := ⟨(a1 % 32).toNat, by omega⟩
  have hm32 : m < 32 := by omega
  have ha := and31 a1
  rw [hm] at ha
  have SA := hid (fun w => sar_bv v a1 w b1)
  have SR := hid (fun w => shr_bv v a1 w b1)
  have SL := hid (fun w => shl_bv v a1 w b1)
  rw [hm, Int.toNat_natCast] at SA SR SL
  have P1 := hid (fun (u : BitVec 32) w => sar_bv u 1 w (by omega))
  have Q1 := hid (fun (u : BitVec 32) w => shr_bv u 1 w (by omega))
  simp only [show ((1 : Int) % 32).toNat = 1 from rfl] at P1 Q1
  clear hm b1
  go_enter Try.func11, Try.ntmps11
  go_wp2_with fail
  go_loopw [6, 7, 8, 9] (fun a b c i wr => ∃ k : Nat, k ≤ m ∧ i = .int .i32 k ∧ a = .int .i32 (S (v.sshiftRight k)) ∧ b = .int .i32 (S (v >>> k)) ∧ c = .int .i32 (S (v <<< k)) ∧ Below w.heap.size w wr) (fun _ _ _ i _ => m - (intOf i).toNat)
  case atStart => exact ⟨0, by omega, rfl, by rw [BitVec.sshiftRight_zero], by rw [BitVec.ushiftRight_zero], by rw [BitVec.shiftLeft_zero], hB⟩
  case round =>
    obtain ⟨k, hk, rfl, rfl, rfl, rfl, hwr⟩ := hrel
    clear hB
    by_cases hlt : k < m
    · have A1 := hid (P1.out (v.sshiftRight k))
      have B1 := hid (Q1.out (v >>> k))
      rw [← BitVec.sshiftRight_add] at A1
      rw [← BitVec.shiftRight_add] at B1
      have hd := double_S (v <<< k)
      rw [← BitVec.shiftLeft_add] at hd
      have bl := S_bd (v <<< k)
      generalize S (v <<< k) = y at *
      have HD := hid hd
      clear hd
      go_wp2_with fail
      refine (A1.out _).mono ?_
      rintro e w2 ⟨rfl, rfl⟩
      go_wp2_with fail
      refine (B1.out _).mono ?_
      rintro e w3 ⟨rfl, hb⟩
      replace hwr := chain hwr hb
      clear hb
      go_wp2_with fail
      go_roundw
      case rel => exact ⟨k + 1, by omega, by go_num, rfl, rfl, by rw [← HD.out], hwr⟩
      case measure => simp [intOf]; omega
    · obtain rfl : k = m := by omega
      go_wp2_with fail
      refine (SA.out _).mono ?_
      rintro e w2 ⟨rfl, rfl⟩
      go_wp2_with fail
      refine (SR.out _).mono ?_
      rintro e w3 ⟨rfl, hb⟩
      replace hwr := chain hwr hb
      clear hb
      go_wp2_with fail
      refine (SL.out _).mono ?_
      rintro e w4 ⟨rfl, hb⟩
      replace hwr := chain hwr hb
      clear hb
      go_wp2_with fail
      refine (awake02 _).mono ?_
      rintro e w5 ⟨rfl, hb⟩
      replace hwr := chain hwr hb
      go_wp2
      go_ret
      exact ⟨rfl, hwr⟩
set_option maxRecDepth 20000 in
set_option maxHeartbeats 1000000 in
theorem ShiftBack_walk (a0 : Int) (a1 : Int) (a2 : Int) (w0 : (Lit.int .i32 a0).wf = true) (w1 : (Lit.int .i32 a1).wf = true) (w2 : (Lit.int .i32 a2).wf = true) (w : World) :
    Calls Try.prog 8 #[.int .i32 a0, .int .i32 a1, .int .i32 a2] w fun e w' => e = .returned (.bool true) ∧ Below w.heap.size w w' := by
  have b0 := bd_i32 w0
  have b1 := bd_i32 w1
  have b2 := bd_i32 w2
  clear w0 w1 w2
  have hB := Below.refl w.heap.size w
  obtain ⟨v, rfl⟩ : ∃ v, a0 = S v := ⟨V a0, (S_V _ b0).symm⟩
  clear b0
  have bv := S_bd v
  obtain ⟨m, hm⟩ : ∃ m : Nat, a1 % 32 = (m : Int) := ⟨(a1 % 32).toNat, by omega⟩
  obtain ⟨j, hj⟩ : ∃ j : Nat, a2 % 32 = (j : Int) := ⟨(a2 % 32).toNat, by omega⟩
  have hm32 : m < 32 := by omega
  have hj32 : j < 32 := by omega
  have ha := and31 a1
  have hc := and31 a2
  rw [hm] at ha
  rw [hj] at hc
  have hp := pow32 m hm32
  have SL := hid (fun u w => shl_bv u a1 w b1)
  have SR := hid (fun u w => shr_bv u a1 w b1)
  have RN := hid (fun u w => rol_bv u a1 w b1)
  have RM := hid (fun u w => rol_bv u a2 w b2)
  rw [hm, Int.toNat_natCast] at SL SR RN
  rw [hj, Int.toNat_natCast] at RM
  have f1 : bits .and .i32 (S v) (wrap32 (4294967295 / 2 ^ m)) = S ((v <<< m) >>> m) := by
    rw [bits_and, V_S, lowI_wrap, lowI_V, V_S, V_ones, ← up_down]
  have f2 : bits .andNot .i32 (S v) (2 ^ m - 1) = S ((v >>> m) <<< m) := by
    rw [bits_andNot, V_S, V_low m hm32, BitVec.not_not, down_up]
  have RJ := hid (fun w => rol_bv v ((m : Int) + j) w (by omega))
  rw [show (((m : Int) + j) % 32).toNat = (m + j) % 32 by omega, ← rol_rol v m j hm32 hj32] at RJ
  have RB := hid (fun w => rol_bv (v.rotateLeft m) (32 - (m : Int)) w (by omega))
  rw [show ((32 - (m : Int)) % 32).toNat = (32 - m) % 32 by omega, rol_rol v m _ hm32 (Nat.mod_lt _ (by decide)), show (m + (32 - m) % 32) % 32 = 0 by omega, rol_zero] at RB
  have SB := hid (fun w => shr_bv v (32 - (m : Int)) w (by omega))
  rw [show ((32 - (m : Int)) % 32).toNat = (32 - m) % 32 by omega] at SB
  have R0 := hid (fun w => rol_bv (v >>> ((32 - m) % 32)) 0 w (by omega))
  simp only [show ((0 : Int) % 32).toNat = 0 from rfl] at R0
  have SN := hid (SL.out (BitVec.allOnes 32))
  rw [S_neg1] at SN
  have f3 : bits .andNot .i32 (S ((v >>> ((32 - m) % 32)).rotateLeft 0)) (S (BitVec.allOnes 32 <<< m)) = S (((v >>> ((32 - m) % 32)).rotateLeft 0) &&& ~~~(BitVec.allOnes 32 <<< m)) := by
    rw [bits_andNot, V_S, V_S]
  have f4 : bits .or .i32 (S (v <<< m)) (S (((v >>> ((32 - m) % 32)).rotateLeft 0) &&& ~~~(BitVec.allOnes 32 <<< m))) = S (v.rotateLeft m) := by
    rw [bits_or, V_S, V_S, ← rol_parts v m hm32]
  clear hm hj
  generalize S (((v >>> ((32 - m) % 32)).rotateLeft 0) &&& ~~~(BitVec.allOnes 32 <<< m)) = z3 at *
  generalize S ((v >>> ((32 - m) % 32)).rotateLeft 0) = z2 at *
  generalize S (BitVec.allOnes 32 <<< m) = z1 at *
  go_enter Try.func8, Try.ntmps8
  go_wp2_with fail
  refine (SL.out v _).mono ?_
  rintro e w2 ⟨rfl, hb⟩
  replace hB := chain hB hb; clear hb
  go_wp2_with fail
  refine (SR.out _ _).mono ?_
  rintro e w2 ⟨rfl, hb⟩
  replace hB := chain hB hb; clear hb
  go_wp2_with fail
  refine (SR.out v _).mono ?_
  rintro e w2 ⟨rfl, hb⟩
  replace hB := chain hB hb; clear hb
  go_wp2_with fail
  refine (SL.out _ _).mono ?_
  rintro e w2 ⟨rfl, hb⟩
  replace hB := chain hB hb; clear hb
  go_wp2_with fail
  refine (RN.out v _).mono ?_
  rintro e w2 ⟨rfl, hb⟩
  replace hB := chain hB hb; clear hb
  go_wp2_with fail
  refine (RM.out _ _).mono ?_
  rintro e w2 ⟨rfl, hb⟩
  replace hB := chain hB hb; clear hb
  go_wp2_with fail
  refine (RJ.out _).mono ?_
  rintro e w2 ⟨rfl, hb⟩
  replace hB := chain hB hb; clear hb
  go_wp2_with fail
  refine (RN.out v _).mono ?_
  rintro e w2 ⟨rfl, hb⟩
  replace hB := chain hB hb; clear hb
  go_wp2_with fail
  refine (RB.out _).mono ?_
  rintro e w2 ⟨rfl, hb⟩
  replace hB := chain hB hb; clear hb
  go_wp2_with fail
  refine (RN.out v _).mono ?_
  rintro e w2 ⟨rfl, hb⟩
  replace hB := chain hB hb; clear hb
  go_wp2_with fail
  refine (SL.out v _).mono ?_
  rintro e w2 ⟨rfl, hb⟩
  replace hB := chain hB hb; clear hb
  go_wp2_with fail
  refine (SB.out _).mono ?_
  rintro e w2 ⟨rfl, hb⟩
  replace hB := chain hB hb; clear hb
  go_wp2_with fail
  refine (R0.out _).mono ?_
  rintro e w2 ⟨rfl, hb⟩
  replace hB := chain hB hb; clear hb
  go_wp2_with fail
  refine (SN.out _).mono ?_
  rintro e w2 ⟨rfl, hb⟩
  replace hB := chain hB hb; clear hb
  go_wp2_with fail
  refine (awake02 _).mono ?_
  rintro e w2 ⟨rfl, hb⟩
  replace hB := chain hB hb; clear hb
  go_wp2
  go_ret
  exact ⟨rfl, hB⟩
end Go.Proofs.Ytkfffpdhnmjjmab
