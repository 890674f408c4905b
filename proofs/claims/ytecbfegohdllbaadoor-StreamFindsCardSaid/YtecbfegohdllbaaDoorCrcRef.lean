/- The reference of layer 11 (crc). -/
import Derived.Test.YtecbfegohdllbaaDoorPackA
namespace Go.Proofs.YtecbfegohdllbaaDoor
open Go.RowKit
set_option linter.unusedVariables false
theorem bit_step (a b M k : Nat) (hM : M = 2 ^ k) : (a ^^^ b) % (2 * M) = (a ^^^ b) % M + if (a / M % 2 : Nat) = (b / M % 2 : Nat) then 0 else M := by
  subst hM
  have h1 : (a ^^^ b) / 2 ^ k % 2 = (a / 2 ^ k + b / 2 ^ k) % 2 := by
    rw [← Nat.shiftRight_eq_div_pow, ← Nat.shiftRight_eq_div_pow, ← Nat.shiftRight_eq_div_pow, Nat.shiftRight_xor_distrib]
    have := @Nat.xor_mod_two_eq_one (a >>> k) (b >>> k)
    omega
  have h2 := Nat.mod_mul (x := a ^^^ b) (a := 2 ^ k) (b := 2)
  rw [Nat.mul_comm 2, h2, h1]
  by_cases h : a / 2 ^ k % 2 = b / 2 ^ k % 2
  · rw [if_pos h, show (a / 2 ^ k + b / 2 ^ k) % 2 = 0 by omega, Nat.mul_zero]
  · rw [if_neg h, show (a / 2 ^ k + b / 2 ^ k) % 2 = 1 by omega, Nat.mul_one]
set_option maxRecDepth 20000 in
theorem xor_any (a b : Nat) (ha : a < 65536) (hb : b < 65536) (w : World) :
    Calls Tryd.prog 61 #[.int .i64 a, .int .i64 b] w fun e w' => e = .returned (.int .i64 ((a ^^^ b : Nat) : Int)) ∧ Below w.heap.size w w' := by
  have hx : a ^^^ b < 2 ^ 16 := Nat.xor_lt_two_pow (n := 16) ha hb
  have hB := Below.refl w.heap.size w
  go_enter Tryd.func61, Tryd.ntmps61
  go_wp2_with fail
  go_loopw [5, 6] (fun o m wr => ∃ k M : Nat, k ≤ 16 ∧ M = 2 ^ k ∧ m = .int .i64 M ∧ o = .int .i64 (((a ^^^ b) % M : Nat) : Int) ∧ Below w.heap.size w wr) (fun o m _ => 65536 - (intOf m).toNat)
  case atStart => exact ⟨0, 1, by omega, rfl, rfl, by rw [Nat.mod_one]; rfl, hB⟩
  case round =>
    obtain ⟨k, M, hk, hM, rfl, rfl, hwr⟩ := hrel
    have hM0 : 0 < M := by rw [hM]; exact Nat.two_pow_pos k
    by_cases hlt : k < 16
    · have hM1 : M < 65536 := by rw [hM]; exact (Nat.pow_lt_pow_iff_right (by decide : 1 < 2)).2 hlt
      have hs := hid (bit_step a b M k hM)
      have ho : (a ^^^ b) % M < M := Nat.mod_lt _ hM0
      have q : ∀ c : Nat, c < 65536 → (wrap64 ((c : Int) / M)).tmod 2 = ((c / M % 2 : Nat) : Int) := by
        intro c hc
        have h1 : c / M ≤ c := Nat.div_le_self _ _
        rw [show ((c : Int) / M) = ((c / M : Nat) : Int) from (Int.natCast_ediv c M).symm]
        generalize c / M = d at *
        rw [IntWalk.wrap64_in _ (by omega), Int.tmod_eq_emod_of_nonneg (by omega)]
        omega
      have qa := hid (q a ha)
      have qb := hid (q b hb)
      have HM := hid hM
      clear q
      generalize (a ^^^ b) % M = o at *
      have hM1' : (M : Int) < 65536 := by omega
      have hM0' : (0 : Int) < M := by omega
      have ho' : (o : Int) < M := by omega
      clear hM hB hx hM0 hM1 ho ha hb
      go_wp2_with fail
      go_region
      rw [qa.out, qb.out]
      by_cases hq : a / M % 2 = b / M % 2
      · have hs' := hs.out
        rw [if_pos hq] at hs'
        have hs2 := hid hs'
        rw [hq, show (((b / M % 2 : Nat) : Int) != ((b / M % 2 : Nat) : Int)) = false by simp]
        clear hs' hs hq qa qb
        generalize (b / M % 2 : Nat) = y
        go_wp2
        go_roundw
        case rel => exact ⟨k + 1, 2 * M, by omega, by rw [HM.out, Nat.pow_succ, Nat.mul_comm], by go_num, by rw [hs2.out]; rfl, hwr.drew⟩
        case measure => simp [intOf]; omega
      · have hs' := hs.out
        rw [if_neg hq] at hs'
        have hs2 := hid hs'
        rw [show (((a / M % 2 : Nat) : Int) != ((b / M % 2 : Nat) : Int)) = true by simp; omega]
        clear hs' hs hq qa qb
        generalize (b / M % 2 : Nat) = y
        generalize (a / M % 2 : Nat) = z
        go_wp2
        go_roundw
        case rel => exact ⟨k + 1, 2 * M, by omega, by rw [HM.out, Nat.pow_succ, Nat.mul_comm], by go_num, by rw [hs2.out]; go_num, hwr.drew⟩
        case measure => simp [intOf]; omega
    · obtain rfl : k = 16 := by omega
      rw [show (2 : Nat) ^ 16 = 65536 from rfl] at hM
      subst hM
      rw [Nat.mod_eq_of_lt hx]
      clear hx ha hb hB
      go_wp2
      go_ret
      exact ⟨rfl, hwr⟩
theorem ofInt16_toNat (c : Int) : ((BitVec.ofInt 16 c).toNat : Int) = c % 65536 := by
  rw [BitVec.toNat_ofInt]
  have : (0 : Int) ≤ c % 65536 := Int.emod_nonneg _ (by decide)
  simp [Int.toNat_of_nonneg this]
/-- a byte's step on any number -/
theorem step_int (c : Int) (hc : -2147483648 ≤ c ∧ c ≤ 2147483647) (b : Nat) (hb : b < 256) (w : World) (h4 : Four w) :
    Calls Tryd.prog 24 #[.int .i32 c, .int .u8 b] w fun e w' => e = .returned (.int .i32 (stepB (BitVec.ofInt 16 c) b).toNat) ∧ w = w' := by
  have e1 : bits .and .i32 c 65535 = ((BitVec.ofInt 16 c).toNat : Int) := by
    have h := and_low .i32 16 c (by decide)
    rw [show ((2:Int) ^ 16) = 65536 from rfl, show (65536 - 1 : Int) = 65535 from rfl] at h
    rw [h, ofInt16_toNat, i32wrap]; omega
  generalize BitVec.ofInt 16 c = C at *
  have hC := C.isLt
  have e2 : bits .and .u8 (b : Int) 15 = ((b % 16 : Nat) : Int) := by
    have := u8_and_nat b 15 hb (by omega)
    rw [show (15 : Int) = ((15 : Nat) : Int) from rfl, this, show (15 : Nat) = 2 ^ 4 - 1 from rfl, Nat.and_two_pow_sub_one_eq_mod]
  have e3 : (b : Int) / 16 = ((b / 16 : Nat) : Int) := by omega
  have n1 := fun w h4 => nibble_any C (b / 16) (by omega) w h4
  have n2 := fun w h4 => nibble_any (nib C (b / 16)) (b % 16) (by omega) w h4
  rw [← stepB_nibs C b hb] at n2
  rw [← e3] at n1
  have N1 := hid n1
  have N2 := hid n2
  clear n1 n2 e3
  go_enter Tryd.func24, Tryd.ntmps24
  go_wp2_with fail
  refine (N1.out _ h4).mono ?_
  rintro e w2 ⟨rfl, rfl⟩
  go_wp2_with fail
  refine (N2.out _ h4).mono ?_
  rintro e w2 ⟨rfl, rfl⟩
  go_wp2
  go_ret
  exact ⟨rfl, rfl⟩
/-- one bit after the other -/
def st : Nat → BitVec 16 → BitVec 16
  | 0, y => y
  | n + 1, y => step1 (st n y)
theorem step1_low (y : BitVec 16) (h : y.toNat < 32768) : (step1 y).toNat = 2 * y.toNat % 65536 := by
  have : y.msb = false := by rw [BitVec.msb_eq_decide]; simp; omega
  simp [step1, this, BitVec.toNat_shiftLeft, Nat.shiftLeft_eq]; omega
theorem step1_high (y : BitVec 16) (h : ¬ y.toNat < 32768) : (step1 y).toNat = (2 * y.toNat % 65536) ^^^ 4129 := by
  have : y.msb = true := by rw [BitVec.msb_eq_decide]; simp; omega
  simp [step1, this, BitVec.toNat_shiftLeft, Nat.shiftLeft_eq]
  rw [Nat.mul_comm]
set_option maxRecDepth 20000 in
theorem rstep_any (c : Int) (hc : -2147483648 ≤ c ∧ c ≤ 2147483647) (b : Nat) (hb : b < 256) (w : World) :
    Calls Tryd.prog 25 #[.int .i32 c, .int .u8 b] w fun e w' => e = .returned (.int .i32 (stepB (BitVec.ofInt 16 c) b).toNat) ∧ Below w.heap.size w w' := by
  have e1 := ofInt16_toNat c
  have e2 : (BitVec.ofInt 16 c).toNat ^^^ (256 * b) = (BitVec.ofInt 16 c ^^^ (BitVec.ofInt 16 (b : Int) <<< 8)).toNat := by
    rw [BitVec.toNat_xor, BitVec.toNat_shiftLeft, BitVec.ofInt_natCast, BitVec.toNat_ofNat, Nat.shiftLeft_eq]
    congr 1; omega
  have hst : stepB (BitVec.ofInt 16 c) b = st 8 (BitVec.ofInt 16 c ^^^ (BitVec.ofInt 16 (b : Int) <<< 8)) := rfl
  rw [hst]
  generalize (BitVec.ofInt 16 c ^^^ (BitVec.ofInt 16 (b : Int) <<< 8)) = Y at *
  generalize BitVec.ofInt 16 c = C at *
  have X0 := fun w => xor_any C.toNat (256 * b) C.isLt (by omega) w
  rw [e2, show ((256 * b : Nat) : Int) = 256 * (b : Int) by omega] at X0
  have X := hid X0
  have hB := Below.refl w.heap.size w
  have E1 := hid e1.symm
  clear e1 e2 hst X0
  have D := hid (fun (n : Nat) (h : ¬ (st n Y).toNat < 32768) (w : World) => xor_any (2 * (st n Y).toNat % 65536) 4129 (by omega) (by omega) w)
  go_enter Tryd.func25, Tryd.ntmps25
  go_wp2_with fail
  refine (mod_any _ _ _ (by omega) (by omega)).mono ?_
  rintro e w2 ⟨rfl, rfl⟩
  rw [E1.out]
  go_wp2_with fail
  refine (X.out _).mono ?_
  rintro e w2 ⟨rfl, hb⟩
  replace hB := hB.trans hb
  clear hb
  go_wp2_with fail
  go_loopw [5, 6] (fun x i wr => ∃ k : Nat, k ≤ 8 ∧ i = .int .i64 k ∧ x = .int .i64 (st k Y).toNat ∧ Below w.heap.size w wr) (fun x i _ => 8 - (intOf i).toNat)
  case atStart => exact ⟨0, by omega, rfl, rfl, hB⟩
  case round =>
    obtain ⟨k, hk, rfl, rfl, hwr⟩ := hrel
    by_cases hlt : k < 8
    · have hs : st (k + 1) Y = step1 (st k Y) := rfl
      have hy := (st k Y).isLt
      by_cases hh : (st k Y).toNat < 32768
      · have h1 := hid (hs ▸ step1_low _ hh)
        have hh' : ((st k Y).toNat : Int) < 32768 := by omega
        have q2 : (2 * ((st k Y).toNat : Int)).tmod 65536 = 2 * ((st k Y).toNat : Int) := by rw [Int.tmod_eq_emod_of_nonneg (by omega)]; omega
        have h2 : ((st (k + 1) Y).toNat : Int) = 2 * ((st k Y).toNat : Int) := by rw [h1.out]; omega
        have H2 := hid h2
        have hy0 : (0 : Int) ≤ (st k Y).toNat := by omega
        clear hh hs hB hy h1 h2
        generalize ((st k Y).toNat : Int) = y at *
        go_wp2
        go_roundw
        case rel => exact ⟨k + 1, by omega, by go_num, by rw [H2.out], hwr⟩
        case measure => simp [intOf]; omega
      · have h1 := hid (hs ▸ step1_high _ hh)
        have d := D.out k hh
        rw [← h1.out] at d
        have hh' : 32768 ≤ ((st k Y).toNat : Int) := by omega
        have hy' : ((st k Y).toNat : Int) < 65536 := by omega
        have q : ((2 * (st k Y).toNat % 65536 : Nat) : Int) = 2 * ((st k Y).toNat : Int) - 65536 := by omega
        have q2 : (2 * ((st k Y).toNat : Int)).tmod 65536 = 2 * ((st k Y).toNat : Int) - 65536 := by rw [Int.tmod_eq_emod_of_nonneg (by omega)]; omega
        rw [q] at d
        have d2 := hid d
        have hy0 : (0 : Int) ≤ (st k Y).toNat := by omega
        clear hh hs hB d q h1 hy
        generalize ((st k Y).toNat : Int) = y at *
        go_wp2_with fail
        refine (d2.out _).mono ?_
        rintro e w2 ⟨rfl, hb⟩
        replace hwr := chain hwr hb
        clear hb
        go_wp2
        go_roundw
        case rel => exact ⟨k + 1, by omega, by go_num, rfl, hwr⟩
        case measure => simp [intOf]; omega
    · obtain rfl : k = 8 := by omega
      have hy : ((st 8 Y).toNat : Int) < 65536 := by have := (st 8 Y).isLt; omega
      have hy0 : (0 : Int) ≤ (st 8 Y).toNat := by omega
      clear hB
      go_wp2
      go_ret
      exact ⟨rfl, hwr⟩
end Go.Proofs.YtecbfegohdllbaaDoor
