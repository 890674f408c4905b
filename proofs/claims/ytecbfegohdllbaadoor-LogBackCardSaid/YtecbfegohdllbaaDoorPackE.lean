/- Texts of this proof, merged: CrcRef CrcNought CrcOpen CrcTells CrcBits CrcBursts. -/
import Derived.Test.YtecbfegohdllbaaDoorPackA
section
/- The reference of layer 11 (crc). -/
namespace Go.Proofs.YtecbfegohdllbaaDoor
open Go.RowKit
set_option linter.unusedVariables false
theorem bit_step (a b M k : Nat) (hM : M = 2 ^ k) : (a ^^^ b) % (2 * M) = (a ^^^ b) % M + if (a / M % 2 : Nat) = (b / M % 2 : Nat) then 0 else M := by
  subst hM
  have h1 : (a ^^^ b) / 2 ^ k % 2 = (a / 2 ^ k + b / 2 ^ k) % 2 := by
    rw [← Nat.shiftRight_eq_div_pow, ← Nat.shiftRight_eq_div_pow, ← Nat.shiftRight_eq_div_pow, Nat.shiftRight_xor_distrib]
    have := @Nat.xor_mod_two_eq_one (a >>> k) (b >>> k)
    omega
  have h2 := Nat.mod_mul (x := a ^^^ b) (a := 2 ^ k) (b := 2)
  rw [Nat.mul_comm 2, h2, h1]
  by_cases h : a / 2 ^ k % 2 = b / 2 ^ k % 2
  · rw [if_pos h, show (a / 2 ^ k + b / 2 ^ k) % 2 = 0 by omega, Nat.mul_zero]
  · rw [if_neg h, show (a / 2 ^ k + b / 2 ^ k) % 2 = 1 by omega, Nat.mul_one]
set_option maxRecDepth 20000 in
theorem xor_any (a b : Nat) (ha : a < 65536) (hb : b < 65536) (w : World) :
    Calls Tryd.prog 61 #[.int .i64 a, .int .i64 b] w fun e w' => e = .returned (.int .i64 ((a ^^^ b : Nat) : Int)) ∧ Below w.heap.size w w' := by
  have hx : a ^^^ b < 2 ^ 16 := Nat.xor_lt_two_pow (n := 16) ha hb
  have hB := Below.refl w.heap.size w
  go_enter Tryd.func61, Tryd.ntmps61
  go_wp2_with fail
  go_loopw [5, 6] (fun o m wr => ∃ k M : Nat, k ≤ 16 ∧ M = 2 ^ k ∧ m = .int .i64 M ∧ o = .int .i64 (((a ^^^ b) % M : Nat) : Int) ∧ Below w.heap.size w wr) (fun o m _ => 65536 - (intOf m).toNat)
  case atStart => exact ⟨0, 1, by omega, rfl, rfl, by rw [Nat.mod_one]; rfl, hB⟩
  case round =>
    obtain ⟨k, M, hk, hM, rfl, rfl, hwr⟩ := hrel
    have hM0 : 0 < M := by rw [hM]; exact Nat.two_pow_pos k
    by_cases hlt : k < 16
    · have hM1 : M < 65536 := by rw [hM]; exact (Nat.pow_lt_pow_iff_right (by decide : 1 < 2)).2 hlt
      have hs := hid (bit_step a b M k hM)
      have ho : (a ^^^ b) % M < M := Nat.mod_lt _ hM0
      have q : ∀ c : Nat, c < 65536 → (wrap64 ((c : Int) / M)).tmod 2 = ((c / M % 2 : Nat) : Int) := by
        intro c hc
        have h1 : c / M ≤ c := Nat.div_le_self _ _
        rw [show ((c : Int) / M) = ((c / M : Nat) : Int) from (Int.natCast_ediv c M).symm]
        generalize c / M = d at *
        rw [IntWalk.wrap64_in _ (by omega), Int.tmod_eq_emod_of_nonneg (by omega)]
        omega
      have qa := hid (q a ha)
      have qb := hid (q b hb)
      have HM := hid hM
      clear q
      generalize (a ^^^ b) % M = o at *
      have hM1' : (M : Int) < 65536 := by omega
      have hM0' : (0 : Int) < M := by omega
      have ho' : (o : Int) < M := by omega
      clear hM hB hx hM0 hM1 ho ha hb
      go_wp2_with fail
      go_region
      rw [qa.out, qb.out]
      by_cases hq : a / M % 2 = b / M % 2
      · have hs' := hs.out
        rw [if_pos hq] at hs'
        have hs2 := hid hs'
        rw [hq, show (((b / M % 2 : Nat) : Int) != ((b / M % 2 : Nat) : Int)) = false by simp]
        clear hs' hs hq qa qb
        generalize (b / M % 2 : Nat) = y
        go_wp2
        go_roundw
        case rel => exact ⟨k + 1, 2 * M, by omega, by rw [HM.out, Nat.pow_succ, Nat.mul_comm], by go_num, by rw [hs2.out]; rfl, hwr.drew⟩
        case measure => simp [intOf]; omega
      · have hs' := hs.out
        rw [if_neg hq] at hs'
        have hs2 := hid hs'
        rw [show (((a / M % 2 : Nat) : Int) != ((b / M % 2 : Nat) : Int)) = true by simp; omega]
        clear hs' hs hq qa qb
        generalize (b / M % 2 : Nat) = y
        generalize (a / M % 2 : Nat) = z
        go_wp2
        go_roundw
        case rel => exact ⟨k + 1, 2 * M, by omega, by rw [HM.out, Nat.pow_succ, Nat.mul_comm], by go_num, by rw [hs2.out]; go_num, hwr.drew⟩
        case measure => simp [intOf]; omega
    · obtain rfl : k = 16 := by omega
      rw [show (2 : Nat) ^ 16 = 65536 from rfl] at hM
      subst hM
      rw [Nat.mod_eq_of_lt hx]
      clear hx ha hb hB
      go_wp2
      go_ret
      exact ⟨rfl, hwr⟩
theorem ofInt16_toNat (c : Int) : ((BitVec.ofInt 16 c).toNat : Int) = c % 65536 := by
  rw [BitVec.toNat_ofInt]
  have : (0 : Int) ≤ c % 65536 := Int.emod_nonneg _ (by decide)
  simp [Int.toNat_of_nonneg this]
/-- a byte's step on any number -/
theorem step_int (c : Int) (hc : -2147483648 ≤ c ∧ c ≤ 2147483647) (b : Nat) (hb : b < 256) (w : World) (h4 : Four w) :
    Calls Tryd.prog 24 #[.int .i32 c, .int .u8 b] w fun e w' => e = .returned (.int .i32 (stepB (BitVec.ofInt 16 c) b).toNat) ∧ w = w' := by
  have e1 : bits .and .i32 c 65535 = ((BitVec.ofInt 16 c).toNat : Int) := by
    have h := and_low .i32 16 c (by decide)
    rw [show ((2:Int) ^ 16) = 65536 from rfl, show (65536 - 1 : Int) = 65535 from rfl] at h
    rw [h, ofInt16_toNat, i32wrap]; omega
  generalize BitVec.ofInt 16 c = C at *
  have hC := C.isLt
  have e2 : bits .and .u8 (b : Int) 15 = ((b % 16 : Nat) : Int) := by
    have := u8_and_nat b 15 hb (by omega)
    rw [show (15 : Int) = ((15 : Nat) : Int) from rfl, this, show (15 : Nat) = 2 ^ 4 - 1 from rfl, Nat.and_two_pow_sub_one_eq_mod]
  have e3 : (b : Int) / 16 = ((b / 16 : Nat) : Int) := by omega
  have n1 := fun w h4 => nibble_any C (b / 16) (by omega) w h4
  have n2 := fun w h4 => nibble_any (nib C (b / 16)) (b % 16) (by omega) w h4
  rw [← stepB_nibs C b hb] at n2
  rw [← e3] at n1
  have N1 := hid n1
  have N2 := hid n2
  clear n1 n2 e3
  go_enter Tryd.func24, Tryd.ntmps24
  go_wp2_with fail
  refine (N1.out _ h4).mono ?_
  rintro e w2 ⟨rfl, rfl⟩
  go_wp2_with fail
  refine (N2.out _ h4).mono ?_
  rintro e w2 ⟨rfl, rfl⟩
  go_wp2
  go_ret
  exact ⟨rfl, rfl⟩
/-- one bit after the other -/
def st : Nat → BitVec 16 → BitVec 16
  | 0, y => y
  | n + 1, y => step1 (st n y)
theorem step1_low (y : BitVec 16) (h : y.toNat < 32768) : (step1 y).toNat = 2 * y.toNat % 65536 := by
  have : y.msb = false := by rw [BitVec.msb_eq_decide]; simp; omega
  simp [step1, this, BitVec.toNat_shiftLeft, Nat.shiftLeft_eq]; omega
theorem step1_high (y : BitVec 16) (h : ¬ y.toNat < 32768) : (step1 y).toNat = (2 * y.toNat % 65536) ^^^ 4129 := by
  have : y.msb = true := by rw [BitVec.msb_eq_decide]; simp; omega
  simp [step1, this, BitVec.toNat_shiftLeft, Nat.shiftLeft_eq]
  rw [Nat.mul_comm]
set_option maxRecDepth 20000 in
theorem rstep_any (c : Int) (hc : -2147483648 ≤ c ∧ c ≤ 2147483647) (b : Nat) (hb : b < 256) (w : World) :
    Calls Tryd.prog 25 #[.int .i32 c, .int .u8 b] w fun e w' => e = .returned (.int .i32 (stepB (BitVec.ofInt 16 c) b).toNat) ∧ Below w.heap.size w w' := by
  have e1 := ofInt16_toNat c
  have e2 : (BitVec.ofInt 16 c).toNat ^^^ (256 * b) = (BitVec.ofInt 16 c ^^^ (BitVec.ofInt 16 (b : Int) <<< 8)).toNat := by
    rw [BitVec.toNat_xor, BitVec.toNat_shiftLeft, BitVec.ofInt_natCast, BitVec.toNat_ofNat, Nat.shiftLeft_eq]
    congr 1; omega
  have hst : stepB (BitVec.ofInt 16 c) b = st 8 (BitVec.ofInt 16 c ^^^ (BitVec.ofInt 16 (b : Int) <<< 8)) := rfl
  rw [hst]
  generalize (BitVec.ofInt 16 c ^^^ (BitVec.ofInt 16 (b : Int) <<< 8)) = Y at *
  generalize BitVec.ofInt 16 c = C at *
  have X0 := fun w => xor_any C.toNat (256 * b) C.isLt (by omega) w
  rw [e2, show ((256 * b : Nat) : Int) = 256 * (b : Int) by omega] at X0
  have X := hid X0
  have hB := Below.refl w.heap.size w
  have E1 := hid e1.symm
  clear e1 e2 hst X0
  have D := hid (fun (n : Nat) (h : ¬ (st n Y).toNat < 32768) (w : World) => xor_any (2 * (st n Y).toNat % 65536) 4129 (by omega) (by omega) w)
  go_enter Tryd.func25, Tryd.ntmps25
  go_wp2_with fail
  refine (mod_any _ _ _ (by omega) (by omega)).mono ?_
  rintro e w2 ⟨rfl, rfl⟩
  rw [E1.out]
  go_wp2_with fail
  refine (X.out _).mono ?_
  rintro e w2 ⟨rfl, hb⟩
  replace hB := hB.trans hb
  clear hb
  go_wp2_with fail
  go_loopw [5, 6] (fun x i wr => ∃ k : Nat, k ≤ 8 ∧ i = .int .i64 k ∧ x = .int .i64 (st k Y).toNat ∧ Below w.heap.size w wr) (fun x i _ => 8 - (intOf i).toNat)
  case atStart => exact ⟨0, by omega, rfl, rfl, hB⟩
  case round =>
    obtain ⟨k, hk, rfl, rfl, hwr⟩ := hrel
    by_cases hlt : k < 8
    · have hs : st (k + 1) Y = step1 (st k Y) := rfl
      have hy := (st k Y).isLt
      by_cases hh : (st k Y).toNat < 32768
      · have h1 := hid (hs ▸ step1_low _ hh)
        have hh' : ((st k Y).toNat : Int) < 32768 := by omega
        have q2 : (2 * ((st k Y).toNat : Int)).tmod 65536 = 2 * ((st k Y).toNat : Int) := by rw [Int.tmod_eq_emod_of_nonneg (by omega)]; omega
        have h2 : ((st (k + 1) Y).toNat : Int) = 2 * ((st k Y).toNat : Int) := by rw [h1.out]; omega
        have H2 := hid h2
        have hy0 : (0 : Int) ≤ (st k Y).toNat := by omega
        clear hh hs hB hy h1 h2
        generalize ((st k Y).toNat : Int) = y at *
        go_wp2
        go_roundw
        case rel => exact ⟨k + 1, by omega, by go_num, by rw [H2.out], hwr⟩
        case measure => simp [intOf]; omega
      · have h1 := hid (hs ▸ step1_high _ hh)
        have d := D.out k hh
        rw [← h1.out] at d
        have hh' : 32768 ≤ ((st k Y).toNat : Int) := by omega
        have hy' : ((st k Y).toNat : Int) < 65536 := by omega
        have q : ((2 * (st k Y).toNat % 65536 : Nat) : Int) = 2 * ((st k Y).toNat : Int) - 65536 := by omega
        have q2 : (2 * ((st k Y).toNat : Int)).tmod 65536 = 2 * ((st k Y).toNat : Int) - 65536 := by rw [Int.tmod_eq_emod_of_nonneg (by omega)]; omega
        rw [q] at d
        have d2 := hid d
        have hy0 : (0 : Int) ≤ (st k Y).toNat := by omega
        clear hh hs hB d q h1 hy
        generalize ((st k Y).toNat : Int) = y at *
        go_wp2_with fail
        refine (d2.out _).mono ?_
        rintro e w2 ⟨rfl, hb⟩
        replace hwr := chain hwr hb
        clear hb
        go_wp2
        go_roundw
        case rel => exact ⟨k + 1, by omega, by go_num, rfl, hwr⟩
        case measure => simp [intOf]; omega
    · obtain rfl : k = 8 := by omega
      have hy : ((st 8 Y).toNat : Int) < 65536 := by have := (st 8 Y).isLt; omega
      have hy0 : (0 : Int) ≤ (st 8 Y).toNat := by omega
      clear hB
      go_wp2
      go_ret
      exact ⟨rfl, hwr⟩
end Go.Proofs.YtecbfegohdllbaaDoor
end
section
/- The walk of the statement of layer 11 (crc) on what is left of sealed bytes. -/
namespace Go.Proofs.YtecbfegohdllbaaDoor
open Go.RowKit
set_option linter.unusedVariables false
theorem u8_wf {x : Int} (h0 : 0 ≤ x) (h1 : x ≤ 255) : (Lit.int .u8 x).wf = true := by
  simp [Lit.wf, IntKind.min, IntKind.max, IntKind.signed, IntKind.bits]; omega
theorem sealL_wf {l : List Int} (h : ∀ x ∈ l, (Lit.int .u8 x).wf = true) : ∀ x ∈ sealL l, (Lit.int .u8 x).wf = true := by
  intro x hx
  have := hiB_bd (crcOf l); have := loB_bd (crcOf l)
  unfold sealL at hx
  simp at hx
  rcases hx with hx | rfl | rfl
  · exact h x hx
  · apply u8_wf <;> omega
  · apply u8_wf <;> omega
theorem Reads.wf {k : IntKind} {w : World} {v : Value} {l : List Int} (h : Reads k w v l) : ∀ x ∈ l, (Lit.int k x).wf = true := by
  obtain ⟨_, _, _, _, _, h3, _⟩ := h; exact h3
set_option maxRecDepth 20000 in
set_option maxHeartbeats 1000000 in
theorem CrcNought_walk (a0 : Option Addr) (len0 cap0 : Nat) (z0 : List Int) (a1 : Option Addr) (len1 cap1 : Nat) (z1 : List Int) (w : World) (w0 : IsRow .u8 w a0 len0 cap0 z0) (w1 : IsRow .u8 w a1 len1 cap1 z1) (h4 : Four w) :
    Calls Tryd.prog 6 #[.slice a0 len0 cap0, .slice a1 len1 cap1] w fun e w' => e = .returned (.bool true) ∧ Below w.heap.size w w' := by
  obtain ⟨e0, r0⟩ := w0.reads
  obtain ⟨e1, r1⟩ := w1.reads
  generalize z0.take len0 = A at *
  generalize z1.take len1 = C at *
  clear w0 w1
  have f0 := hid r0.wf
  have f1 := hid r1.wf
  have R0 := hid (fun w' (hb : Below w.heap.size w w') => r0.later hb)
  have R1 := hid (fun w' (hb : Below w.heap.size w w') => r1.later hb)
  have H4 := hid (fun w' (hb : Below w.heap.size w w') => h4.later hb)
  have OF := hid (of_any (.slice a0 len0 cap0) A w r0 h4)
  obtain ⟨i0, hi, hz0, hz1, hz2⟩ := info_parts Tryd.infoU8
  by_cases g0 : 600 < len0
  · go_enter Tryd.func6, Tryd.ntmps6
    clear r0 r1
    go_wp2_with fail
    refine (awake11 _ h4).mono ?_
    rintro e w2 ⟨rfl, hb⟩
    go_wp2
    go_ret
    exact ⟨rfl, hb⟩
  by_cases g1 : 600 < len1
  · go_enter Tryd.func6, Tryd.ntmps6
    clear r0 r1
    go_wp2_with fail
    refine (awake11 _ h4).mono ?_
    rintro e w2 ⟨rfl, hb⟩
    go_wp2
    go_ret
    exact ⟨rfl, hb⟩
  clear h4
  have e0' := hid e0
  have e1' := hid e1
  have SE := hid (fun w' hb => seal_any _ _ w' (R0.out w' hb) (H4.out w' hb) (by rw [e0]; omega))
  have RP := hid (fun (h : 0 < len1) => r1.plain (by omega))
  clear r0 r1 e0 e1
  go_enter Tryd.func6, Tryd.ntmps6
  go_wp2_with fail
  refine OF.out.mono ?_
  rintro e w2 ⟨rfl, hb⟩
  go_wp2_with fail
  go_loopw [5, 6] (fun c i wr => ∃ k : Nat, k ≤ len1 ∧ i = .int .i64 k ∧ c = .int .i32 (crcFrom (crcOf A) (C.take k)).toNat ∧ Below w.heap.size w wr) (fun c i _ => len1 - (intOf i).toNat)
  case atStart => exact ⟨0, Nat.zero_le _, rfl, rfl, hb⟩
  case round =>
    obtain ⟨k, hk, rfl, rfl, hwr⟩ := hrel
    by_cases hlt : k < len1
    · obtain ⟨b, off, cap, hv, h1, h2, hlt1, hcell⟩ := RP.out (by omega)
      have hL := e1'.out
      obtain ⟨rfl, hq, rfl⟩ := Value.slice.inj hv
      have hkc : wr.cell? ⟨b, off + k, none⟩ = some (.int .u8 C[k]) := (hwr.cell (p := ⟨b, off + k, none⟩) hlt1).trans (hcell k (by omega))
      have hx := bd_u8 (f1.out C[k] (List.getElem_mem (by omega)))
      obtain ⟨x, hxx⟩ : ∃ x : Nat, C[k] = (x : Int) := ⟨C[k].toNat, by omega⟩
      have hs := crc_snoc (crcOf A) C k (by omega)
      rw [hxx] at hkc hs hx
      have ST := hid (step_any (crcFrom (crcOf A) (C.take k)) x (by omega) wr (H4.out _ hwr))
      rw [← hs] at ST
      have h2' : len1 ≤ 9223372036854775807 := by unfold maxLen at h2; omega
      clear hs hxx hcell hv h1 h2 hL hb hq
      go_wp2_with fail
      refine ST.out.mono ?_
      rintro e w3 ⟨rfl, rfl⟩
      go_wp2
      go_roundw
      case rel => exact ⟨k + 1, by omega, by go_num, rfl, hwr⟩
      case measure => simp [intOf]; omega
    · obtain rfl : k = len1 := by omega
      have hT : C.take k = C := by rw [← e1'.out]; exact List.take_length
      rw [hT, ← crc_append]
      clear hb
      go_wp2_with fail
      refine (SE.out _ hwr).mono ?_
      rintro e w3 ⟨v1, rfl, hb, hown⟩
      have hr1 : Reads .u8 w3 v1 (sealL A) := reads_of_owns hown (sealL_wf f0.out)
      clear hown
      replace hB := chain hwr hb
      clear hb hwr
      go_wp2_with fail
      refine (of_any _ _ _ hr1 (H4.out _ hB)).mono ?_
      rintro e w4 ⟨rfl, hb⟩
      replace hB := chain hB hb
      clear hb hr1
      rw [crc_seal]
      have hL0 := e0'.out
      have hL1 := e1'.out
      have hR0 := hid (R0.out _ (hB.alloc hB.size (.cells #[] 5)))
      have hsz := hB.size
      go_wp2_with (at_builtin; refine wpList_unguard rfl ?_; refine wpList_append_reads rfl _ _ 22 rfl w.heap.size 5 i0 (.int .u8 0) .u8 1 Tryd.underlying22 hi hz0 hz1 hz2 rfl _ _ _ rfl (ownsRow_empty ?cs ?c0) (.slice a0 len0 cap0) A rfl ?c1 ?c2 ?c3 ?c4 ?_)
      case cs => rfl
      case c0 => exact hsz
      case c1 => exact hR0.out
      case c2 => simp [maxLen]; omega
      case c3 => omega
      case c4 => simp; omega
      intro v2 w5 hown2 hg2
      have hb2 : Below w.heap.size w w5 := (hB.alloc hB.size _).grown hg2 (by simp; omega) (fun k e => by simp [Value.ownBlock] at e; omega)
      have hsz2 := hb2.size
      have hR1 := hid (R1.out _ hb2)
      clear hB hsz hR0 hg2
      go_wp2_with (at_builtin; refine wpList_unguard rfl ?_; refine wpList_append_reads rfl _ _ 22 rfl w.heap.size 5 i0 (.int .u8 0) .u8 1 Tryd.underlying22 hi hz0 hz1 hz2 rfl _ _ _ rfl hown2 (.slice a1 k cap1) C rfl ?d1 ?d2 ?d3 ?d4 ?_)
      case d1 => exact hR1.out
      case d2 => simp [maxLen]; omega
      case d3 => omega
      case d4 => omega
      intro v3 w6 hown3 hg3
      have hb3 : Below w.heap.size w w6 := hb2.grown hg3 (by omega) (fun k e => (hown2.lt k e).1)
      have hr3 : Reads .u8 w6 v3 (A ++ C) := reads_of_owns (by simpa [vU8] using hown3) (fun x hx => (List.mem_append.1 hx).elim (f0.out x) (f1.out x))
      clear hown2 hown3 hg3 hb2 hsz2 hR1
      go_wp2_with fail
      refine (of_any _ _ _ hr3 (H4.out _ hb3)).mono ?_
      rintro e w7 ⟨rfl, hb⟩
      replace hb3 := chain hb3 hb
      clear hb hr3
      generalize crcOf (A ++ C) = D
      have hD : (D.toNat : Int) < 65536 := by have := D.isLt; omega
      have hD0 : (0 : Int) ≤ D.toNat := by omega
      generalize (D.toNat : Int) = d at *
      go_wp2_with fail
      refine (awake11 _ (H4.out _ hb3)).mono ?_
      rintro e w8 ⟨rfl, hb⟩
      replace hb3 := chain hb3 hb
      go_wp2
      go_ret
      exact ⟨rfl, hb3⟩
end Go.Proofs.YtecbfegohdllbaaDoor
end
section
/- The reference's Of, Seal, Open of layer 11 (crc). -/
namespace Go.Proofs.YtecbfegohdllbaaDoor
open Go.RowKit
set_option linter.unusedVariables false
theorem strOfNums_inj {l m : List Int} (hl : ∀ x ∈ l, (Lit.int .u8 x).wf = true) (hm : ∀ x ∈ m, (Lit.int .u8 x).wf = true) (h : strOfNums l = strOfNums m) : l = m := by
  have h2 : (l.map fun n => UInt8.ofNat n.toNat) = (m.map fun n => UInt8.ofNat n.toNat) := by
    rw [← strOfNums_data, ← strOfNums_data, h]
  clear h
  induction l generalizing m with
  | nil => cases m with
    | nil => rfl
    | cons y m => simp at h2
  | cons x l ih => cases m with
    | nil => simp at h2
    | cons y m =>
      simp only [List.map_cons, List.cons.injEq] at h2
      have hx := bd_u8 (hl x (by simp))
      have hy := bd_u8 (hm y (by simp))
      have e := congrArg UInt8.toNat h2.1
      simp only [UInt8.toNat_ofNat'] at e
      rw [ih (fun z hz => hl z (by simp [hz])) (fun z hz => hm z (by simp [hz])) h2.2, show x = y by omega]
theorem str_ne {a b : ByteArray} (h : a ≠ b) : (!a.toList == b.toList) = true := by
  simp only [Bool.not_eq_true', beq_eq_false_iff_ne, ne_eq, ByteArray.toList_eq]
  exact fun e => h (ByteArray.ext (Array.toList_inj.1 e))
theorem rof_any (v : Value) (l : List Int) (w : World) (hr : Reads .u8 w v l) :
    Calls Tryd.prog 26 #[v] w fun e w' => e = .returned (.int .i32 (crcOf l).toNat) ∧ Below w.heap.size w w' := by
  have f1 := hid (Reads.wf hr)
  have RP := hid (fun (h : 0 < l.length) => hr.plain h)
  obtain ⟨a, c, rfl, _, hm, _⟩ := id hr
  have h2' : l.length ≤ 9223372036854775807 := by unfold maxLen at hm; omega
  have hB := Below.refl w.heap.size w
  clear hr hm
  obtain ⟨n, hn0⟩ : ∃ n, l.length = n := ⟨_, rfl⟩
  rw [hn0]
  have hn := hid hn0
  rw [hn0] at h2'
  clear hn0
  go_enter Tryd.func26, Tryd.ntmps26
  go_wp2_with fail
  go_loopw [3, 4] (fun c i wr => ∃ k : Nat, k ≤ n ∧ i = .int .i64 k ∧ c = .int .i32 (crcFrom 65535#16 (l.take k)).toNat ∧ Below w.heap.size w wr) (fun c i _ => n - (intOf i).toNat)
  case atStart => exact ⟨0, Nat.zero_le _, rfl, rfl, hB⟩
  case round =>
    obtain ⟨k, hk, rfl, rfl, hwr⟩ := hrel
    by_cases hlt : k < n
    · obtain ⟨b, off, cap, hv, h1, h2, hlt1, hcell⟩ := RP.out (by rw [hn.out]; omega)
      have hL := hn.out
      obtain ⟨rfl, hq, rfl⟩ := Value.slice.inj hv
      have hkc : wr.cell? ⟨b, off + k, none⟩ = some (.int .u8 l[k]) := (hwr.cell (p := ⟨b, off + k, none⟩) hlt1).trans (hcell k (by omega))
      have hx := bd_u8 (f1.out l[k] (List.getElem_mem (by omega)))
      obtain ⟨x, hxx⟩ : ∃ x : Nat, l[k] = (x : Int) := ⟨l[k].toNat, by omega⟩
      have hs := crc_snoc 65535#16 l k (by omega)
      rw [hxx] at hkc hs hx
      have hc := (crcFrom 65535#16 (l.take k)).isLt
      have st := rstep_any ((crcFrom 65535#16 (l.take k)).toNat : Int) (by omega) x (by omega) wr
      rw [BitVec.ofInt_natCast, BitVec.ofNat_toNat, BitVec.setWidth_eq, ← hs] at st
      have ST := hid st
      clear hs hxx hcell hv h1 h2 hL hB hq st hc
      go_wp2_with fail
      refine ST.out.mono ?_
      rintro e w3 ⟨rfl, hb⟩
      replace hwr := chain hwr hb
      clear hb
      go_wp2
      go_roundw
      case rel => exact ⟨k + 1, by omega, by go_num, rfl, hwr⟩
      case measure => simp [intOf]; omega
    · obtain rfl : k = n := by omega
      rw [show l.take k = l by rw [← hn.out]; exact List.take_length]
      clear hB
      go_wp2
      go_ret
      exact ⟨rfl, hwr⟩
theorem ownsRow_below {w w' : World} {base : Nat} {e : TypeId} {size : Nat} {v : Value} {n : Nat} {xs : List Value} (h : w.ownsRow base e size v n xs) (hb : Below w.heap.size w w') : w'.ownsRow base e size v n xs := by
  obtain ⟨hl, h⟩ := h
  refine ⟨hl, h.imp id ?_⟩
  rintro ⟨g, cap, cur, rfl, hg, hc, rest⟩
  have hlt : g < w.heap.size := by
    rcases Nat.lt_or_ge g w.heap.size with h | h
    · exact h
    · rw [Array.getElem?_eq_none h] at hc; cases hc
  exact ⟨g, cap, cur, rfl, hg, (hb.block g hlt).trans hc, rest⟩
theorem ownsRow_nil (w : World) (base : Nat) (e : TypeId) : w.ownsRow base e 1 (.slice none 0 0) 0 [] := ⟨rfl, .inl ⟨rfl, rfl⟩⟩
set_option maxRecDepth 20000 in
theorem rseal_any (v : Value) (l : List Int) (w : World) (hr : Reads .u8 w v l) (hl : l.length ≤ 1000000) :
    Calls Tryd.prog 28 #[v] w fun e w' => ∃ v', e = .returned v' ∧ Below w.heap.size w w' ∧ w'.ownsRow w.heap.size 5 1 v' (l.length + 2) (vU8 (sealL l)) := by
  obtain ⟨i0, hi, hz0, hz1, hz2⟩ := info_parts Tryd.infoU8
  have O := hid (fun w' (hb : Below w.heap.size w w') => rof_any v l w' (hr.later hb))
  have hc := (crcOf l).isLt
  have R := hid hr
  clear hr
  go_enter Tryd.func28, Tryd.ntmps28
  go_wp2_with (at_builtin; refine wpList_append_reads rfl _ _ 22 rfl w.heap.size 5 i0 (.int .u8 0) .u8 1 Tryd.underlying22 hi hz0 hz1 hz2 rfl _ _ _ rfl (ownsRow_nil _ _ _) v l rfl ?c1 ?c2 ?c3 ?c4 ?_)
  case c1 => exact R.out
  case c2 => simp [maxLen]; omega
  case c3 => omega
  case c4 => exact Nat.le_refl _
  intro v1 w1 hown1 hg1
  have hb1 : Below w.heap.size w w1 := (Below.refl w.heap.size w).grown hg1 (Nat.le_refl _) (fun k e => by simp [Value.ownBlock] at e)
  have hz1' := hb1.size
  clear hg1
  go_wp2_with fail
  refine (O.out _ hb1).mono ?_
  rintro e w2 ⟨rfl, hb⟩
  have hown2 := ownsRow_below hown1 hb
  have hb2 := chain hb1 hb
  have hz2' := hb2.size
  clear hb hown1 hb1 hz1' O R
  go_wp2_with (at_builtin; refine wpList_append_own _ rfl _ _ 22 rfl w.heap.size 5 i0 (.int .u8 0) 1 1 Tryd.underlying22 hi hz0 hz1 hz2 rfl (by decide) _ _ _ rfl (hown2.alloc _) ⟨w2.heap.size, 0, none⟩ 1 1 [.int .u8 (hiB (crcOf l))] rfl rfl ?d3 ?d4 ?d5 ?d6 ?d7 ?_)
  case d3 =>
    intro j u h
    rcases j with _ | j <;> simp at h <;> subst h <;> go_simp <;> rfl
  case d4 => simp [Value.oneCell']
  case d5 => simp [maxLen]; omega
  case d6 => omega
  case d7 => simp; omega
  intro v3 w3 hown3 hg3 _
  have hb3 : Below w.heap.size w w3 := (hb2.alloc hb2.size _).grown hg3 (by simp; omega) (fun k e => (hown2.lt k e).1)
  have hz3' := hb3.size
  clear hg3 hown2 hb2 hz2'
  go_wp2_with (at_builtin; refine wpList_append_own _ rfl _ _ 22 rfl w.heap.size 5 i0 (.int .u8 0) 1 1 Tryd.underlying22 hi hz0 hz1 hz2 rfl (by decide) _ _ _ rfl (hown3.alloc _) ⟨w3.heap.size, 0, none⟩ 1 1 [.int .u8 (loB (crcOf l))] rfl rfl ?f3 ?f4 ?f5 ?f6 ?f7 ?_)
  case f3 =>
    intro j u h
    rcases j with _ | j <;> simp at h <;> subst h <;> go_simp <;> rfl
  case f4 => simp [Value.oneCell']
  case f5 => simp [maxLen]; omega
  case f6 => omega
  case f7 => simp; omega
  intro v4 w4 hown4 hg4 _
  have hb4 : Below w.heap.size w w4 := (hb3.alloc hb3.size _).grown hg4 (by simp; omega) (fun k e => (hown3.lt k e).1)
  go_wp2
  go_ret
  exact ⟨v4, rfl, hb4, by simpa [vU8, sealL] using hown4⟩
theorem ropen_short (a : Option Addr) (n c : Nat) (w : World) (hn : n < 2) :
    Calls Tryd.prog 23 #[.slice a n c] w fun e w' => e = .returned (.tuple #[.slice none 0 0, .int .i64 4]) ∧ w = w' := by
  go_enter Tryd.func23, Tryd.ntmps23
  go_wp2
  go_ret2
  exact ⟨rfl, rfl⟩
set_option maxRecDepth 20000 in
theorem ropen_bad (v : Value) (l : List Int) (m : Nat) (hm : l.length = m + 2) (w : World) (hr : Reads .u8 w v l) (hl : l.length ≤ 1000000) (hbad : l ≠ sealL (l.take m)) :
    Calls Tryd.prog 23 #[v] w fun e w' => e = .returned (.tuple #[.slice none 0 0, .int .i64 7]) ∧ Below w.heap.size w w' := by
  have hw := Reads.wf hr
  obtain ⟨b, off, c, rfl, h1, h2, hlt, _⟩ := hr.plain (by omega)
  have hrt := hr.take m (by omega)
  have SE := hid (fun w' (hb : Below w.heap.size w w') => rseal_any (.slice (some ⟨b, off, none⟩) m c) (l.take m) w' (hrt.later hb) (by simp; omega))
  have k0 := conv_reads_later _ _ w.drew (hr.later (Below.refl w.heap.size w).drew)
  have hwf := hid (sealL_wf (l := l.take m) (fun x hx => hw x (List.mem_of_mem_take hx)))
  have hB := (Below.refl w.heap.size w).drew
  have h2' : m + 2 ≤ 9223372036854775807 := by unfold maxLen at h2; omega
  have hmc : m ≤ c := by omega
  have hne : (!(strOfNums (sealL (l.take m))).toList == (strOfNums l).toList) = true := str_ne (fun h => hbad (strOfNums_inj hwf.out hw h).symm)
  clear hr hrt hw h1 h2 hbad hl
  rw [hm] at *
  clear hm
  go_enter Tryd.func23, Tryd.ntmps23
  go_wp2_with fail
  refine wp_region_B' (n := 8) (l := #[false, false, false, false, false, false, false, false]) (by kernel_rfl) (by kernel_rfl) (by kernel_rfl) ?_
  refine wpAnyB_take (i := 0) (v := ?vr0) (some 12) rfl rfl (by kernel_rfl) (by kernel_rfl) (by kernel_rfl) (fun _ _ _ h => h) (by rfl) ?hvr0 ?restr0
  case hvr0 => (intro w' hb; go_simp; try with_reducible rfl)
  simp only [Act.put, List.setIfInBounds_toArray, List.set_cons_zero, List.set_cons_succ]
  refine wpAnyB_take (i := 1) (v := ?vr1) (some 13) rfl rfl (by kernel_rfl) (by kernel_rfl) (by kernel_rfl) (fun _ _ _ h => h) (by rfl) ?hvr1 ?restr1
  case hvr1 => (intro w' hb; go_simp; try with_reducible rfl)
  simp only [Act.put, List.setIfInBounds_toArray, List.set_cons_zero, List.set_cons_succ]
  refine wpAnyB_take (i := 2) (v := ?vr2) (some 14) rfl rfl (by kernel_rfl) (by kernel_rfl) (by kernel_rfl) (fun _ _ _ h => h) (by rfl) ?hvr2 ?restr2
  case hvr2 => (intro w' hb; go_simp; try with_reducible rfl)
  simp only [Act.put, List.setIfInBounds_toArray, List.set_cons_zero, List.set_cons_succ]
  refine wpAnyB_take (i := 5) (v := ?vr5) (some 17) rfl rfl (by kernel_rfl) (by kernel_rfl) (by kernel_rfl) (fun _ _ _ h => h) (by rfl) ?hvr5 ?restr5
  case hvr5 => (intro w' hb; go_simp; try with_reducible rfl)
  simp only [Act.put, List.setIfInBounds_toArray, List.set_cons_zero, List.set_cons_succ]
  refine wpAnyB_take (i := 6) (v := ?vr6) (some 18) rfl rfl (by kernel_rfl) (by kernel_rfl) (by kernel_rfl) (fun _ _ _ h => h) (by rfl) ?hvr6 ?restr6
  case hvr6 => (intro w' hb; go_simp; rw [k0 w' hb]; rfl)
  simp only [Act.put, List.setIfInBounds_toArray, List.set_cons_zero, List.set_cons_succ]
  refine wpAnyB_alone (i := 3) rfl (by kernel_rfl) (by rfl) (fun K hK => ?_)
  go_simp
  refine (SE.out _ hB).mono ?_
  rintro e w2 ⟨v1, rfl, hb, hown⟩
  have k1 := conv_reads_later v1 (sealL (l.take m)) w2 (reads_of_owns hown hwf.out)
  clear hown k0
  replace hB := hB.trans (hb.mono (Nat.le_refl _))
  refine hK.out _ _ hb ?_
  clear hK K
  simp only [List.setIfInBounds_toArray, List.set_cons_zero, List.set_cons_succ]
  refine wpAnyB_take (i := 4) (v := ?vr4) (some 16) rfl rfl (by kernel_rfl) (by kernel_rfl) (by kernel_rfl) (fun _ _ _ h => h) (by rfl) ?hvr4 ?restr4
  case hvr4 => (intro w' hb; go_simp; try with_reducible rfl)
  simp only [Act.put, List.setIfInBounds_toArray, List.set_cons_zero, List.set_cons_succ]
  refine wpAnyB_take (i := 7) (v := ?vr7) (some 19) rfl rfl (by kernel_rfl) (by kernel_rfl) (by kernel_rfl) (fun _ _ _ h => h) (by rfl) ?hvr7 ?restr7
  case hvr7 => (intro w' hb; go_simp; try with_reducible rfl)
  simp only [Act.put, List.setIfInBounds_toArray, List.set_cons_zero, List.set_cons_succ]
  refine wpAnyB_done (by kernel_rfl) ?_ _
  go_wp2
  go_ret2
  exact ⟨rfl, hB⟩
set_option maxRecDepth 20000 in
theorem ropen_ok (v : Value) (l : List Int) (m : Nat) (hm : l.length = m + 2) (w : World) (hr : Reads .u8 w v l) (hl : l.length ≤ 1000000) (hok : l = sealL (l.take m)) :
    Calls Tryd.prog 23 #[v] w fun e w' => ∃ v', e = .returned (.tuple #[v', .int .i64 0]) ∧ Below w.heap.size w w' ∧ w'.ownsRow w.heap.size 5 1 v' m (vU8 (l.take m)) := by
  obtain ⟨i0, hi, hz0, hz1, hz2⟩ := info_parts Tryd.infoU8
  have hw := Reads.wf hr
  obtain ⟨b, off, c, rfl, h1, h2, hlt, _⟩ := hr.plain (by omega)
  have hrt := hr.take m (by omega)
  have SE := hid (fun w' (hb : Below w.heap.size w w') => rseal_any (.slice (some ⟨b, off, none⟩) m c) (l.take m) w' (hrt.later hb) (by simp; omega))
  have k0 := conv_reads_later _ _ w.drew (hr.later (Below.refl w.heap.size w).drew)
  have hwf := hid (sealL_wf (l := l.take m) (fun x hx => hw x (List.mem_of_mem_take hx)))
  have hB := (Below.refl w.heap.size w).drew
  have h2' : m + 2 ≤ 9223372036854775807 := by unfold maxLen at h2; omega
  have hmc : m ≤ c := by omega
  have hne : strOfNums (sealL (l.take m)) = strOfNums l := by rw [← hok]
  have R := hid (fun w' (hb : Below w.heap.size w w') => hrt.later hb)
  have htl : (l.take m).length = m := by simp; omega
  clear hr hrt hw h1 h2 hok
  rw [hm] at *
  clear hm
  go_enter Tryd.func23, Tryd.ntmps23
  go_wp2_with fail
  refine wp_region_B' (n := 8) (l := #[false, false, false, false, false, false, false, false]) (by kernel_rfl) (by kernel_rfl) (by kernel_rfl) ?_
  refine wpAnyB_take (i := 0) (v := ?vr0) (some 12) rfl rfl (by kernel_rfl) (by kernel_rfl) (by kernel_rfl) (fun _ _ _ h => h) (by rfl) ?hvr0 ?restr0
  case hvr0 => (intro w' hb; go_simp; try with_reducible rfl)
  simp only [Act.put, List.setIfInBounds_toArray, List.set_cons_zero, List.set_cons_succ]
  refine wpAnyB_take (i := 1) (v := ?vr1) (some 13) rfl rfl (by kernel_rfl) (by kernel_rfl) (by kernel_rfl) (fun _ _ _ h => h) (by rfl) ?hvr1 ?restr1
  case hvr1 => (intro w' hb; go_simp; try with_reducible rfl)
  simp only [Act.put, List.setIfInBounds_toArray, List.set_cons_zero, List.set_cons_succ]
  refine wpAnyB_take (i := 2) (v := ?vr2) (some 14) rfl rfl (by kernel_rfl) (by kernel_rfl) (by kernel_rfl) (fun _ _ _ h => h) (by rfl) ?hvr2 ?restr2
  case hvr2 => (intro w' hb; go_simp; try with_reducible rfl)
  simp only [Act.put, List.setIfInBounds_toArray, List.set_cons_zero, List.set_cons_succ]
  refine wpAnyB_take (i := 5) (v := ?vr5) (some 17) rfl rfl (by kernel_rfl) (by kernel_rfl) (by kernel_rfl) (fun _ _ _ h => h) (by rfl) ?hvr5 ?restr5
  case hvr5 => (intro w' hb; go_simp; try with_reducible rfl)
  simp only [Act.put, List.setIfInBounds_toArray, List.set_cons_zero, List.set_cons_succ]
  refine wpAnyB_take (i := 6) (v := ?vr6) (some 18) rfl rfl (by kernel_rfl) (by kernel_rfl) (by kernel_rfl) (fun _ _ _ h => h) (by rfl) ?hvr6 ?restr6
  case hvr6 => (intro w' hb; go_simp; rw [k0 w' hb]; rfl)
  simp only [Act.put, List.setIfInBounds_toArray, List.set_cons_zero, List.set_cons_succ]
  refine wpAnyB_alone (i := 3) rfl (by kernel_rfl) (by rfl) (fun K hK => ?_)
  go_simp
  refine (SE.out _ hB).mono ?_
  rintro e w2 ⟨v1, rfl, hb, hown⟩
  have k1 := conv_reads_later v1 (sealL (l.take m)) w2 (reads_of_owns hown hwf.out)
  clear hown k0
  replace hB := hB.trans (hb.mono (Nat.le_refl _))
  refine hK.out _ _ hb ?_
  clear hK K
  simp only [List.setIfInBounds_toArray, List.set_cons_zero, List.set_cons_succ]
  refine wpAnyB_take (i := 4) (v := ?vr4) (some 16) rfl rfl (by kernel_rfl) (by kernel_rfl) (by kernel_rfl) (fun _ _ _ h => h) (by rfl) ?hvr4 ?restr4
  case hvr4 => (intro w' hb; go_simp; try with_reducible rfl)
  simp only [Act.put, List.setIfInBounds_toArray, List.set_cons_zero, List.set_cons_succ]
  refine wpAnyB_take (i := 7) (v := ?vr7) (some 19) rfl rfl (by kernel_rfl) (by kernel_rfl) (by kernel_rfl) (fun _ _ _ h => h) (by rfl) ?hvr7 ?restr7
  case hvr7 => (intro w' hb; go_simp; try with_reducible rfl)
  simp only [Act.put, List.setIfInBounds_toArray, List.set_cons_zero, List.set_cons_succ]
  refine wpAnyB_done (by kernel_rfl) ?_ _
  go_wp2_with (at_builtin; refine wpList_append_reads rfl _ _ 22 rfl w.heap.size 5 i0 (.int .u8 0) .u8 1 Tryd.underlying22 hi hz0 hz1 hz2 rfl _ _ _ rfl (ownsRow_nil _ _ _) (.slice (some ⟨b, off, none⟩) m c) (l.take m) rfl ?c1 ?c2 ?c3 ?c4 ?_)
  case c1 => exact R.out _ hB
  case c2 => simp [maxLen]; omega
  case c3 => simp; omega
  case c4 => exact hB.size
  intro v2 w3 hown3 hg3
  have hb3 : Below w.heap.size w w3 := hB.grown hg3 hB.size (fun k e => by simp [Value.ownBlock] at e)
  go_wp2
  go_ret2
  exact ⟨v2, rfl, hb3, by simpa [vU8, List.map_take] using hown3⟩
end Go.Proofs.YtecbfegohdllbaaDoor
end
section
/- The walk of the statement of layer 11 (crc) that speaks of the reference. -/
namespace Go.Proofs.YtecbfegohdllbaaDoor
open Go.RowKit
set_option linter.unusedVariables false
theorem reads_nil (w : World) : Reads .u8 w (.slice none 0 0) [] := ⟨none, 0, rfl, Nat.le_refl _, Nat.zero_le _, by simp, fun _ => ⟨rfl, rfl⟩, fun b hb => (nomatch hb)⟩
/-- both openings are one -/
theorem opens (v : Value) (l : List Int) (w : World) (hr : Reads .u8 w v l) (h4 : Four w) (hl : l.length ≤ 1000000) : ∃ (Y : List Int) (E : Int),
    (∀ w', Below w.heap.size w w' → Calls Tryd.prog 22 #[v] w' fun e w'' => ∃ v', e = .returned (.tuple #[v', .int .i64 E]) ∧ Below w'.heap.size w' w'' ∧ Reads .u8 w'' v' Y) ∧
    (∀ w', Below w.heap.size w w' → Calls Tryd.prog 23 #[v] w' fun e w'' => ∃ v', e = .returned (.tuple #[v', .int .i64 E]) ∧ Below w'.heap.size w' w'' ∧ Reads .u8 w'' v' Y) := by
  by_cases hs : l.length < 2
  · obtain ⟨a, c, rfl, _⟩ := hr
    refine ⟨[], 4, fun w' _ => (open_short a _ c w' hs).mono ?_, fun w' _ => (ropen_short a _ c w' hs).mono ?_⟩
    all_goals
      rintro e w2 ⟨rfl, rfl⟩
      exact ⟨_, rfl, Below.refl _ _, reads_nil _⟩
  · obtain ⟨m, hm⟩ : ∃ m, l.length = m + 2 := ⟨l.length - 2, by omega⟩
    have hw := Reads.wf hr
    by_cases hok : l = sealL (l.take m)
    · refine ⟨l.take m, 0, fun w' hb => (open_ok v l m hm w' (hr.later hb) (h4.later hb) hok hl).mono ?_, fun w' hb => (ropen_ok v l m hm w' (hr.later hb) hl hok).mono ?_⟩
      all_goals
        rintro e w2 ⟨v', rfl, hb2, hown⟩
        exact ⟨v', rfl, hb2, reads_of_owns hown (fun x hx => hw x (List.mem_of_mem_take hx))⟩
    · refine ⟨[], 7, fun w' hb => (open_bad v l m hm w' (hr.later hb) (h4.later hb) hok).mono ?_, fun w' hb => (ropen_bad v l m hm w' (hr.later hb) hl hok).mono ?_⟩
      all_goals
        rintro e w2 ⟨rfl, hb2⟩
        exact ⟨_, rfl, hb2, reads_nil _⟩
set_option maxRecDepth 20000 in
set_option maxHeartbeats 2000000 in
theorem CrcTells_walk (a0 : Int) (a1 : Int) (a2 : Option Addr) (len2 cap2 : Nat) (z2 : List Int) (w : World) (w0 : (Lit.int .i32 a0).wf = true) (w1 : (Lit.int .u8 a1).wf = true) (w2 : IsRow .u8 w a2 len2 cap2 z2) (h4 : Four w) :
    Calls Tryd.prog 4 #[.int .i32 a0, .int .u8 a1, .slice a2 len2 cap2] w fun e w' => e = .returned (.bool true) ∧ Below w.heap.size w w' := by
  obtain ⟨e2, r2⟩ := w2.reads
  have b0 := bd_i32 w0
  have b1 := bd_u8 w1
  generalize z2.take len2 = L at *
  clear w0 w1 w2
  by_cases g2 : 600 < len2
  · go_enter Tryd.func4, Tryd.ntmps4
    clear r2
    go_wp2_with fail
    refine (awake11 _ h4).mono ?_
    rintro e w2 ⟨rfl, hb⟩
    go_wp2
    go_ret
    exact ⟨rfl, hb⟩
  have hL : L.length ≤ 1000000 := by omega
  obtain ⟨Y, E, o1, o2⟩ := opens _ L w r2 h4 hL
  obtain ⟨x, rfl⟩ : ∃ x : Nat, a1 = (x : Int) := ⟨a1.toNat, by omega⟩
  have O1 := hid o1
  have O2 := hid o2
  have H4 := hid (fun w' (hb : Below w.heap.size w w') => h4.later hb)
  have ST := hid (fun w' (hb : Below w.heap.size w w') => (step_int a0 b0 x (by omega) w' (h4.later hb)).mono (R' := fun e w'' => e = .returned (.int .i32 (stepB (BitVec.ofInt 16 a0) x).toNat) ∧ Below w'.heap.size w' w'') (fun e w'' h => ⟨h.1, h.2 ▸ Below.refl _ _⟩))
  have RST := hid (fun w' => rstep_any a0 b0 x (by omega) w')
  have OF := hid (fun w' (hb : Below w.heap.size w w') => of_any _ L w' (r2.later hb) (h4.later hb))
  have ROF := hid (fun w' (hb : Below w.heap.size w w') => rof_any _ L w' (r2.later hb))
  have SE := hid (fun w' (hb : Below w.heap.size w w') => seal_any _ L w' (r2.later hb) (h4.later hb) hL)
  have RSE := hid (fun w' (hb : Below w.heap.size w w') => rseal_any _ L w' (r2.later hb) hL)
  have KB := hid (conv_reads_later _ L w r2)
  have hwf := hid (sealL_wf (Reads.wf r2))
  have k0 := conv_reads _ L w r2
  clear o1 o2 h4 e2 hL r2
  generalize (stepB (BitVec.ofInt 16 a0) x).toNat = D at *
  go_enter Tryd.func4, Tryd.ntmps4
  go_wp2_with fail
  refine (O1.out _ (Below.refl _ _)).mono ?_
  rintro e w2 ⟨y, rfl, hb, hy⟩
  have h02 := hb
  clear hb k0
  go_wp2_with fail
  refine (O2.out _ h02).mono ?_
  rintro e w3 ⟨z, rfl, hb, hz⟩
  have KY := hid (conv_reads_later y Y w3 (hy.later hb))
  have KZ := hid (conv_reads_later z Y w3 hz)
  have h03 := chain h02 hb
  clear hb h02 hy hz
  go_wp2_with fail
  refine wp_region_B' (n := 23) (l := #[false, false, false, false, false, false, false, false, false, false, false, false, false, false, false, false, false, false, false, false, false, false, false]) (by kernel_rfl) (by kernel_rfl) (by kernel_rfl) ?_
  refine wpAnyB_take (i := 0) (v := ?vr0) (some 28) rfl rfl (by kernel_rfl) (by kernel_rfl) (by kernel_rfl) (fun _ _ _ h => h) (by rfl) ?hvr0 ?restr0
  case hvr0 => (intro w' hb; go_simp; try with_reducible rfl)
  simp only [Act.put, List.setIfInBounds_toArray, List.set_cons_zero, List.set_cons_succ]
  refine wpAnyB_take (i := 1) (v := ?vr1) (some 29) rfl rfl (by kernel_rfl) (by kernel_rfl) (by kernel_rfl) (fun _ _ _ h => h) (by rfl) ?hvr1 ?restr1
  case hvr1 => (intro w' hb; go_simp; try with_reducible rfl)
  simp only [Act.put, List.setIfInBounds_toArray, List.set_cons_zero, List.set_cons_succ]
  refine wpAnyB_take (i := 3) (v := ?vr3) (some 31) rfl rfl (by kernel_rfl) (by kernel_rfl) (by kernel_rfl) (fun _ _ _ h => h) (by rfl) ?hvr3 ?restr3
  case hvr3 => (intro w' hb; go_simp; try with_reducible rfl)
  simp only [Act.put, List.setIfInBounds_toArray, List.set_cons_zero, List.set_cons_succ]
  refine wpAnyB_take (i := 4) (v := ?vr4) (some 32) rfl rfl (by kernel_rfl) (by kernel_rfl) (by kernel_rfl) (fun _ _ _ h => h) (by rfl) ?hvr4 ?restr4
  case hvr4 => (intro w' hb; go_simp; try with_reducible rfl)
  simp only [Act.put, List.setIfInBounds_toArray, List.set_cons_zero, List.set_cons_succ]
  refine wpAnyB_alone (i := 2) rfl (by kernel_rfl) (by rfl) (fun K hK => ?_)
  go_simp
  refine (ST.out _ h03.drew).mono ?_
  rintro e w4 ⟨rfl, hb⟩
  have h3 : Below w3.heap.size w3 w4 := (Below.refl w3.heap.size w3).drew.trans (hb.mono (Nat.le_refl _))
  refine hK.out _ _ hb ?_
  clear hK K
  simp only [List.setIfInBounds_toArray, List.set_cons_zero, List.set_cons_succ]
  refine wpAnyB_alone (i := 5) rfl (by kernel_rfl) (by rfl) (fun K hK => ?_)
  go_simp
  refine (RST.out _).mono ?_
  rintro e w5 ⟨rfl, hb⟩
  replace h3 := chain h3 hb
  refine hK.out _ _ hb ?_
  clear hK K
  simp only [List.setIfInBounds_toArray, List.set_cons_zero, List.set_cons_succ]
  refine wpAnyB_take (i := 6) (v := ?vr6) (some 34) rfl rfl (by kernel_rfl) (by kernel_rfl) (by kernel_rfl) (fun _ _ _ h => h) (by rfl) ?hvr6 ?restr6
  case hvr6 => (intro w' hb; go_simp; try with_reducible rfl)
  simp only [Act.put, List.setIfInBounds_toArray, List.set_cons_zero, List.set_cons_succ]
  refine wpAnyB_take (i := 7) (v := ?vr7) (some 35) rfl rfl (by kernel_rfl) (by kernel_rfl) (by kernel_rfl) (fun _ _ _ h => h) (by rfl) ?hvr7 ?restr7
  case hvr7 => (intro w' hb; go_simp; try with_reducible rfl)
  simp only [Act.put, List.setIfInBounds_toArray, List.set_cons_zero, List.set_cons_succ]
  refine wpAnyB_take (i := 8) (v := ?vr8) (some 36) rfl rfl (by kernel_rfl) (by kernel_rfl) (by kernel_rfl) (fun _ _ _ h => h) (by rfl) ?hvr8 ?restr8
  case hvr8 => (intro w' hb; go_simp; try with_reducible rfl)
  simp only [Act.put, List.setIfInBounds_toArray, List.set_cons_zero, List.set_cons_succ]
  refine wpAnyB_take (i := 10) (v := ?vr10) (some 38) rfl rfl (by kernel_rfl) (by kernel_rfl) (by kernel_rfl) (fun _ _ _ h => h) (by rfl) ?hvr10 ?restr10
  case hvr10 => (intro w' hb; go_simp; try with_reducible rfl)
  simp only [Act.put, List.setIfInBounds_toArray, List.set_cons_zero, List.set_cons_succ]
  refine wpAnyB_alone (i := 9) rfl (by kernel_rfl) (by rfl) (fun K hK => ?_)
  go_simp
  refine (OF.out _ (chain h03 h3)).mono ?_
  rintro e w6 ⟨rfl, hb⟩
  replace h3 := chain h3 hb
  refine hK.out _ _ hb ?_
  clear hK K
  simp only [List.setIfInBounds_toArray, List.set_cons_zero, List.set_cons_succ]
  refine wpAnyB_alone (i := 11) rfl (by kernel_rfl) (by rfl) (fun K hK => ?_)
  go_simp
  refine (ROF.out _ (chain h03 h3)).mono ?_
  rintro e w7 ⟨rfl, hb⟩
  replace h3 := chain h3 hb
  refine hK.out _ _ hb ?_
  clear hK K
  simp only [List.setIfInBounds_toArray, List.set_cons_zero, List.set_cons_succ]
  refine wpAnyB_take (i := 12) (v := ?vr12) (some 40) rfl rfl (by kernel_rfl) (by kernel_rfl) (by kernel_rfl) (fun _ _ _ h => h) (by rfl) ?hvr12 ?restr12
  case hvr12 => (intro w' hb; go_simp; try with_reducible rfl)
  simp only [Act.put, List.setIfInBounds_toArray, List.set_cons_zero, List.set_cons_succ]
  refine wpAnyB_take (i := 13) (v := ?vr13) (some 41) rfl rfl (by kernel_rfl) (by kernel_rfl) (by kernel_rfl) (fun _ _ _ h => h) (by rfl) ?hvr13 ?restr13
  case hvr13 => (intro w' hb; go_simp; try with_reducible rfl)
  simp only [Act.put, List.setIfInBounds_toArray, List.set_cons_zero, List.set_cons_succ]
  refine wpAnyB_take (i := 14) (v := ?vr14) (some 42) rfl rfl (by kernel_rfl) (by kernel_rfl) (by kernel_rfl) (fun _ _ _ h => h) (by rfl) ?hvr14 ?restr14
  case hvr14 => (intro w' hb; go_simp; try with_reducible rfl)
  simp only [Act.put, List.setIfInBounds_toArray, List.set_cons_zero, List.set_cons_succ]
  refine wpAnyB_take (i := 15) (v := ?vr15) (some 43) rfl rfl (by kernel_rfl) (by kernel_rfl) (by kernel_rfl) (fun _ _ _ h => h) (by rfl) ?hvr15 ?restr15
  case hvr15 => (intro w' hb; go_simp; try with_reducible rfl)
  simp only [Act.put, List.setIfInBounds_toArray, List.set_cons_zero, List.set_cons_succ]
  refine wpAnyB_take (i := 18) (v := ?vr18) (some 46) rfl rfl (by kernel_rfl) (by kernel_rfl) (by kernel_rfl) (fun _ _ _ h => h) (by rfl) ?hvr18 ?restr18
  case hvr18 => (intro w' hb; go_simp; try with_reducible rfl)
  simp only [Act.put, List.setIfInBounds_toArray, List.set_cons_zero, List.set_cons_succ]
  refine wpAnyB_alone (i := 16) rfl (by kernel_rfl) (by rfl) (fun K hK => ?_)
  go_simp
  refine (SE.out _ (chain h03 h3)).mono ?_
  rintro e w8 ⟨s1, rfl, hb, hown⟩
  have k1 := conv_reads_later s1 (sealL L) w8 (reads_of_owns hown hwf.out)
  clear hown
  replace h3 := chain h3 hb
  refine hK.out _ _ hb ?_
  clear hK K
  simp only [List.setIfInBounds_toArray, List.set_cons_zero, List.set_cons_succ]
  refine wpAnyB_take (i := 17) (v := ?vr17) (some 45) rfl rfl (by kernel_rfl) (by kernel_rfl) (by kernel_rfl) (fun _ _ _ h => h) (by rfl) ?hvr17 ?restr17
  case hvr17 => (intro w' hb; go_simp; try with_reducible rfl)
  simp only [Act.put, List.setIfInBounds_toArray, List.set_cons_zero, List.set_cons_succ]
  refine wpAnyB_alone (i := 19) rfl (by kernel_rfl) (by rfl) (fun K hK => ?_)
  go_simp
  refine (RSE.out _ (chain h03 h3)).mono ?_
  rintro e w9 ⟨s2, rfl, hb, hown⟩
  have k2 := conv_reads_later s2 (sealL L) w9 (reads_of_owns hown hwf.out)
  clear hown
  replace h3 := chain h3 hb
  refine hK.out _ _ hb ?_
  clear hK K
  simp only [List.setIfInBounds_toArray, List.set_cons_zero, List.set_cons_succ]
  refine wpAnyB_take (i := 20) (v := ?vr20) (some 48) rfl rfl (by kernel_rfl) (by kernel_rfl) (by kernel_rfl) (fun _ _ _ h => h) (by rfl) ?hvr20 ?restr20
  case hvr20 => (intro w' hb; go_simp; try with_reducible rfl)
  simp only [Act.put, List.setIfInBounds_toArray, List.set_cons_zero, List.set_cons_succ]
  refine wpAnyB_take (i := 21) (v := ?vr21) (some 49) rfl rfl (by kernel_rfl) (by kernel_rfl) (by kernel_rfl) (fun _ _ _ h => h) (by rfl) ?hvr21 ?restr21
  case hvr21 => (intro w' hb; go_simp; try with_reducible rfl)
  simp only [Act.put, List.setIfInBounds_toArray, List.set_cons_zero, List.set_cons_succ]
  refine wpAnyB_take (i := 22) (v := ?vr22) (some 50) rfl rfl (by kernel_rfl) (by kernel_rfl) (by kernel_rfl) (fun _ _ _ h => h) (by rfl) ?hvr22 ?restr22
  case hvr22 => (intro w' hb; go_simp; try with_reducible rfl)
  simp only [Act.put, List.setIfInBounds_toArray, List.set_cons_zero, List.set_cons_succ]
  refine wpAnyB_done (by kernel_rfl) ?_ _
  have ky := KY.out _ h3
  have kz := KZ.out _ h3
  have h09 := chain h03 h3
  have kb := KB.out _ h09
  clear k2
  go_wp2_with fail
  refine (awake11 _ (H4.out _ h09)).mono ?_
  rintro e w10 ⟨rfl, hb⟩
  have hB := chain h09 hb
  go_wp2
  go_ret
  exact ⟨rfl, hB⟩
end Go.Proofs.YtecbfegohdllbaaDoor
end
section
/- The sum of layer 11 (crc), bit by bit: what one bit that is another one makes of it. -/
namespace Go.Proofs.YtecbfegohdllbaaDoor
/-- n steps of one bit -/
def it : Nat → BitVec 16 → BitVec 16
  | 0, y => y
  | n + 1, y => step1 (it n y)
theorem it_add (m n : Nat) (y : BitVec 16) : it (m + n) y = it m (it n y) := by
  induction m with
  | zero => rw [Nat.zero_add]; rfl
  | succ m ih => rw [Nat.succ_add]; show step1 (it (m + n) y) = step1 (it m (it n y)); rw [ih]
theorem it_xor (n : Nat) (x y : BitVec 16) : it n (x ^^^ y) = it n x ^^^ it n y := by
  induction n with
  | zero => rfl
  | succ n ih => show step1 (it n (x ^^^ y)) = step1 (it n x) ^^^ step1 (it n y); rw [ih, step1_xor]
theorem it8 (y : BitVec 16) : it 8 y = step8 y := rfl
theorem b1_low (y : BitVec 16) (h : y.toNat < 32768) : (step1 y).toNat = 2 * y.toNat % 65536 := by
  have : y.msb = false := by rw [BitVec.msb_eq_decide]; simp; omega
  simp [step1, this, BitVec.toNat_shiftLeft, Nat.shiftLeft_eq]; omega
theorem b1_high (y : BitVec 16) (h : ¬ y.toNat < 32768) : (step1 y).toNat = (2 * y.toNat % 65536) ^^^ 4129 := by
  have : y.msb = true := by rw [BitVec.msb_eq_decide]; simp; omega
  simp [step1, this, BitVec.toNat_shiftLeft, Nat.shiftLeft_eq]
  rw [Nat.mul_comm]
theorem step1_ne (y : BitVec 16) (h : y ≠ 0#16) : step1 y ≠ 0#16 := by
  intro e
  have e2 : (step1 y).toNat = 0 := by rw [e]; rfl
  have hy := y.isLt
  by_cases hl : y.toNat < 32768
  · rw [b1_low y hl] at e2
    exact h (BitVec.eq_of_toNat_eq (by show y.toNat = 0; omega))
  · rw [b1_high y hl] at e2
    have h3 := (@Nat.xor_mod_two_eq_one (2 * y.toNat % 65536) 4129)
    rw [e2] at h3
    omega
theorem it_ne (n : Nat) (y : BitVec 16) (h : y ≠ 0#16) : it n y ≠ 0#16 := by
  induction n with
  | zero => exact h
  | succ n ih => exact step1_ne _ ih
theorem bit16_xor (a b : Nat) : BitVec.ofNat 16 (a ^^^ b) = BitVec.ofNat 16 a ^^^ BitVec.ofNat 16 b := by
  apply BitVec.eq_of_toNat_eq
  rw [BitVec.toNat_xor, BitVec.toNat_ofNat, BitVec.toNat_ofNat, BitVec.toNat_ofNat, Nat.xor_mod_two_pow]
theorem stepB_two (u v : BitVec 16) (a b : Nat) : stepB (u ^^^ v) ((a ^^^ b : Nat) : Int) = stepB u a ^^^ stepB v b := by
  unfold stepB
  rw [← step8_xor, BitVec.ofInt_natCast, BitVec.ofInt_natCast, BitVec.ofInt_natCast, bit16_xor, BitVec.shiftLeft_xor_distrib]
  congr 1
  simp only [BitVec.xor_assoc]
  rw [xor_lc v]
theorem stepB_reg (u v : BitVec 16) (x : Int) : stepB (u ^^^ v) x = stepB u x ^^^ step8 v := by
  unfold stepB
  rw [← step8_xor]
  congr 1
  simp only [BitVec.xor_assoc]
  rw [BitVec.xor_comm v]
theorem crcFrom_reg (l : List Int) : ∀ u v : BitVec 16, crcFrom (u ^^^ v) l = crcFrom u l ^^^ it (8 * l.length) v := by
  induction l with
  | nil => intro u v; rfl
  | cons x l ih =>
    intro u v
    show crcFrom (stepB (u ^^^ v) x) l = crcFrom (stepB u x) l ^^^ _
    rw [stepB_reg, ih, List.length_cons, Nat.mul_succ, it_add]; rfl
theorem top_bit : ∀ r : Fin 8, stepB 0#16 ((128 >>> r.val : Nat) : Int) = it (8 - r.val) 32768#16 := by decide +kernel
theorem win_bit : ∀ i : Fin 16, it i.val (BitVec.ofNat 16 (32768 >>> i.val)) = 32768#16 := by decide +kernel
/-- ONE BIT THAT IS ANOTHER ONE: bit k of the bytes, the highest first. -/
theorem crc_flip (c : BitVec 16) (l : List Int) (q r : Nat) (hq : q < l.length) (hr : r < 8) (x : Nat) (hx : l[q] = (x : Int)) :
    crcFrom c (l.set q ((x ^^^ (128 >>> r) : Nat) : Int)) = crcFrom c l ^^^ it (8 * l.length - (8 * q + r)) 32768#16 := by
  have e1 : l = l.take q ++ (x : Int) :: l.drop (q + 1) := by
    conv => lhs; rw [← List.take_append_drop q l]
    rw [List.drop_eq_getElem_cons hq, hx]
  have e2 : l.set q ((x ^^^ (128 >>> r) : Nat) : Int) = l.take q ++ ((x ^^^ (128 >>> r) : Nat) : Int) :: l.drop (q + 1) := by
    rw [List.set_eq_take_append_cons_drop, if_pos hq]
  rw [e2]
  conv => rhs; rw [e1]
  rw [crcFrom_append, crcFrom_append]
  show crcFrom (stepB _ _) _ = crcFrom (stepB _ _) _ ^^^ _
  have h3 := stepB_two (crcFrom c (l.take q)) 0#16 x (128 >>> r)
  rw [BitVec.xor_zero] at h3
  rw [h3, top_bit ⟨r, hr⟩, crcFrom_reg, ← it_add]
  congr 2
  simp only [List.length_append, List.length_cons, List.length_take, List.length_drop]
  omega
/-- The same, told from the window's begin. -/
theorem crc_flip_win (c : BitVec 16) (l : List Int) (k i : Nat) (hk : k + i < 8 * l.length) (hi : i < 16) (x : Nat) (hx : l[(k + i) / 8]'(by omega) = (x : Int)) :
    crcFrom c (l.set ((k + i) / 8) ((x ^^^ (128 >>> ((k + i) % 8)) : Nat) : Int)) = crcFrom c l ^^^ it (8 * l.length - k) (BitVec.ofNat 16 (32768 >>> i)) := by
  rw [crc_flip c l ((k + i) / 8) ((k + i) % 8) (by omega) (by omega) x hx, show 8 * ((k + i) / 8) + (k + i) % 8 = k + i by omega, show 8 * l.length - k = (8 * l.length - (k + i)) + i by omega, it_add, win_bit ⟨i, hi⟩]
end Go.Proofs.YtecbfegohdllbaaDoor
end
section
/- The walk of the statement of layer 11 (crc) on bursts. -/
namespace Go.Proofs.YtecbfegohdllbaaDoor
open Go.RowKit
set_option linter.unusedVariables false
theorem it_zero (n : Nat) : it n 0#16 = 0#16 := by
  induction n with
  | zero => rfl
  | succ n ih => show step1 (it n 0#16) = 0#16; rw [ih, step1_zero]
theorem win_low : ∀ k j : Fin 16, j.val < 15 - k.val → (BitVec.ofNat 16 (32768 >>> k.val)).getLsbD j.val = false := by decide +kernel
theorem win_top : ∀ k : Fin 16, (BitVec.ofNat 16 (32768 >>> k.val)).getLsbD (15 - k.val) = true := by decide +kernel
theorem bit_of (X m : Nat) (hX : X < 65536) : bits .and .u16 ((X : Int) / 2 ^ m) 1 = ((X / 2 ^ m % 2 : Nat) : Int) := by
  have h1 : X / 2 ^ m ≤ X := Nat.div_le_self _ _
  have e : ((X : Int) / 2 ^ m) = ((X / 2 ^ m : Nat) : Int) := by rw [Int.natCast_ediv]; simp
  rw [e]
  generalize X / 2 ^ m = Z at *
  rw [show (1 : Int) = ((1 : Nat) : Int) from rfl, u16_and_nat Z 1 (by omega) (by omega), Nat.and_one_is_mod]
theorem u8x (a b : Nat) (ha : a < 256) (hb : b < 256) : bits .xor .u8 (a : Int) (b : Int) = ((a ^^^ b : Nat) : Int) := by
  unfold bits
  show IntKind.u8.wrap (((BitVec.ofInt 8 (a : Int) ^^^ BitVec.ofInt 8 (b : Int)) : BitVec 8).toNat : Int) = _
  rw [BitVec.ofInt_natCast, BitVec.ofInt_natCast]
  have hx : a ^^^ b < 2 ^ 8 := Nat.xor_lt_two_pow (n := 8) ha hb
  have e : (BitVec.ofNat 8 a ^^^ BitVec.ofNat 8 b).toNat = a ^^^ b := by
    rw [BitVec.toNat_xor, BitVec.toNat_ofNat, BitVec.toNat_ofNat, Nat.mod_eq_of_lt (by omega), Nat.mod_eq_of_lt (by omega)]
  rw [e, IntKind.wrap_u8']; omega
theorem flip_val (x r : Nat) (hx : x < 256) : bits .xor .u8 (x : Int) (128 / 2 ^ r) = ((x ^^^ (128 >>> r) : Nat) : Int) := by
  have e : (128 : Int) / (2 : Int) ^ r = ((128 >>> r : Nat) : Int) := by rw [Nat.shiftRight_eq_div_pow, Int.natCast_ediv]; simp
  have h1 : 128 >>> r ≤ 128 := by rw [Nat.shiftRight_eq_div_pow]; exact Nat.div_le_self _ _
  rw [e, u8x x _ hx (by omega)]
set_option maxRecDepth 20000 in
set_option maxHeartbeats 4000000 in
theorem CrcBursts_walk (a0 : Option Addr) (len0 cap0 : Nat) (z0 : List Int) (a1 : Int) (a2 : Int) (w : World) (w0 : IsRow .u8 w a0 len0 cap0 z0) (w1 : (Lit.int .i64 a1).wf = true) (w2 : (Lit.int .u16 a2).wf = true) (h4 : Four w) :
    Calls Tryd.prog 5 #[.slice a0 len0 cap0, .int .i64 a1, .int .u16 a2] w fun e w' => e = .returned (.bool true) ∧ Below w.heap.size w w' := by
  obtain ⟨e0, r0⟩ := w0.reads
  have b1 := bd_i64 w1
  have b2 := bd_u16 w2
  generalize z0.take len0 = L at *
  clear w0 w1 w2
  have hB := Below.refl w.heap.size w
  have H4 := hid (fun w' (hb : Below w.heap.size w w') => h4.later hb)
  have R0 := hid (fun w' (hb : Below w.heap.size w w') => r0.later hb)
  have F0 := hid (Reads.wf r0)
  have E0 := hid e0
  by_cases g : 600 < len0 ∨ a1 < 0 ∨ a2 = 0
  · have AW := hid (awake11 w h4)
    clear r0 h4
    by_cases g1 : 600 < len0
    · go_enter Tryd.func5, Tryd.ntmps5
      go_wp2_with fail
      refine AW.out.mono ?_
      rintro e w2 ⟨rfl, hb⟩
      go_wp2
      go_ret
      exact ⟨rfl, hb⟩
    by_cases g2 : a1 < 0
    · go_enter Tryd.func5, Tryd.ntmps5
      go_wp2_with fail
      refine AW.out.mono ?_
      rintro e w2 ⟨rfl, hb⟩
      go_wp2
      go_ret
      exact ⟨rfl, hb⟩
    · have g3 : a2 = 0 := by omega
      subst g3
      clear g
      go_enter Tryd.func5, Tryd.ntmps5
      go_wp2_with fail
      refine AW.out.mono ?_
      rintro e w2 ⟨rfl, hb⟩
      go_wp2
      go_ret
      exact ⟨rfl, hb⟩
  have g1 : len0 ≤ 600 := by omega
  have g2 : 0 ≤ a1 := by omega
  have g3 : (a2 == 0) = false := by simp; omega
  clear g
  have SE := hid (seal_any _ L w r0 h4 (by omega))
  clear r0 h4 e0
  obtain ⟨T, rfl⟩ : ∃ T : Nat, a1 = (T : Int) := ⟨a1.toNat, by omega⟩
  obtain ⟨X, rfl⟩ : ∃ X : Nat, a2 = (X : Int) := ⟨a2.toNat, by omega⟩
  go_enter Tryd.func5, Tryd.ntmps5
  go_wp2_with fail
  refine SE.out.mono ?_
  rintro e w1 ⟨s, rfl, hb, hown⟩
  have hlen : L.length = len0 := E0.out
  rw [hlen] at hown
  obtain ⟨gb, cap, hgb, rfl, hcap⟩ : ∃ gb cap, w.heap.size ≤ gb ∧ s = .slice (some ⟨gb, 0, none⟩) (len0 + 2) cap ∧ len0 + 2 ≤ cap := by
    obtain ⟨_, h⟩ := id hown
    rcases h with ⟨_, h⟩ | ⟨g, cap, cur, h1, h2, h3, h4, _⟩
    · omega
    · exact ⟨g, cap, h2, h1, h4⟩
  clear hlen
  go_wp2_with fail
  go_loopw [8, 9] (fun t i wr => ∃ (k : Nat) (l : List Int) (y : BitVec 16), k ≤ 16 ∧ i = .int .i64 k ∧ wr.ownsRow w.heap.size 5 1 (.slice (some ⟨gb, 0, none⟩) (len0 + 2) cap) (len0 + 2) (vU8 l) ∧ (∀ x ∈ l, (Lit.int .u8 x).wf = true) ∧
    crcOf l = it (8 * (len0 + 2) - T) y ∧ (∀ j, j < 16 - k → y.getLsbD j = false) ∧ (t = .bool false ∧ l = sealL L ∧ y = 0#16 ∨ t = .bool true ∧ y ≠ 0#16) ∧ Below w.heap.size w wr) (fun t i _ => 16 - (intOf i).toNat)
  case atStart => exact ⟨0, sealL L, 0#16, by omega, rfl, hown, sealL_wf F0.out, by rw [crc_seal, it_zero], by simp, .inl ⟨rfl, rfl, rfl⟩, hb⟩
  case round =>
    obtain ⟨k, l, y, hk, rfl, hown, hl, hcrc, hy, ht, hwr⟩ := hrel
    by_cases hlt : k < 16
    · have e15 : ((15 : Int) - (k : Int)) = ((15 - k : Nat) : Int) := by omega
      have hbit : bits .and .u16 ((X : Int) / 2 ^ (15 - k)) 1 = ((X / 2 ^ (15 - k) % 2 : Nat) : Int) := bit_of X (15 - k) (by omega)
      have hL : l.length = len0 + 2 := by have := hown.1; simpa [vU8] using this
      by_cases c1 : X / 2 ^ (15 - k) % 2 = 1
      · rw [c1] at hbit
        by_cases c2 : (T : Int) + (k : Int) ≤ 9223372036854775807
        · have HL := hid hL
          by_cases c3 : (T + k) / 8 < len0 + 2
          · have hc0 := hown.cellAt ((T + k) / 8) (by omega)
            have hf := hown.frozenAt ((T + k) / 8)
            have hx0 := bd_u8 (hl (l[(T + k) / 8]'(by omega)) (List.getElem_mem (by omega)))
            obtain ⟨x, hx⟩ : ∃ x : Nat, l[(T + k) / 8]'(by omega) = (x : Int) := ⟨(l[(T + k) / 8]'(by omega)).toNat, by omega⟩
            have hc : wr.cell? ⟨gb, (T + k) / 8, none⟩ = some (.int .u8 (x : Int)) := by
              rw [hc0, vU8, List.getElem?_map, List.getElem?_eq_getElem (by omega), hx]; rfl
            have hx' : x < 256 := by omega
            have HX := hid (show l[(T + k) / 8]? = some (x : Int) by rw [List.getElem?_eq_getElem (by omega), hx])
            have CR := hid hcrc
            have HT := hid ht
            have FW := hid (crc_flip_win 65535#16 l T k (by omega) hlt x hx)
            clear hc0 hx hx0 hL hcrc ht
            go_wp2_with fail
            rw [flip_val x _ hx']
            have hx3 : x ^^^ (128 >>> ((T + k) % 8)) < 2 ^ 8 := Nat.xor_lt_two_pow (n := 8) hx' (by rw [Nat.shiftRight_eq_div_pow]; exact Nat.lt_of_le_of_lt (Nat.div_le_self _ _) (by decide))
            have st := (hown.stored ((T + k) / 8) (.int .u8 ((x ^^^ (128 >>> ((T + k) % 8)) : Nat) : Int))).1
            have hyt : (y ^^^ BitVec.ofNat 16 (32768 >>> k)).getLsbD (15 - k) = true := by
              rw [BitVec.getLsbD_xor, hy (15 - k) (by omega), win_top ⟨k, hlt⟩]; rfl
            refine ⟨⟨k + 1, l.set ((T + k) / 8) ((x ^^^ (128 >>> ((T + k) % 8)) : Nat) : Int), y ^^^ BitVec.ofNat 16 (32768 >>> k), by omega, by go_num, ?_, ?_, ?_, ?_, .inr ⟨rfl, fun e0 => ?_⟩, hwr.setCell (p := ⟨gb, (T + k) / 8, none⟩) hgb _⟩, by simp [intOf]; omega⟩
            · simpa [vU8, List.map_set] using st
            · intro z hz
              rcases List.mem_or_eq_of_mem_set hz with hz | rfl
              · exact hl z hz
              · apply u8_wf <;> omega
            · show crcFrom 65535#16 _ = _
              rw [FW.out, show crcFrom 65535#16 l = crcOf l from rfl, CR.out, HL.out, it_xor]
            · intro j hj
              rw [BitVec.getLsbD_xor, hy j (by omega), win_low ⟨k, hlt⟩ ⟨j, by omega⟩ (by show j < 15 - k; omega)]; rfl
            · rw [e0] at hyt
              simp at hyt
          · clear hL
            have CR := hid hcrc
            have HT := hid ht
            clear hcrc ht
            go_wp2_with fail
            exact ⟨⟨k + 1, l, y, by omega, by go_num, hown, hl, CR.out, fun j hj => hy j (by omega), HT.out, hwr⟩, by simp [intOf]; omega⟩
        · have e2 : wrap64 ((T : Int) + (k : Int)) = (T : Int) + k - 18446744073709551616 := by
            unfold wrap64; omega
          have CR := hid hcrc
          have HT := hid ht
          clear hL hcrc ht
          go_wp2_with fail
          exact ⟨⟨k + 1, l, y, by omega, by go_num, hown, hl, CR.out, fun j hj => hy j (by omega), HT.out, hwr⟩, by simp [intOf]; omega⟩
      · rw [show X / 2 ^ (15 - k) % 2 = 0 by omega] at hbit
        have CR := hid hcrc
        have HT := hid ht
        clear hL hcrc ht
        go_wp2_with fail
        exact ⟨⟨k + 1, l, y, by omega, by go_num, hown, hl, CR.out, fun j hj => hy j (by omega), HT.out, hwr⟩, by simp [intOf]; omega⟩
    · obtain rfl : k = 16 := by omega
      have hL : l.length = len0 + 2 := by have := hown.1; simpa [vU8] using this
      have hr : Reads .u8 wr (.slice (some ⟨gb, 0, none⟩) (len0 + 2) cap) l := reads_of_owns hown hl
      rcases ht with ⟨rfl, rfl, rfl⟩ | ⟨rfl, hy0⟩
      · have hLL : L.length = len0 := E0.out
        have htk : (sealL L).take len0 = L := by rw [sealL, ← hLL]; simp
        have OP := hid (open_ok _ (sealL L) len0 hL wr hr (H4.out _ hwr) (by rw [htk]) (by omega))
        rw [htk] at OP
        clear hcrc hy hL hLL htk hr hown hl hB hb
        go_wp2_with fail
        refine OP.out.mono ?_
        rintro e w2 ⟨v1, rfl, hb2, hown2⟩
        have hB2 := chain hwr hb2
        have k1 := conv_reads v1 L w2 (reads_of_owns hown2 F0.out)
        have k2 := conv_reads _ L w2 (R0.out _ hB2)
        clear hown2 hb2
        go_wp2_with fail
        refine (awake11 _ (H4.out _ hB2)).mono ?_
        rintro e w3 ⟨rfl, hb3⟩
        have hB3 := chain hB2 hb3
        go_wp2
        go_ret
        exact ⟨rfl, hB3⟩
      · have hne : l ≠ sealL (l.take len0) := fun e => it_ne _ y hy0 (by rw [← hcrc, e]; exact crc_seal _)
        have OP := hid (open_bad _ l len0 hL wr hr (H4.out _ hwr) hne)
        clear hcrc hy hL hr hown hl hB hb hne hy0
        go_wp2_with fail
        refine OP.out.mono ?_
        rintro e w2 ⟨rfl, hb2⟩
        have hB2 := chain hwr hb2
        clear hb2
        go_wp2_with fail
        refine (awake11 _ (H4.out _ hB2)).mono ?_
        rintro e w3 ⟨rfl, hb3⟩
        have hB3 := chain hB2 hb3
        go_wp2
        go_ret
        exact ⟨rfl, hB3⟩
end Go.Proofs.YtecbfegohdllbaaDoor
end
