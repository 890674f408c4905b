/- Layer 47 (log): word: a contract. -/
import Derived.Test.YtecbfegohdllbaaDoorLog23
namespace Go.Proofs.YtecbfegohdllbaaDoor
open Go.RowKit
set_option linter.unusedVariables false
set_option linter.unusedSimpArgs false
theorem short_head (z : Nat) (Y : List Int) : shortL z ++ Y = (if z < 128 then (z : Int) else ((128 + z % 128 : Nat) : Int)) :: (if z < 128 then Y else shortL (z / 128) ++ Y) := by
  by_cases h : z < 128
  · rw [shortL_lt h, if_pos h, if_pos h]; rfl
  · rw [shortL_ge h, if_neg h, if_neg h]; rfl
theorem and127 (c : Nat) (h : c < 256) : bits .and .u8 (c : Int) 127 = ((c % 128 : Nat) : Int) := by
  have hh : ∀ m : Fin 256, bits .and .u8 (m.val : Int) 127 = ((m.val % 128 : Nat) : Int) := by decide +kernel
  exact hh ⟨c, h⟩
theorem and128_lo (c : Nat) (h : c < 128) : bits .and .u8 (c : Int) 128 = 0 := by
  have hh : ∀ m : Fin 128, bits .and .u8 (m.val : Int) 128 = 0 := by decide +kernel
  exact hh ⟨c, h⟩
theorem and128_hi (c : Nat) (h : c < 128) : bits .and .u8 ((128 + c : Nat) : Int) 128 = 128 := by
  have hh : ∀ m : Fin 128, bits .and .u8 ((128 + m.val : Nat) : Int) 128 = 128 := by decide +kernel
  exact hh ⟨c, h⟩
theorem bits_or_comm (k : IntKind) (x y : Int) : bits .or k x y = bits .or k y x := by
  unfold bits
  simp only [BitVec.or_comm]
theorem or_at (s : Nat) (P : Int) (zs zr : Nat) (hP : P = 2 ^ s) (hs : s ≤ 64) (h : (zs : Int) < P) (hb : (zs : Int) + P * zr < 18446744073709551616) : bits .or .u64 (zs : Int) ((zr : Int) * P) = (zs : Int) + P * zr := by
  rw [bits_or_comm, hP, or_join .u64 s zr zs (by exact hs) (by omega) (by rw [← hP]; exact h), IntKind.wrap_u64, ← hP, Int.add_comm, Int.mul_comm (zr : Int) P]
  have h1 : (0 : Int) ≤ P * zr := Int.mul_nonneg (by omega) (by omega)
  omega
theorem i32_xor_neg (n : Nat) (h : n < 2147483648) : bits .xor .i32 (n : Int) (-1) = -(n : Int) - 1 := by
  have e : BitVec.ofInt 32 (-1) = BitVec.allOnes 32 := by decide
  have e1 : BitVec.ofInt 32 (n : Int) = BitVec.ofNat 32 n := ofInt32_nat n
  have h1 := congrArg BitVec.toNat (BitVec.xor_allOnes (x := BitVec.ofNat 32 n))
  rw [BitVec.toNat_not, BitVec.toNat_ofNat, Nat.mod_eq_of_lt (by omega)] at h1
  unfold bits
  show IntKind.i32.wrap (((BitVec.ofInt 32 (n : Int) ^^^ BitVec.ofInt 32 (-1)).toNat : Nat) : Int) = _
  rw [e, e1, h1, i32wrap]
  omega
theorem and64_one (n : Nat) : bits .and .u64 (n : Int) 1 = ((n % 2 : Nat) : Int) := by
  have := and_low .u64 1 (n : Int) (by decide)
  rw [show ((2 : Int) ^ 1 - 1) = 1 from rfl, show ((2 : Int) ^ 1) = 2 from rfl, IntKind.wrap_u64] at this
  rw [this]; omega
theorem unzig (d : Int) (hd : -2147483648 ≤ d ∧ d ≤ 2147483647) : bits .xor .i32 ((zig d : Int) / 2) (wrap32 (-wrap32 (bits .and .u64 (zig d : Int) 1))) = d := by
  obtain ⟨h1, h2⟩ := hd
  rw [and64_one]
  unfold zig
  by_cases h : d < 0
  · rw [if_pos h]
    have e : ((-2 * d - 1).toNat : Int) = -2 * d - 1 := Int.toNat_of_nonneg (by omega)
    have e2 : (((-2 * d - 1).toNat % 2 : Nat) : Int) = 1 := by omega
    obtain ⟨n, hn⟩ : ∃ n : Nat, -d - 1 = n := ⟨(-d - 1).toNat, by omega⟩
    rw [e2, e, show (-2 * d - 1) / 2 = -d - 1 by omega, hn, show wrap32 (-wrap32 1) = -1 from by simp [wrap32], i32_xor_neg n (by omega)]
    omega
  · rw [if_neg h]
    have e : ((2 * d).toNat : Int) = 2 * d := Int.toNat_of_nonneg (by omega)
    have e2 : (((2 * d).toNat % 2 : Nat) : Int) = 0 := by omega
    obtain ⟨n, hn⟩ : ∃ n : Nat, d = n := ⟨d.toNat, by omega⟩
    rw [e2, e, show (2 * d) / 2 = d by omega, hn, show wrap32 (-wrap32 0) = ((0 : Nat) : Int) from by simp [wrap32], i32_xor n 0 (by omega) (by decide), Nat.xor_zero]
set_option maxRecDepth 100000 in
set_option maxHeartbeats 4000000 in
theorem word_ok (h : Nat) (d : Int) (Y : List Int) (w : World) (hd : -2147483648 ≤ d ∧ d ≤ 2147483647) (hr : RD h (shortL (zig d) ++ Y) w) (hm : Y.length ≤ 900000) :
    Calls Tryd.prog 104 #[.pointer (some ⟨h, 0, none⟩)] w fun e w' => e = .returned (.int .i32 d) ∧ RD h Y w' ∧ Turn h w w' := by
  have HZB := hid (zig_eq d hd.1 hd.2).2
  have HUZ := hid (unzig d hd)
  obtain ⟨Z, hZ⟩ : ∃ Z, Z = zig d := ⟨_, rfl⟩
  rw [← hZ] at hr HZB HUZ
  have ST := hid (show RD h (shortL Z ++ Y) w ∧ Turn h w w from ⟨hr, Turn.refl h w⟩)
  have HY := hid hm
  clear hZ hd hr hm
  go_enter Tryd.func104, Tryd.ntmps104
  go_wp2_with fail
  go_loopw [3, 6] (fun z i wr => ∃ (k zs zr : Nat), k ≤ 4 ∧ i = .int .i64 k ∧ z = .int .u64 zs ∧ Hid (Z = zs + 128 ^ k * zr ∧ zs < 128 ^ k ∧ (0 < k → 0 < zr)) ∧ RD h (shortL zr ++ Y) wr ∧ Turn h w wr) (fun _ i _ => 5 - (intOf i).toNat)
  case atStart => exact ⟨0, 0, Z, by omega, rfl, rfl, hid ⟨by omega, by decide, fun h => absurd h (by decide)⟩, ST.out.1, ST.out.2⟩
  case round =>
    obtain ⟨k, zs, zr, hk, rfl, rfl, HI, hrd, ht⟩ := hrel
    rw [short_head] at hrd
    have HT := hid (take_ok h 1 _ wr hrd (by decide) (by simp) (by
      have h1 := HY.out
      have h0 : 1 ≤ 128 ^ k := Nat.pos_of_ne_zero (by simp)
      have h5 : zr ≤ 128 ^ k * zr := Nat.le_mul_of_pos_left _ h0
      have h2 := shortL_len 4 (zr / 128) (by have := HI.out.1; have := HZB.out; omega)
      simp only [List.length_cons]
      split
      · omega
      · rw [List.length_append]; omega))
    have HTN := hid ht
    clear hrd ht
    by_cases hz : zr < 128
    · simp only [hz, if_true] at HT
      have A1 : bits .and .u8 (zr : Int) 127 = zr := by rw [and127 zr (by omega), Nat.mod_eq_of_lt hz]
      have A2 : bits .and .u8 (zr : Int) 128 = 0 := and128_lo zr hz
      have z1 : (zr : Int) < 128 := by omega
      have A4 : (Z : Int) / 4294967296 = 0 := by have := HZB.out; omega
      rcases (show k = 0 ∨ k = 1 ∨ k = 2 ∨ k = 3 ∨ k = 4 by omega) with rfl | rfl | rfl | rfl | rfl
      · have A3 : bits .or .u64 (zs : Int) (zr : Int) = (Z : Int) := by
          have h1 := HI.out.1
          have h2 := HI.out.2.1
          have h3 := HZB.out
          have := or_at 0 1 zs zr (by decide) (by decide) (by omega) (by omega)
          simp only [Int.mul_one] at this
          rw [this]; omega
        go_wp2_with fail
        refine HT.out.mono ?_
        rintro e w1 ⟨a, c, rfl, hc, hrd, hr1, ht1⟩
        obtain ⟨b, off, c', hv, -, -, hlt, hcell⟩ := hrd.plain (by simp)
        obtain ⟨rfl, -, rfl⟩ := Value.slice.inj hv
        have k0 : w1.cell? ⟨b, off, none⟩ = some (.int .u8 zr) := hcell 0 (by simp)
        have HR1 := hid hr1
        have HT1 := hid (HTN.out.trans ht1)
        have ce : w1.cell? ⟨h, 1, none⟩ = some (.int .i64 0) := by obtain ⟨ra, rc, g1, g2, g3⟩ := hr1; exact (cell_of_row w1 h 1 _ _ _ g1).trans rfl
        clear hrd hv hcell hc hr1 ht1 HT HTN
        go_wp2
        go_ret
        exact ⟨ret_int HUZ.out, HR1.out, HT1.out⟩
      · have A3 : bits .or .u64 (zs : Int) ((zr : Int) * 128) = (Z : Int) := by
          have h1 := HI.out.1
          have h2 := HI.out.2.1
          have h3 := HZB.out
          have := or_at 7 128 zs zr (by decide) (by decide) (by omega) (by omega)
          skip; try simp only [] at this
          rw [this]; omega
        have zp : ¬ (zr : Int) = 0 := by have := HI.out.2.2 (by decide); omega
        go_wp2_with fail
        refine HT.out.mono ?_
        rintro e w1 ⟨a, c, rfl, hc, hrd, hr1, ht1⟩
        obtain ⟨b, off, c', hv, -, -, hlt, hcell⟩ := hrd.plain (by simp)
        obtain ⟨rfl, -, rfl⟩ := Value.slice.inj hv
        have k0 : w1.cell? ⟨b, off, none⟩ = some (.int .u8 zr) := hcell 0 (by simp)
        have HR1 := hid hr1
        have HT1 := hid (HTN.out.trans ht1)
        have ce : w1.cell? ⟨h, 1, none⟩ = some (.int .i64 0) := by obtain ⟨ra, rc, g1, g2, g3⟩ := hr1; exact (cell_of_row w1 h 1 _ _ _ g1).trans rfl
        clear hrd hv hcell hc hr1 ht1 HT HTN
        go_wp2
        go_ret
        exact ⟨ret_int HUZ.out, HR1.out, HT1.out⟩
      · have A3 : bits .or .u64 (zs : Int) ((zr : Int) * 16384) = (Z : Int) := by
          have h1 := HI.out.1
          have h2 := HI.out.2.1
          have h3 := HZB.out
          have := or_at 14 16384 zs zr (by decide) (by decide) (by omega) (by omega)
          skip; try simp only [] at this
          rw [this]; omega
        have zp : ¬ (zr : Int) = 0 := by have := HI.out.2.2 (by decide); omega
        go_wp2_with fail
        refine HT.out.mono ?_
        rintro e w1 ⟨a, c, rfl, hc, hrd, hr1, ht1⟩
        obtain ⟨b, off, c', hv, -, -, hlt, hcell⟩ := hrd.plain (by simp)
        obtain ⟨rfl, -, rfl⟩ := Value.slice.inj hv
        have k0 : w1.cell? ⟨b, off, none⟩ = some (.int .u8 zr) := hcell 0 (by simp)
        have HR1 := hid hr1
        have HT1 := hid (HTN.out.trans ht1)
        have ce : w1.cell? ⟨h, 1, none⟩ = some (.int .i64 0) := by obtain ⟨ra, rc, g1, g2, g3⟩ := hr1; exact (cell_of_row w1 h 1 _ _ _ g1).trans rfl
        clear hrd hv hcell hc hr1 ht1 HT HTN
        go_wp2
        go_ret
        exact ⟨ret_int HUZ.out, HR1.out, HT1.out⟩
      · have A3 : bits .or .u64 (zs : Int) ((zr : Int) * 2097152) = (Z : Int) := by
          have h1 := HI.out.1
          have h2 := HI.out.2.1
          have h3 := HZB.out
          have := or_at 21 2097152 zs zr (by decide) (by decide) (by omega) (by omega)
          skip; try simp only [] at this
          rw [this]; omega
        have zp : ¬ (zr : Int) = 0 := by have := HI.out.2.2 (by decide); omega
        go_wp2_with fail
        refine HT.out.mono ?_
        rintro e w1 ⟨a, c, rfl, hc, hrd, hr1, ht1⟩
        obtain ⟨b, off, c', hv, -, -, hlt, hcell⟩ := hrd.plain (by simp)
        obtain ⟨rfl, -, rfl⟩ := Value.slice.inj hv
        have k0 : w1.cell? ⟨b, off, none⟩ = some (.int .u8 zr) := hcell 0 (by simp)
        have HR1 := hid hr1
        have HT1 := hid (HTN.out.trans ht1)
        have ce : w1.cell? ⟨h, 1, none⟩ = some (.int .i64 0) := by obtain ⟨ra, rc, g1, g2, g3⟩ := hr1; exact (cell_of_row w1 h 1 _ _ _ g1).trans rfl
        clear hrd hv hcell hc hr1 ht1 HT HTN
        go_wp2
        go_ret
        exact ⟨ret_int HUZ.out, HR1.out, HT1.out⟩
      · have A3 : bits .or .u64 (zs : Int) ((zr : Int) * 268435456) = (Z : Int) := by
          have h1 := HI.out.1
          have h2 := HI.out.2.1
          have h3 := HZB.out
          have := or_at 28 268435456 zs zr (by decide) (by decide) (by omega) (by omega)
          skip; try simp only [] at this
          rw [this]; omega
        have zp : ¬ (zr : Int) = 0 := by have := HI.out.2.2 (by decide); omega
        go_wp2_with fail
        refine HT.out.mono ?_
        rintro e w1 ⟨a, c, rfl, hc, hrd, hr1, ht1⟩
        obtain ⟨b, off, c', hv, -, -, hlt, hcell⟩ := hrd.plain (by simp)
        obtain ⟨rfl, -, rfl⟩ := Value.slice.inj hv
        have k0 : w1.cell? ⟨b, off, none⟩ = some (.int .u8 zr) := hcell 0 (by simp)
        have HR1 := hid hr1
        have HT1 := hid (HTN.out.trans ht1)
        have ce : w1.cell? ⟨h, 1, none⟩ = some (.int .i64 0) := by obtain ⟨ra, rc, g1, g2, g3⟩ := hr1; exact (cell_of_row w1 h 1 _ _ _ g1).trans rfl
        clear hrd hv hcell hc hr1 ht1 HT HTN
        go_wp2
        go_ret
        exact ⟨ret_int HUZ.out, HR1.out, HT1.out⟩
    · simp only [hz, if_false] at HT
      have hzn : ¬ (zr : Int) < 128 := by omega
      obtain ⟨lo, hlo⟩ : ∃ lo, lo = zr % 128 := ⟨_, rfl⟩
      have hl1 : lo < 128 := by omega
      have A1 : bits .and .u8 ((128 + lo : Nat) : Int) 127 = lo := by rw [and127 _ (by omega), show (128 + lo) % 128 = lo by omega]
      have A2 : bits .and .u8 ((128 + lo : Nat) : Int) 128 = 128 := and128_hi lo hl1
      rw [← hlo] at HT
      have HLO := hid hlo
      have z1 : (lo : Int) < 128 := by omega
      have HSP := hid (show zr = 128 * (zr / 128) + lo by omega)
      have HZP := hid (show 0 < zr / 128 by omega)
      obtain ⟨cc, hcc⟩ : ∃ cc, cc = 128 + lo := ⟨_, rfl⟩
      rw [← hcc] at A1 A2 HT
      have c1 : (cc : Int) ≤ 255 := by omega
      clear hlo hcc
      rcases (show k = 0 ∨ k = 1 ∨ k = 2 ∨ k = 3 ∨ k = 4 by omega) with rfl | rfl | rfl | rfl | rfl
      · obtain ⟨zn, hzn2⟩ : ∃ zn, zn = zs + 1 * lo := ⟨_, rfl⟩
        have HZN := hid hzn2
        have A3 : bits .or .u64 (zs : Int) (lo : Int) = (zn : Int) := by
          have h1 := HI.out.1
          have h2 := HI.out.2.1
          have h3 := HZB.out
          have := or_at 0 1 zs lo (by decide) (by decide) (by omega) (by omega)
          simp only [Int.mul_one] at this
          rw [this]; omega
        clear hzn2
        go_wp2_with fail
        refine HT.out.mono ?_
        rintro e w1 ⟨a, c, rfl, hc, hrd, hr1, ht1⟩
        obtain ⟨b, off, c', hv, -, -, hlt, hcell⟩ := hrd.plain (by simp)
        obtain ⟨rfl, -, rfl⟩ := Value.slice.inj hv
        have k0 : w1.cell? ⟨b, off, none⟩ = some (.int .u8 cc) := hcell 0 (by simp)
        have HR1 := hid hr1
        have HT1 := hid (HTN.out.trans ht1)
        have ce : w1.cell? ⟨h, 1, none⟩ = some (.int .i64 0) := by obtain ⟨ra, rc, g1, g2, g3⟩ := hr1; exact (cell_of_row w1 h 1 _ _ _ g1).trans rfl
        clear hrd hv hcell hc hr1 ht1 HT HTN
        go_wp2_with fail
        go_roundw
        case rel => exact ⟨1, zn, zr / 128, by omega, by go_num, rfl, hid ⟨by have h1 := HI.out.1; have h2 := HSP.out; have h3 := HZN.out; omega, by have h2 := HI.out.2.1; have h3 := HZN.out; omega, fun _ => HZP.out⟩, HR1.out, HT1.out⟩
        case measure => simp [intOf]
      · obtain ⟨zn, hzn2⟩ : ∃ zn, zn = zs + 128 * lo := ⟨_, rfl⟩
        have HZN := hid hzn2
        have A3 : bits .or .u64 (zs : Int) ((lo : Int) * 128) = (zn : Int) := by
          have h1 := HI.out.1
          have h2 := HI.out.2.1
          have h3 := HZB.out
          have := or_at 7 128 zs lo (by decide) (by decide) (by omega) (by omega)
          skip; try simp only [] at this
          rw [this]; omega
        clear hzn2
        go_wp2_with fail
        refine HT.out.mono ?_
        rintro e w1 ⟨a, c, rfl, hc, hrd, hr1, ht1⟩
        obtain ⟨b, off, c', hv, -, -, hlt, hcell⟩ := hrd.plain (by simp)
        obtain ⟨rfl, -, rfl⟩ := Value.slice.inj hv
        have k0 : w1.cell? ⟨b, off, none⟩ = some (.int .u8 cc) := hcell 0 (by simp)
        have HR1 := hid hr1
        have HT1 := hid (HTN.out.trans ht1)
        have ce : w1.cell? ⟨h, 1, none⟩ = some (.int .i64 0) := by obtain ⟨ra, rc, g1, g2, g3⟩ := hr1; exact (cell_of_row w1 h 1 _ _ _ g1).trans rfl
        clear hrd hv hcell hc hr1 ht1 HT HTN
        go_wp2_with fail
        go_roundw
        case rel => exact ⟨2, zn, zr / 128, by omega, by go_num, rfl, hid ⟨by have h1 := HI.out.1; have h2 := HSP.out; have h3 := HZN.out; omega, by have h2 := HI.out.2.1; have h3 := HZN.out; omega, fun _ => HZP.out⟩, HR1.out, HT1.out⟩
        case measure => simp [intOf]
      · obtain ⟨zn, hzn2⟩ : ∃ zn, zn = zs + 16384 * lo := ⟨_, rfl⟩
        have HZN := hid hzn2
        have A3 : bits .or .u64 (zs : Int) ((lo : Int) * 16384) = (zn : Int) := by
          have h1 := HI.out.1
          have h2 := HI.out.2.1
          have h3 := HZB.out
          have := or_at 14 16384 zs lo (by decide) (by decide) (by omega) (by omega)
          skip; try simp only [] at this
          rw [this]; omega
        clear hzn2
        go_wp2_with fail
        refine HT.out.mono ?_
        rintro e w1 ⟨a, c, rfl, hc, hrd, hr1, ht1⟩
        obtain ⟨b, off, c', hv, -, -, hlt, hcell⟩ := hrd.plain (by simp)
        obtain ⟨rfl, -, rfl⟩ := Value.slice.inj hv
        have k0 : w1.cell? ⟨b, off, none⟩ = some (.int .u8 cc) := hcell 0 (by simp)
        have HR1 := hid hr1
        have HT1 := hid (HTN.out.trans ht1)
        have ce : w1.cell? ⟨h, 1, none⟩ = some (.int .i64 0) := by obtain ⟨ra, rc, g1, g2, g3⟩ := hr1; exact (cell_of_row w1 h 1 _ _ _ g1).trans rfl
        clear hrd hv hcell hc hr1 ht1 HT HTN
        go_wp2_with fail
        go_roundw
        case rel => exact ⟨3, zn, zr / 128, by omega, by go_num, rfl, hid ⟨by have h1 := HI.out.1; have h2 := HSP.out; have h3 := HZN.out; omega, by have h2 := HI.out.2.1; have h3 := HZN.out; omega, fun _ => HZP.out⟩, HR1.out, HT1.out⟩
        case measure => simp [intOf]
      · obtain ⟨zn, hzn2⟩ : ∃ zn, zn = zs + 2097152 * lo := ⟨_, rfl⟩
        have HZN := hid hzn2
        have A3 : bits .or .u64 (zs : Int) ((lo : Int) * 2097152) = (zn : Int) := by
          have h1 := HI.out.1
          have h2 := HI.out.2.1
          have h3 := HZB.out
          have := or_at 21 2097152 zs lo (by decide) (by decide) (by omega) (by omega)
          skip; try simp only [] at this
          rw [this]; omega
        clear hzn2
        go_wp2_with fail
        refine HT.out.mono ?_
        rintro e w1 ⟨a, c, rfl, hc, hrd, hr1, ht1⟩
        obtain ⟨b, off, c', hv, -, -, hlt, hcell⟩ := hrd.plain (by simp)
        obtain ⟨rfl, -, rfl⟩ := Value.slice.inj hv
        have k0 : w1.cell? ⟨b, off, none⟩ = some (.int .u8 cc) := hcell 0 (by simp)
        have HR1 := hid hr1
        have HT1 := hid (HTN.out.trans ht1)
        have ce : w1.cell? ⟨h, 1, none⟩ = some (.int .i64 0) := by obtain ⟨ra, rc, g1, g2, g3⟩ := hr1; exact (cell_of_row w1 h 1 _ _ _ g1).trans rfl
        clear hrd hv hcell hc hr1 ht1 HT HTN
        go_wp2_with fail
        go_roundw
        case rel => exact ⟨4, zn, zr / 128, by omega, by go_num, rfl, hid ⟨by have h1 := HI.out.1; have h2 := HSP.out; have h3 := HZN.out; omega, by have h2 := HI.out.2.1; have h3 := HZN.out; omega, fun _ => HZP.out⟩, HR1.out, HT1.out⟩
        case measure => simp [intOf]
      · exfalso; have h1 := HI.out.1; have h3 := HZB.out; have h4 := HZP.out; have h5 := HSP.out; omega
end Go.Proofs.YtecbfegohdllbaaDoor
