/- The walk of the statement of layer 11 (crc) on bursts. -/
import Derived.Test.YtecbfegohdllbaaDoorCrcBits
import Derived.Test.YtecbfegohdllbaaDoorCrcNought
namespace Go.Proofs.YtecbfegohdllbaaDoor
open Go.RowKit
set_option linter.unusedVariables false
theorem it_zero (n : Nat) : it n 0#16 = 0#16 := by
  induction n with
  | zero => rfl
  | succ n ih => show step1 (it n 0#16) = 0#16; rw [ih, step1_zero]
theorem win_low : ∀ k j : Fin 16, j.val < 15 - k.val → (BitVec.ofNat 16 (32768 >>> k.val)).getLsbD j.val = false := by decide +kernel
theorem win_top : ∀ k : Fin 16, (BitVec.ofNat 16 (32768 >>> k.val)).getLsbD (15 - k.val) = true := by decide +kernel
theorem bit_of (X m : Nat) (hX : X < 65536) : bits .and .u16 ((X : Int) / 2 ^ m) 1 = ((X / 2 ^ m % 2 : Nat) : Int) := by
  have h1 : X / 2 ^ m ≤ X := Nat.div_le_self _ _
  have e : ((X : Int) / 2 ^ m) = ((X / 2 ^ m : Nat) : Int) := by rw [Int.natCast_ediv]; simp
  rw [e]
  generalize X / 2 ^ m = Z at *
  rw [show (1 : Int) = ((1 : Nat) : Int) from rfl, u16_and_nat Z 1 (by omega) (by omega), Nat.and_one_is_mod]
theorem u8x (a b : Nat) (ha : a < 256) (hb : b < 256) : bits .xor .u8 (a : Int) (b : Int) = ((a ^^^ b : Nat) : Int) := by
  unfold bits
  show IntKind.u8.wrap (((BitVec.ofInt 8 (a : Int) ^^^ BitVec.ofInt 8 (b : Int)) : BitVec 8).toNat : Int) = _
  rw [BitVec.ofInt_natCast, BitVec.ofInt_natCast]
  have hx : a ^^^ b < 2 ^ 8 := Nat.xor_lt_two_pow (n := 8) ha hb
  have e : (BitVec.ofNat 8 a ^^^ BitVec.ofNat 8 b).toNat = a ^^^ b := by
    rw [BitVec.toNat_xor, BitVec.toNat_ofNat, BitVec.toNat_ofNat, Nat.mod_eq_of_lt (by omega), Nat.mod_eq_of_lt (by omega)]
  rw [e, IntKind.wrap_u8']; omega
theorem flip_val (x r : Nat) (hx : x < 256) : bits .xor .u8 (x : Int) (128 / 2 ^ r) = ((x ^^^ (128 >>> r) : Nat) : Int) := by
  have e : (128 : Int) / (2 : Int) ^ r = ((128 >>> r : Nat) : Int) := by rw [Nat.shiftRight_eq_div_pow, Int.natCast_ediv]; simp
  have h1 : 128 >>> r ≤ 128 := by rw [Nat.shiftRight_eq_div_pow]; exact Nat.div_le_self _ _
  rw [e, u8x x _ hx (by omega)]
set_option maxRecDepth 20000 in
set_option maxHeartbeats 4000000 in
theorem CrcBursts_walk (a0 : Option Addr) (len0 cap0 : Nat) (z0 : List Int) (a1 : Int) (a2 : Int) (w : World) (w0 : IsRow .u8 w a0 len0 cap0 z0) (w1 : (Lit.int .i64 a1).wf = true) (w2 : (Lit.int .u16 a2).wf = true) (h4 : Four w) :
    Calls Tryd.prog 5 #[.slice a0 len0 cap0, .int .i64 a1, .int .u16 a2] w fun e w' => e = .returned (.bool true) ∧ Below w.heap.size w w' := by
  obtain ⟨e0, r0⟩ := w0.reads
  have b1 := bd_i64 w1
  have b2 := bd_u16 w2
  generalize z0.take len0 = L at *
  clear w0 w1 w2
  have hB := Below.refl w.heap.size w
  have H4 := hid (fun w' (hb : Below w.heap.size w w') => h4.later hb)
  have R0 := hid (fun w' (hb : Below w.heap.size w w') => r0.later hb)
  have F0 := hid (Reads.wf r0)
  have E0 := hid e0
  by_cases g : 600 < len0 ∨ a1 < 0 ∨ a2 = 0
  · have AW := hid (awake11 w h4)
    clear r0 h4
    by_cases g1 : 600 < len0
    · go_enter Tryd.func5, Tryd.ntmps5
      go_wp2_with fail
      refine AW.out.mono ?_
      rintro e w2 ⟨rfl, hb⟩
      go_wp2
      go_ret
      exact ⟨rfl, hb⟩
    by_cases g2 : a1 < 0
    · go_enter Tryd.func5, Tryd.ntmps5
      go_wp2_with fail
      refine AW.out.mono ?_
      rintro e w2 ⟨rfl, hb⟩
      go_wp2
      go_ret
      exact ⟨rfl, hb⟩
    · have g3 : a2 = 0 := by omega
      subst g3
      clear g
      go_enter Tryd.func5, Tryd.ntmps5
      go_wp2_with fail
      refine AW.out.mono ?_
      rintro e w2 ⟨rfl, hb⟩
      go_wp2
      go_ret
      exact ⟨rfl, hb⟩
  have g1 : len0 ≤ 600 := by omega
  have g2 : 0 ≤ a1 := by omega
  have g3 : (a2 == 0) = false := by simp; omega
  clear g
  have SE := hid (seal_any _ L w r0 h4 (by omega))
  clear r0 h4 e0
  obtain ⟨T, rfl⟩ : ∃ T : Nat, a1 = (T : Int) := ⟨a1.toNat, by omega⟩
  obtain ⟨X, rfl⟩ : ∃ X : Nat, a2 = (X : Int) := ⟨a2.toNat, by omega⟩
  go_enter Tryd.func5, Tryd.ntmps5
  go_wp2_with fail
  refine SE.out.mono ?_
  rintro e w1 ⟨s, rfl, hb, hown⟩
  have hlen : L.length = len0 := E0.out
  rw [hlen] at hown
  obtain ⟨gb, cap, hgb, rfl, hcap⟩ : ∃ gb cap, w.heap.size ≤ gb ∧ s = .slice (some ⟨gb, 0, none⟩) (len0 + 2) cap ∧ len0 + 2 ≤ cap := by
    obtain ⟨_, h⟩ := id hown
    rcases h with ⟨_, h⟩ | ⟨g, cap, cur, h1, h2, h3, h4, _⟩
    · omega
    · exact ⟨g, cap, h2, h1, h4⟩
  clear hlen
  go_wp2_with fail
  go_loopw [8, 9] (fun t i wr => ∃ (k : Nat) (l : List Int) (y : BitVec 16), k ≤ 16 ∧ i = .int .i64 k ∧ wr.ownsRow w.heap.size 5 1 (.slice (some ⟨gb, 0, none⟩) (len0 + 2) cap) (len0 + 2) (vU8 l) ∧ (∀ x ∈ l, (Lit.int .u8 x).wf = true) ∧
    crcOf l = it (8 * (len0 + 2) - T) y ∧ (∀ j, j < 16 - k → y.getLsbD j = false) ∧ (t = .bool false ∧ l = sealL L ∧ y = 0#16 ∨ t = .bool true ∧ y ≠ 0#16) ∧ Below w.heap.size w wr) (fun t i _ => 16 - (intOf i).toNat)
  case atStart => exact ⟨0, sealL L, 0#16, by omega, rfl, hown, sealL_wf F0.out, by rw [crc_seal, it_zero], by simp, .inl ⟨rfl, rfl, rfl⟩, hb⟩
  case round =>
    obtain ⟨k, l, y, hk, rfl, hown, hl, hcrc, hy, ht, hwr⟩ := hrel
    by_cases hlt : k < 16
    · have e15 : ((15 : Int) - (k : Int)) = ((15 - k : Nat) : Int) := by omega
      have hbit : bits .and .u16 ((X : Int) / 2 ^ (15 - k)) 1 = ((X / 2 ^ (15 - k) % 2 : Nat) : Int) := bit_of X (15 - k) (by omega)
      have hL : l.length = len0 + 2 := by have := hown.1; simpa [vU8] using this
      by_cases c1 : X / 2 ^ (15 - k) % 2 = 1
      · rw [c1] at hbit
        by_cases c2 : (T : Int) + (k : Int) ≤ 9223372036854775807
        · have HL := hid hL
          by_cases c3 : (T + k) / 8 < len0 + 2
          · have hc0 := hown.cellAt ((T + k) / 8) (by omega)
            have hf := hown.frozenAt ((T + k) / 8)
            have hx0 := bd_u8 (hl (l[(T + k) / 8]'(by omega)) (List.getElem_mem (by omega)))
            obtain ⟨x, hx⟩ : ∃ x : Nat, l[(T + k) / 8]'(by omega) = (x : Int) := ⟨(l[(T + k) / 8]'(by omega)).toNat, by omega⟩
            have hc : wr.cell? ⟨gb, (T + k) / 8, none⟩ = some (.int .u8 (x : Int)) := by
              rw [hc0, vU8, List.getElem?_map, List.getElem?_eq_getElem (by omega), hx]; rfl
            have hx' : x < 256 := by omega
            have HX := hid (show l[(T + k) / 8]? = some (x : Int) by rw [List.getElem?_eq_getElem (by omega), hx])
            have CR := hid hcrc
            have HT := hid ht
            have FW := hid (crc_flip_win 65535#16 l T k (by omega) hlt x hx)
            clear hc0 hx hx0 hL hcrc ht
            go_wp2_with fail
            rw [flip_val x _ hx']
            have hx3 : x ^^^ (128 >>> ((T + k) % 8)) < 2 ^ 8 := Nat.xor_lt_two_pow (n := 8) hx' (by rw [Nat.shiftRight_eq_div_pow]; exact Nat.lt_of_le_of_lt (Nat.div_le_self _ _) (by decide))
            have st := (hown.stored ((T + k) / 8) (.int .u8 ((x ^^^ (128 >>> ((T + k) % 8)) : Nat) : Int))).1
            have hyt : (y ^^^ BitVec.ofNat 16 (32768 >>> k)).getLsbD (15 - k) = true := by
              rw [BitVec.getLsbD_xor, hy (15 - k) (by omega), win_top ⟨k, hlt⟩]; rfl
            refine ⟨⟨k + 1, l.set ((T + k) / 8) ((x ^^^ (128 >>> ((T + k) % 8)) : Nat) : Int), y ^^^ BitVec.ofNat 16 (32768 >>> k), by omega, by go_num, ?_, ?_, ?_, ?_, .inr ⟨rfl, fun e0 => ?_⟩, hwr.setCell (p := ⟨gb, (T + k) / 8, none⟩) hgb _⟩, by simp [intOf]; omega⟩
            · simpa [vU8, List.map_set] using st
            · intro z hz
              rcases List.mem_or_eq_of_mem_set hz with hz | rfl
              · exact hl z hz
              · apply u8_wf <;> omega
            · show crcFrom 65535#16 _ = _
              rw [FW.out, show crcFrom 65535#16 l = crcOf l from rfl, CR.out, HL.out, it_xor]
            · intro j hj
              rw [BitVec.getLsbD_xor, hy j (by omega), win_low ⟨k, hlt⟩ ⟨j, by omega⟩ (by show j < 15 - k; omega)]; rfl
            · rw [e0] at hyt
              simp at hyt
          · clear hL
            have CR := hid hcrc
            have HT := hid ht
            clear hcrc ht
            go_wp2_with fail
            exact ⟨⟨k + 1, l, y, by omega, by go_num, hown, hl, CR.out, fun j hj => hy j (by omega), HT.out, hwr⟩, by simp [intOf]; omega⟩
        · have e2 : wrap64 ((T : Int) + (k : Int)) = (T : Int) + k - 18446744073709551616 := by
            unfold wrap64; omega
          have CR := hid hcrc
          have HT := hid ht
          clear hL hcrc ht
          go_wp2_with fail
          exact ⟨⟨k + 1, l, y, by omega, by go_num, hown, hl, CR.out, fun j hj => hy j (by omega), HT.out, hwr⟩, by simp [intOf]; omega⟩
      · rw [show X / 2 ^ (15 - k) % 2 = 0 by omega] at hbit
        have CR := hid hcrc
        have HT := hid ht
        clear hL hcrc ht
        go_wp2_with fail
        exact ⟨⟨k + 1, l, y, by omega, by go_num, hown, hl, CR.out, fun j hj => hy j (by omega), HT.out, hwr⟩, by simp [intOf]; omega⟩
    · obtain rfl : k = 16 := by omega
      have hL : l.length = len0 + 2 := by have := hown.1; simpa [vU8] using this
      have hr : Reads .u8 wr (.slice (some ⟨gb, 0, none⟩) (len0 + 2) cap) l := reads_of_owns hown hl
      rcases ht with ⟨rfl, rfl, rfl⟩ | ⟨rfl, hy0⟩
      · have hLL : L.length = len0 := E0.out
        have htk : (sealL L).take len0 = L := by rw [sealL, ← hLL]; simp
        have OP := hid (open_ok _ (sealL L) len0 hL wr hr (H4.out _ hwr) (by rw [htk]) (by omega))
        rw [htk] at OP
        clear hcrc hy hL hLL htk hr hown hl hB hb
        go_wp2_with fail
        refine OP.out.mono ?_
        rintro e w2 ⟨v1, rfl, hb2, hown2⟩
        have hB2 := chain hwr hb2
        have k1 := conv_reads v1 L w2 (reads_of_owns hown2 F0.out)
        have k2 := conv_reads _ L w2 (R0.out _ hB2)
        clear hown2 hb2
        go_wp2_with fail
        refine (awake11 _ (H4.out _ hB2)).mono ?_
        rintro e w3 ⟨rfl, hb3⟩
        have hB3 := chain hB2 hb3
        go_wp2
        go_ret
        exact ⟨rfl, hB3⟩
      · have hne : l ≠ sealL (l.take len0) := fun e => it_ne _ y hy0 (by rw [← hcrc, e]; exact crc_seal _)
        have OP := hid (open_bad _ l len0 hL wr hr (H4.out _ hwr) hne)
        clear hcrc hy hL hr hown hl hB hb hne hy0
        go_wp2_with fail
        refine OP.out.mono ?_
        rintro e w2 ⟨rfl, hb2⟩
        have hB2 := chain hwr hb2
        clear hb2
        go_wp2_with fail
        refine (awake11 _ (H4.out _ hB2)).mono ?_
        rintro e w3 ⟨rfl, hb3⟩
        have hB3 := chain hB2 hb3
        go_wp2
        go_ret
        exact ⟨rfl, hB3⟩
end Go.Proofs.YtecbfegohdllbaaDoor
