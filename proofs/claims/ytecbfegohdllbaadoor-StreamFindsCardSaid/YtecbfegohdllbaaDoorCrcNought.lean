/- The walk of the statement of layer 11 (crc) on what is left of sealed bytes. -/
import Derived.Test.YtecbfegohdllbaaDoorPackA
namespace Go.Proofs.YtecbfegohdllbaaDoor
open Go.RowKit
set_option linter.unusedVariables false
theorem u8_wf {x : Int} (h0 : 0 ≤ x) (h1 : x ≤ 255) : (Lit.int .u8 x).wf = true := by
  simp [Lit.wf, IntKind.min, IntKind.max, IntKind.signed, IntKind.bits]; omega
theorem sealL_wf {l : List Int} (h : ∀ x ∈ l, (Lit.int .u8 x).wf = true) : ∀ x ∈ sealL l, (Lit.int .u8 x).wf = true := by
  intro x hx
  have := hiB_bd (crcOf l); have := loB_bd (crcOf l)
  unfold sealL at hx
  simp at hx
  rcases hx with hx | rfl | rfl
  · exact h x hx
  · apply u8_wf <;> omega
  · apply u8_wf <;> omega
theorem Reads.wf {k : IntKind} {w : World} {v : Value} {l : List Int} (h : Reads k w v l) : ∀ x ∈ l, (Lit.int k x).wf = true := by
  obtain ⟨_, _, _, _, _, h3, _⟩ := h; exact h3
set_option maxRecDepth 20000 in
set_option maxHeartbeats 1000000 in
theorem CrcNought_walk (a0 : Option Addr) (len0 cap0 : Nat) (z0 : List Int) (a1 : Option Addr) (len1 cap1 : Nat) (z1 : List Int) (w : World) (w0 : IsRow .u8 w a0 len0 cap0 z0) (w1 : IsRow .u8 w a1 len1 cap1 z1) (h4 : Four w) :
    Calls Tryd.prog 6 #[.slice a0 len0 cap0, .slice a1 len1 cap1] w fun e w' => e = .returned (.bool true) ∧ Below w.heap.size w w' := by
  obtain ⟨e0, r0⟩ := w0.reads
  obtain ⟨e1, r1⟩ := w1.reads
  generalize z0.take len0 = A at *
  generalize z1.take len1 = C at *
  clear w0 w1
  have f0 := hid r0.wf
  have f1 := hid r1.wf
  have R0 := hid (fun w' (hb : Below w.heap.size w w') => r0.later hb)
  have R1 := hid (fun w' (hb : Below w.heap.size w w') => r1.later hb)
  have H4 := hid (fun w' (hb : Below w.heap.size w w') => h4.later hb)
  have OF := hid (of_any (.slice a0 len0 cap0) A w r0 h4)
  obtain ⟨i0, hi, hz0, hz1, hz2⟩ := info_parts Tryd.infoU8
  by_cases g0 : 600 < len0
  · go_enter Tryd.func6, Tryd.ntmps6
    clear r0 r1
    go_wp2_with fail
    refine (awake11 _ h4).mono ?_
    rintro e w2 ⟨rfl, hb⟩
    go_wp2
    go_ret
    exact ⟨rfl, hb⟩
  by_cases g1 : 600 < len1
  · go_enter Tryd.func6, Tryd.ntmps6
    clear r0 r1
    go_wp2_with fail
    refine (awake11 _ h4).mono ?_
    rintro e w2 ⟨rfl, hb⟩
    go_wp2
    go_ret
    exact ⟨rfl, hb⟩
  clear h4
  have e0' := hid e0
  have e1' := hid e1
  have SE := hid (fun w' hb => seal_any _ _ w' (R0.out w' hb) (H4.out w' hb) (by rw [e0]; omega))
  have RP := hid (fun (h : 0 < len1) => r1.plain (by omega))
  clear r0 r1 e0 e1
  go_enter Tryd.func6, Tryd.ntmps6
  go_wp2_with fail
  refine OF.out.mono ?_
  rintro e w2 ⟨rfl, hb⟩
  go_wp2_with fail
  go_loopw [5, 6] (fun c i wr => ∃ k : Nat, k ≤ len1 ∧ i = .int .i64 k ∧ c = .int .i32 (crcFrom (crcOf A) (C.take k)).toNat ∧ Below w.heap.size w wr) (fun c i _ => len1 - (intOf i).toNat)
  case atStart => exact ⟨0, Nat.zero_le _, rfl, rfl, hb⟩
  case round =>
    obtain ⟨k, hk, rfl, rfl, hwr⟩ := hrel
    by_cases hlt : k < len1
    · obtain ⟨b, off, cap, hv, h1, h2, hlt1, hcell⟩ := RP.out (by omega)
      have hL := e1'.out
      obtain ⟨rfl, hq, rfl⟩ := Value.slice.inj hv
      have hkc : wr.cell? ⟨b, off + k, none⟩ = some (.int .u8 C[k]) := (hwr.cell (p := ⟨b, off + k, none⟩) hlt1).trans (hcell k (by omega))
      have hx := bd_u8 (f1.out C[k] (List.getElem_mem (by omega)))
      obtain ⟨x, hxx⟩ : ∃ x : Nat, C[k] = (x : Int) := ⟨C[k].toNat, by omega⟩
      have hs := crc_snoc (crcOf A) C k (by omega)
      rw [hxx] at hkc hs hx
      have ST := hid (step_any (crcFrom (crcOf A) (C.take k)) x (by omega) wr (H4.out _ hwr))
      rw [← hs] at ST
      have h2' : len1 ≤ 9223372036854775807 := by unfold maxLen at h2; omega
      clear hs hxx hcell hv h1 h2 hL hb hq
      go_wp2_with fail
      refine ST.out.mono ?_
      rintro e w3 ⟨rfl, rfl⟩
      go_wp2
      go_roundw
      case rel => exact ⟨k + 1, by omega, by go_num, rfl, hwr⟩
      case measure => simp [intOf]; omega
    · obtain rfl : k = len1 := by omega
      have hT : C.take k = C := by rw [← e1'.out]; exact List.take_length
      rw [hT, ← crc_append]
      clear hb
      go_wp2_with fail
      refine (SE.out _ hwr).mono ?_
      rintro e w3 ⟨v1, rfl, hb, hown⟩
      have hr1 : Reads .u8 w3 v1 (sealL A) := reads_of_owns hown (sealL_wf f0.out)
      clear hown
      replace hB := chain hwr hb
      clear hb hwr
      go_wp2_with fail
      refine (of_any _ _ _ hr1 (H4.out _ hB)).mono ?_
      rintro e w4 ⟨rfl, hb⟩
      replace hB := chain hB hb
      clear hb hr1
      rw [crc_seal]
      have hL0 := e0'.out
      have hL1 := e1'.out
      have hR0 := hid (R0.out _ (hB.alloc hB.size (.cells #[] 5)))
      have hsz := hB.size
      go_wp2_with (at_builtin; refine wpList_unguard rfl ?_; refine wpList_append_reads rfl _ _ 22 rfl w.heap.size 5 i0 (.int .u8 0) .u8 1 Tryd.underlying22 hi hz0 hz1 hz2 rfl _ _ _ rfl (ownsRow_empty ?cs ?c0) (.slice a0 len0 cap0) A rfl ?c1 ?c2 ?c3 ?c4 ?_)
      case cs => rfl
      case c0 => exact hsz
      case c1 => exact hR0.out
      case c2 => simp [maxLen]; omega
      case c3 => omega
      case c4 => simp; omega
      intro v2 w5 hown2 hg2
      have hb2 : Below w.heap.size w w5 := (hB.alloc hB.size _).grown hg2 (by simp; omega) (fun k e => by simp [Value.ownBlock] at e; omega)
      have hsz2 := hb2.size
      have hR1 := hid (R1.out _ hb2)
      clear hB hsz hR0 hg2
      go_wp2_with (at_builtin; refine wpList_unguard rfl ?_; refine wpList_append_reads rfl _ _ 22 rfl w.heap.size 5 i0 (.int .u8 0) .u8 1 Tryd.underlying22 hi hz0 hz1 hz2 rfl _ _ _ rfl hown2 (.slice a1 k cap1) C rfl ?d1 ?d2 ?d3 ?d4 ?_)
      case d1 => exact hR1.out
      case d2 => simp [maxLen]; omega
      case d3 => omega
      case d4 => omega
      intro v3 w6 hown3 hg3
      have hb3 : Below w.heap.size w w6 := hb2.grown hg3 (by omega) (fun k e => (hown2.lt k e).1)
      have hr3 : Reads .u8 w6 v3 (A ++ C) := reads_of_owns (by simpa [vU8] using hown3) (fun x hx => (List.mem_append.1 hx).elim (f0.out x) (f1.out x))
      clear hown2 hown3 hg3 hb2 hsz2 hR1
      go_wp2_with fail
      refine (of_any _ _ _ hr3 (H4.out _ hb3)).mono ?_
      rintro e w7 ⟨rfl, hb⟩
      replace hb3 := chain hb3 hb
      clear hb hr3
      generalize crcOf (A ++ C) = D
      have hD : (D.toNat : Int) < 65536 := by have := D.isLt; omega
      have hD0 : (0 : Int) ≤ D.toNat := by omega
      generalize (D.toNat : Int) = d at *
      go_wp2_with fail
      refine (awake11 _ (H4.out _ hb3)).mono ?_
      rintro e w8 ⟨rfl, hb⟩
      replace hb3 := chain hb3 hb
      go_wp2
      go_ret
      exact ⟨rfl, hb3⟩
end Go.Proofs.YtecbfegohdllbaaDoor
