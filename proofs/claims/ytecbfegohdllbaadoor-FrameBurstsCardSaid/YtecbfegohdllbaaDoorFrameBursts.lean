/- The law FrameBursts of layer 36 (frame). -/
import Derived.Test.YtecbfegohdllbaaDoorFrameAwake
import Derived.Test.YtecbfegohdllbaaDoorFlip
namespace Go.Proofs.YtecbfegohdllbaaDoor
open Go.RowKit
set_option linter.unusedVariables false
set_option linter.unusedSimpArgs false
theorem flip_far {M l : List Int} {y : BitVec 16} {N : Nat} (Y : List Int) (n : Nat) (hM : M = sealL Y) (hn : Y.length = n) (hF : FlipOK M l y N) : (l = sealL (l.take n)) ↔ (M = l) := by
  constructor
  · intro h
    by_cases hy : y = 0#16
    · exact (hF.2.2.2 hy).symm
    · exfalso
      have h1 := hF.2.2.1
      have h2 : crcOf l = 0#16 := by rw [h]; exact crc_seal _
      have h3 : crcOf M = 0#16 := by rw [hM]; exact crc_seal _
      rw [h2, h3, BitVec.zero_xor] at h1
      exact it_ne N y hy h1.symm
  · intro h
    subst h
    rw [hM, ← hn, seal_take]
theorem flip_sum {Z l : List Int} {y : BitVec 16} {N : Nat} (hZ : Z.length = 11) (hF : FlipOK (frameL Z) l y N) (hne : frameL Z ≠ l) : getE l = 7 ∧ gotR l = zeroR := by
  have hl : l.length = 32 := hF.1.trans (frameL_len Z hZ)
  have h1 := flip_far (bodyL Z) 30 rfl (bodyL_len Z hZ) hF
  have e : getE l = 7 := by
    unfold getE
    rw [if_neg (by omega), if_neg (by omega), if_pos (fun h => hne (h1.1 h))]
  exact ⟨e, by unfold gotR; rw [e]; rfl⟩
set_option maxRecDepth 100000 in
set_option maxHeartbeats 4000000 in
theorem frameBursts_of (Z : List Int) (hZ : RepWf Z) (T X : Int) (wT : (Lit.int .i64 T).wf = true) (wX : (Lit.int .u16 X).wf = true) (a0 a1 : Addr) (w : World) (hF : FC a0 a1 w) :
    Calls Tryd.prog 12 #[.agg (rcells Z), .int .i64 T, .int .u16 X] w fun e w' => e = .returned (.bool true) ∧ Below w.heap.size w w' := by
  have F0 := hid hF
  have bT := hid (bd_i64 wT)
  have bX := hid (bd_u16 wX)
  have HZ := hid hZ.1
  have HZW := hid hZ
  clear hF wT wX hZ
  by_cases hR : RightL Z
  case neg =>
    have PE := hid (putE_wrong hR)
    clear hR
    go_enter Tryd.func12, Tryd.ntmps12
    go_wp2_with (first | ((with_reducible refine at_op (.box 50 (.tmp 0)) ?_); refine wpR_box rfl (.tmp 0) rfl Z rfl ?_; intro g0 w0 hg0 hR0 hb0; have hl0 : w.heap.size ≤ g0 := Nat.le_of_eq hg0.symm; clear hg0) | ((with_reducible refine at_op (.load 50 (.tmp 3)) ?_); refine wpR_get rfl (.tmp 3) rfl g0 rfl Z HZ.out hR0 ?_))
    refine (fput_any Z HZW.out a0 a1 w0 (F0.out.later hb0)).mono ?_
    rintro e w2 ⟨v2, rfl, hb2, -⟩
    rw [PE.out]
    have hB2 := chain hb0 hb2
    clear hR0
    go_wp2_with fail
    refine (awake36 a0 a1 w2 (F0.out.later hB2)).mono ?_
    rintro e w9 ⟨rfl, hb9⟩
    go_wp2
    go_ret
    exact ⟨rfl, chain hB2 hb9⟩
  have HRR := hid hR
  clear hR
  go_enter Tryd.func12, Tryd.ntmps12
  go_wp2_with (first | ((with_reducible refine at_op (.box 50 (.tmp 0)) ?_); refine wpR_box rfl (.tmp 0) rfl Z rfl ?_; intro g0 w0 hg0 hR0 hb0; have hl0 : w.heap.size ≤ g0 := Nat.le_of_eq hg0.symm; clear hg0) | ((with_reducible refine at_op (.load 50 (.tmp 3)) ?_); refine wpR_get rfl (.tmp 3) rfl g0 rfl Z HZ.out hR0 ?_))
  refine (fc_put HZW.out HRR.out (F0.out.later hb0)).mono ?_
  rintro e w2 ⟨v2, rfl, hb2, hr2⟩
  have hB2 := chain hb0 hb2
  have hR2 := hR0.later hb2
  have hfl := frameL_len Z HZ.out
  have FL := hid (rflip_any v2 (frameL Z) T X w2 hr2 (by omega) (by omega) bT.out bX.out)
  have HR2 := hid hr2
  obtain ⟨b2, o2, c2, rfl, -, -, -⟩ := reads_bytes hr2 (by omega)
  rw [hfl] at FL HR2 ⊢
  have HFL := hid hfl
  clear hr2 hfl hR0
  go_wp2_with fail
  refine FL.out.mono ?_
  clear FL
  rintro e w5 ⟨v5, l, y, rfl, hb5, hown5, hF⟩
  have hB5 := chain hB2 hb5
  have hR5 := hR2.later hb5
  have hr5 := reads_of_owns hown5 hF.2.1
  have ll : l.length = 32 := hF.1.trans HFL.out
  have V5 := hid (show ∃ b5 o5 c5, v5 = .slice (some ⟨b5, o5, none⟩) 32 c5 by
    obtain ⟨b5, o5, c5, h, -⟩ := hr5.plain (by omega)
    exact ⟨b5, o5, c5, by rw [h, ll]⟩)
  have SP := hid (fun w1 (h : Below w5.heap.size w5 w1) => rspan_any _ v5 (frameL Z) l w1 ((HR2.out.later hb5).later h) (hr5.later h) (by rw [ll, HFL.out]) (by rw [HFL.out]; decide))
  clear hown5 ll HFL hR2
  by_cases hml' : frameL Z = l
  · have hml := hid hml'
    clear hml'
    have R5 := hid (fget_any v5 l a0 a1 w5 hr5 (F0.out.later hB5).1 (F0.out.later hB5).2)
    rw [← hml.out, got_frame Z HZW.out HRR.out, (get_frame Z HZW.out HRR.out).1] at R5
    clear hr5 hF
    obtain ⟨b5, o5, c5, rfl⟩ := V5.out
    go_wp2_with fail
    refine R5.out.mono ?_
    clear R5
    rintro e w6 ⟨rfl, hb6⟩
    have hB6 := chain hB5 hb6
    have hR6 := hR5.later hb6
    go_wp2_with (first | ((with_reducible refine at_op (.alloc 50) ?_); refine wpR_alloc rfl rfl ?_; intro g7 w7 hg7 hR7 hb7; have hl7 : w6.heap.size ≤ g7 := Nat.le_of_eq hg7.symm; clear hg7) | ((with_reducible refine at_op (.store 50 (.tmp 10) (.tmp 27)) ?_); refine wpR_put rfl (.tmp 10) (.tmp 27) rfl g7 w6.heap.size Z zeroR HZ.out rfl rfl rfl hR7 hl7 ?_; intro w8 hR8 hb8))
    have hb68 := (hb7.trans (hb8.mono (Nat.le_refl _)))
    have hB8 := chain hB6 hb68
    have hR68 := hR6.later hb68
    clear hR7 hl7 hb7
    refine (SP.out w8 (chain hb6 hb68)).mono ?_
    rintro e w9 ⟨s, rfl, hs, hb9⟩
    have hB9 := chain hB8 hb9
    have hR9 := hR8.later hb9
    have hR69 := hR68.later hb9
    obtain rfl := hs.2 hml.out
    clear hs
    go_wp2_with (first | ((with_reducible refine at_op (.load 50 (.tmp 10)) ?_); refine wpR_get rfl (.tmp 10) rfl g7 rfl Z HZ.out hR9 ?_) | ((with_reducible refine at_op (.load 50 (.tmp 3)) ?_); refine wpR_get rfl (.tmp 3) rfl g0 rfl Z HZ.out hR69 ?_) | ((with_reducible refine at_op (.binOp .eql 50 (.tmp 33) (.tmp 34) 50) ?_); refine wpR_eql rfl (.tmp 33) (.tmp 34) _ rfl Z Z HZ.out HZ.out rfl rfl ?_))
    refine (awake36 a0 a1 w9 (F0.out.later hB9)).mono ?_
    rintro e w10 ⟨rfl, hb10⟩
    go_wp2
    go_ret
    exact ⟨rfl, chain hB9 hb10⟩
  · have hml := hid hml'
    clear hml'
    have R5 := hid (fget_any v5 l a0 a1 w5 hr5 (F0.out.later hB5).1 (F0.out.later hB5).2)
    rw [(flip_sum HZ.out hF hml.out).1, (flip_sum HZ.out hF hml.out).2] at R5
    clear hr5 hF
    obtain ⟨b5, o5, c5, rfl⟩ := V5.out
    go_wp2_with fail
    refine R5.out.mono ?_
    clear R5
    rintro e w6 ⟨rfl, hb6⟩
    have hB6 := chain hB5 hb6
    have hR6 := hR5.later hb6
    go_wp2_with (first | ((with_reducible refine at_op (.alloc 50) ?_); refine wpR_alloc rfl rfl ?_; intro g7 w7 hg7 hR7 hb7; have hl7 : w6.heap.size ≤ g7 := Nat.le_of_eq hg7.symm; clear hg7) | ((with_reducible refine at_op (.store 50 (.tmp 10) (.tmp 27)) ?_); refine wpR_put rfl (.tmp 10) (.tmp 27) rfl g7 w6.heap.size zeroR zeroR rfl rfl rfl rfl hR7 hl7 ?_; intro w8 hR8 hb8))
    have hb68 := (hb7.trans (hb8.mono (Nat.le_refl _)))
    have hB8 := chain hB6 hb68
    have hR68 := hR6.later hb68
    clear hR7 hl7 hb7
    refine (SP.out w8 (chain hb6 hb68)).mono ?_
    rintro e w9 ⟨s, rfl, hs, hb9⟩
    have hB9 := chain hB8 hb9
    have hR9 := hR8.later hb9
    have hR69 := hR68.later hb9
    have hs0 : (s == 0) = false := by simpa using fun h => hml.out (hs.1 h)
    clear hs
    go_wp2_with (first | ((with_reducible refine at_op (.load 50 (.tmp 10)) ?_); refine wpR_get rfl (.tmp 10) rfl g7 rfl zeroR rfl hR9 ?_) | ((with_reducible refine at_op (.binOp .eql 50 (.tmp 43) (.tmp 44) 50) ?_); refine wpR_eql rfl (.tmp 43) (.tmp 44) _ rfl zeroR zeroR rfl rfl rfl rfl ?_))
    refine (awake36 a0 a1 w9 (F0.out.later hB9)).mono ?_
    rintro e w10 ⟨rfl, hb10⟩
    go_wp2
    go_ret
    exact ⟨rfl, chain hB9 hb10⟩
theorem FrameBursts_walk (Z : List Int) (hl : Z.length = 11) (T X : Int) (w : World)
    (w0 : ∀ (i : Nat) (k : IntKind) (z : Int), rkinds[i]? = some k → Z[i]? = some z → (Lit.int k z).wf = true) (w1 : (Lit.int .i64 T).wf = true) (w2 : (Lit.int .u16 X).wf = true) (h4 : Four w) (a0 a1 : Addr) (hE : ErrsAt w a0 a1) :
    Calls Tryd.prog 12 #[.agg (List.zipWith Value.int rkinds Z).toArray, .int .i64 T, .int .u16 X] w fun e w' => e = .returned (.bool true) ∧ Below w.heap.size w w' :=
  frameBursts_of Z ⟨hl, w0⟩ T X w1 w2 a0 a1 w ⟨h4, hE⟩
end Go.Proofs.YtecbfegohdllbaaDoor
