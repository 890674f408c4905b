/- The law FrameBack of layer 36 (frame). -/
import Derived.Test.YtecbfegohdllbaaDoorFrameAwake
namespace Go.Proofs.YtecbfegohdllbaaDoor
open Go.RowKit
set_option linter.unusedVariables false
set_option linter.unusedSimpArgs false
set_option maxRecDepth 100000 in
set_option maxHeartbeats 4000000 in
theorem frameBack_ok_right (Z : List Int) (hZ : RepWf Z) (sa : Option Addr) (len1 cap1 : Nat) (L : List Int) (a0 a1 : Addr) (w : World) (hr : Reads .u8 w (.slice sa len1 cap1) L) (hF : FC a0 a1 w) (hR : RightL Z) (hE : getE L = 0) :
    Calls Tryd.prog 11 #[.agg (rcells Z), .slice sa len1 cap1] w fun e w' => e = .returned (.bool true) ∧ Below w.heap.size w w' := by
  have F0 := hid hF
  have HZ := hid hZ.1
  have HZW := hid hZ
  have HR := hid (fun w1 (hb : Below w.heap.size w w1) => hr.later hb)
  have HB := hid (bytes_bd _ (Reads.wf hr))
  have R0 := hid (fun w1 (hb : Below w.heap.size w w1) => fget_any _ L a0 a1 w1 (hr.later hb) (F0.out.later hb).1 (F0.out.later hb).2)
  obtain ⟨g1, g2, g3⟩ := frame_get L HB.out hE
  have g4 : gotR L = getR L := by rw [gotR, if_pos hE]
  rw [g4, hE] at R0
  obtain ⟨G, hG⟩ : ∃ G, G = getR L := ⟨_, rfl⟩
  rw [← hG] at R0 g1 g2 g3
  have HGW := hid g1
  have HGR := hid g2
  have HGF := hid g3
  have HG := hid g1.1
  clear g1 g2 g3 g4 hG hE HB
  have HRR := hid hR
  clear hr hF hZ hR
  go_enter Tryd.func11, Tryd.ntmps11
  go_wp2_with (first | ((with_reducible refine at_op (.box 50 (.tmp 0)) ?_); refine wpR_box rfl (.tmp 0) rfl Z rfl ?_; intro g0 w0 hg0 hR0 hb0; have hl0 : w.heap.size ≤ g0 := Nat.le_of_eq hg0.symm; clear hg0) | ((with_reducible refine at_op (.load 50 (.tmp 2)) ?_); refine wpR_get rfl (.tmp 2) rfl g0 rfl Z HZ.out hR0 ?_))
  refine (fc_put HZW.out HRR.out (F0.out.later hb0)).mono ?_
  rintro e w2 ⟨v2, rfl, hb2, hr2⟩
  have hB2 := chain hb0 hb2
  have hR2 := hR0.later hb2
  have GT := fget_any v2 _ a0 a1 w2 hr2 (F0.out.later hB2).1 (F0.out.later hB2).2
  rw [got_frame Z HZW.out HRR.out, (get_frame Z HZW.out HRR.out).1] at GT
  replace GT := hid GT
  have hfl := frameL_len Z HZ.out
  obtain ⟨b2, o2, c2, rfl, -, -, -⟩ := reads_bytes hr2 (by rw [hfl]; decide)
  rw [hfl] at GT ⊢
  clear hr2 hfl hR0
  go_wp2_with fail
  refine GT.out.mono ?_
  rintro e w3 ⟨rfl, hb3⟩
  have hB3 := chain hB2 hb3
  have hR3 := hR2.later hb3
  clear GT hR2
  go_wp2_with (first | ((with_reducible refine at_op (.alloc 50) ?_); refine wpR_alloc rfl rfl ?_; intro g4 w4 hg4 hR4 hb4; have hl4 : w3.heap.size ≤ g4 := Nat.le_of_eq hg4.symm; clear hg4) | ((with_reducible refine at_op (.store 50 (.tmp 7) (.tmp 23)) ?_); refine wpR_put rfl (.tmp 7) (.tmp 23) rfl g4 w3.heap.size Z zeroR HZ.out rfl rfl rfl hR4 hl4 ?_; intro w5 hR5 hb5; (have hb35 := (hb4.trans (hb5.mono (Nat.le_refl _))); have hR35 := hR3.later hb35; have hB5 := chain hB3 hb35)) | ((with_reducible refine at_op (.load 50 (.tmp 7)) ?_); refine wpR_get rfl (.tmp 7) rfl g4 rfl Z HZ.out hR5 ?_) | ((with_reducible refine at_op (.load 50 (.tmp 2)) ?_); refine wpR_get rfl (.tmp 2) rfl g0 rfl Z HZ.out hR35 ?_) | ((with_reducible refine at_op (.binOp .neq 50 (.tmp 25) (.tmp 26) 50) ?_); refine wpR_neq rfl (.tmp 25) (.tmp 26) _ rfl Z Z HZ.out HZ.out rfl rfl ?_))
  refine (R0.out _ hB5).mono ?_
  rintro e w14 ⟨rfl, hb14⟩
  have hB14 := chain hB5 hb14
  clear R0
  go_wp2_with (first | ((with_reducible refine at_op (.alloc 50) ?_); refine wpR_alloc rfl rfl ?_; intro g15 w15 hg15 hR15 hb15; have hl15 : w14.heap.size ≤ g15 := Nat.le_of_eq hg15.symm; clear hg15) | ((with_reducible refine at_op (.store 50 (.tmp 9) (.tmp 40)) ?_); refine wpR_put rfl (.tmp 9) (.tmp 40) rfl g15 w14.heap.size G zeroR HG.out rfl rfl rfl hR15 hl15 ?_; intro w16 hR16 hb16) | ((with_reducible refine at_op (.load 50 (.tmp 9)) ?_); refine wpR_get rfl (.tmp 9) rfl g15 rfl G HG.out hR16 ?_))
  have hb1416 := (hb15.trans (hb16.mono (Nat.le_refl _)))
  have hB16 := chain hB14 hb1416
  clear hR15 hl15 hb15 hb16
  refine (fc_put HGW.out HGR.out (F0.out.later hB16)).mono ?_
  rintro e w17 ⟨v17, rfl, hb17, hr17⟩
  have hB17 := chain hB16 hb17
  rw [HGF.out] at hr17
  have q1 := conv_reads_later _ _ w17 hr17 w17 (Below.refl _ _)
  have q2 := conv_reads_later _ _ w17 (HR.out _ hB17) w17 (Below.refl _ _)
  generalize strOfNums L = SS at q1 q2
  go_wp2_with fail
  refine (awake36 a0 a1 w17 (F0.out.later hB17)).mono ?_
  rintro e w18 ⟨rfl, hb18⟩
  go_wp2
  go_ret
  exact ⟨rfl, chain hB17 hb18⟩
set_option maxRecDepth 100000 in
set_option maxHeartbeats 4000000 in
theorem frameBack_ok_wrong (Z : List Int) (hZ : RepWf Z) (sa : Option Addr) (len1 cap1 : Nat) (L : List Int) (a0 a1 : Addr) (w : World) (hr : Reads .u8 w (.slice sa len1 cap1) L) (hF : FC a0 a1 w) (hR : ¬ RightL Z) (hE : getE L = 0) :
    Calls Tryd.prog 11 #[.agg (rcells Z), .slice sa len1 cap1] w fun e w' => e = .returned (.bool true) ∧ Below w.heap.size w w' := by
  have F0 := hid hF
  have HZ := hid hZ.1
  have HZW := hid hZ
  have HR := hid (fun w1 (hb : Below w.heap.size w w1) => hr.later hb)
  have HB := hid (bytes_bd _ (Reads.wf hr))
  have R0 := hid (fun w1 (hb : Below w.heap.size w w1) => fget_any _ L a0 a1 w1 (hr.later hb) (F0.out.later hb).1 (F0.out.later hb).2)
  obtain ⟨g1, g2, g3⟩ := frame_get L HB.out hE
  have g4 : gotR L = getR L := by rw [gotR, if_pos hE]
  rw [g4, hE] at R0
  obtain ⟨G, hG⟩ : ∃ G, G = getR L := ⟨_, rfl⟩
  rw [← hG] at R0 g1 g2 g3
  have HGW := hid g1
  have HGR := hid g2
  have HGF := hid g3
  have HG := hid g1.1
  clear g1 g2 g3 g4 hG hE HB
  have PE := hid (putE_wrong hR)
  clear hr hF hZ hR
  go_enter Tryd.func11, Tryd.ntmps11
  go_wp2_with (first | ((with_reducible refine at_op (.box 50 (.tmp 0)) ?_); refine wpR_box rfl (.tmp 0) rfl Z rfl ?_; intro g0 w0 hg0 hR0 hb0; have hl0 : w.heap.size ≤ g0 := Nat.le_of_eq hg0.symm; clear hg0) | ((with_reducible refine at_op (.load 50 (.tmp 2)) ?_); refine wpR_get rfl (.tmp 2) rfl g0 rfl Z HZ.out hR0 ?_))
  refine (fput_any Z HZW.out a0 a1 w0 (F0.out.later hb0)).mono ?_
  rintro e w2 ⟨v2, rfl, hb2, -⟩
  rw [PE.out]
  have hB2 := chain hb0 hb2
  clear hR0
  go_wp2_with fail
  refine (R0.out _ hB2).mono ?_
  rintro e w14 ⟨rfl, hb14⟩
  have hB14 := chain hB2 hb14
  clear R0
  go_wp2_with (first | ((with_reducible refine at_op (.alloc 50) ?_); refine wpR_alloc rfl rfl ?_; intro g15 w15 hg15 hR15 hb15; have hl15 : w14.heap.size ≤ g15 := Nat.le_of_eq hg15.symm; clear hg15) | ((with_reducible refine at_op (.store 50 (.tmp 9) (.tmp 40)) ?_); refine wpR_put rfl (.tmp 9) (.tmp 40) rfl g15 w14.heap.size G zeroR HG.out rfl rfl rfl hR15 hl15 ?_; intro w16 hR16 hb16) | ((with_reducible refine at_op (.load 50 (.tmp 9)) ?_); refine wpR_get rfl (.tmp 9) rfl g15 rfl G HG.out hR16 ?_))
  have hb1416 := (hb15.trans (hb16.mono (Nat.le_refl _)))
  have hB16 := chain hB14 hb1416
  clear hR15 hl15 hb15 hb16
  refine (fc_put HGW.out HGR.out (F0.out.later hB16)).mono ?_
  rintro e w17 ⟨v17, rfl, hb17, hr17⟩
  have hB17 := chain hB16 hb17
  rw [HGF.out] at hr17
  have q1 := conv_reads_later _ _ w17 hr17 w17 (Below.refl _ _)
  have q2 := conv_reads_later _ _ w17 (HR.out _ hB17) w17 (Below.refl _ _)
  generalize strOfNums L = SS at q1 q2
  go_wp2_with fail
  refine (awake36 a0 a1 w17 (F0.out.later hB17)).mono ?_
  rintro e w18 ⟨rfl, hb18⟩
  go_wp2
  go_ret
  exact ⟨rfl, chain hB17 hb18⟩
set_option maxRecDepth 100000 in
set_option maxHeartbeats 4000000 in
theorem frameBack_bad_right (Z : List Int) (hZ : RepWf Z) (sa : Option Addr) (len1 cap1 : Nat) (L : List Int) (a0 a1 : Addr) (w : World) (hr : Reads .u8 w (.slice sa len1 cap1) L) (hF : FC a0 a1 w) (hR : RightL Z) (hE : ¬ getE L = 0) :
    Calls Tryd.prog 11 #[.agg (rcells Z), .slice sa len1 cap1] w fun e w' => e = .returned (.bool true) ∧ Below w.heap.size w w' := by
  have F0 := hid hF
  have HZ := hid hZ.1
  have HZW := hid hZ
  have HR := hid (fun w1 (hb : Below w.heap.size w w1) => hr.later hb)
  have HB := hid (bytes_bd _ (Reads.wf hr))
  have R0 := hid (fun w1 (hb : Below w.heap.size w w1) => fget_any _ L a0 a1 w1 (hr.later hb) (F0.out.later hb).1 (F0.out.later hb).2)
  have g4 : gotR L = zeroR := by rw [gotR, if_neg hE]
  rw [g4] at R0
  generalize getE L = er at R0 hE
  have hne : (er != 0) = true := by simpa using hE
  clear g4 hE HB
  have HRR := hid hR
  clear hr hF hZ hR
  go_enter Tryd.func11, Tryd.ntmps11
  go_wp2_with (first | ((with_reducible refine at_op (.box 50 (.tmp 0)) ?_); refine wpR_box rfl (.tmp 0) rfl Z rfl ?_; intro g0 w0 hg0 hR0 hb0; have hl0 : w.heap.size ≤ g0 := Nat.le_of_eq hg0.symm; clear hg0) | ((with_reducible refine at_op (.load 50 (.tmp 2)) ?_); refine wpR_get rfl (.tmp 2) rfl g0 rfl Z HZ.out hR0 ?_))
  refine (fc_put HZW.out HRR.out (F0.out.later hb0)).mono ?_
  rintro e w2 ⟨v2, rfl, hb2, hr2⟩
  have hB2 := chain hb0 hb2
  have hR2 := hR0.later hb2
  have GT := fget_any v2 _ a0 a1 w2 hr2 (F0.out.later hB2).1 (F0.out.later hB2).2
  rw [got_frame Z HZW.out HRR.out, (get_frame Z HZW.out HRR.out).1] at GT
  replace GT := hid GT
  have hfl := frameL_len Z HZ.out
  obtain ⟨b2, o2, c2, rfl, -, -, -⟩ := reads_bytes hr2 (by rw [hfl]; decide)
  rw [hfl] at GT ⊢
  clear hr2 hfl hR0
  go_wp2_with fail
  refine GT.out.mono ?_
  rintro e w3 ⟨rfl, hb3⟩
  have hB3 := chain hB2 hb3
  have hR3 := hR2.later hb3
  clear GT hR2
  go_wp2_with (first | ((with_reducible refine at_op (.alloc 50) ?_); refine wpR_alloc rfl rfl ?_; intro g4 w4 hg4 hR4 hb4; have hl4 : w3.heap.size ≤ g4 := Nat.le_of_eq hg4.symm; clear hg4) | ((with_reducible refine at_op (.store 50 (.tmp 7) (.tmp 23)) ?_); refine wpR_put rfl (.tmp 7) (.tmp 23) rfl g4 w3.heap.size Z zeroR HZ.out rfl rfl rfl hR4 hl4 ?_; intro w5 hR5 hb5; (have hb35 := (hb4.trans (hb5.mono (Nat.le_refl _))); have hR35 := hR3.later hb35; have hB5 := chain hB3 hb35)) | ((with_reducible refine at_op (.load 50 (.tmp 7)) ?_); refine wpR_get rfl (.tmp 7) rfl g4 rfl Z HZ.out hR5 ?_) | ((with_reducible refine at_op (.load 50 (.tmp 2)) ?_); refine wpR_get rfl (.tmp 2) rfl g0 rfl Z HZ.out hR35 ?_) | ((with_reducible refine at_op (.binOp .neq 50 (.tmp 25) (.tmp 26) 50) ?_); refine wpR_neq rfl (.tmp 25) (.tmp 26) _ rfl Z Z HZ.out HZ.out rfl rfl ?_))
  refine (R0.out _ hB5).mono ?_
  rintro e w14 ⟨rfl, hb14⟩
  have hB14 := chain hB5 hb14
  clear R0
  go_wp2_with (first | ((with_reducible refine at_op (.alloc 50) ?_); refine wpR_alloc rfl rfl ?_; intro g15 w15 hg15 hR15 hb15; have hl15 : w14.heap.size ≤ g15 := Nat.le_of_eq hg15.symm; clear hg15) | ((with_reducible refine at_op (.store 50 (.tmp 9) (.tmp 40)) ?_); refine wpR_put rfl (.tmp 9) (.tmp 40) rfl g15 w14.heap.size zeroR zeroR rfl rfl rfl rfl hR15 hl15 ?_; intro w16 hR16 hb16) | ((with_reducible refine at_op (.load 50 (.tmp 9)) ?_); refine wpR_get rfl (.tmp 9) rfl g15 rfl zeroR rfl hR16 ?_) | ((with_reducible refine at_op (.binOp .eql 50 (.tmp 44) (.tmp 45) 50) ?_); refine wpR_eql rfl (.tmp 44) (.tmp 45) _ rfl zeroR zeroR rfl rfl rfl rfl ?_))
  have hb1416 := (hb15.trans (hb16.mono (Nat.le_refl _)))
  have hB16 := chain hB14 hb1416
  clear hR15 hl15 hb15 hb16
  refine (awake36 a0 a1 w16 (F0.out.later hB16)).mono ?_
  rintro e w18 ⟨rfl, hb18⟩
  go_wp2
  go_ret
  exact ⟨rfl, chain hB16 hb18⟩
set_option maxRecDepth 100000 in
set_option maxHeartbeats 4000000 in
theorem frameBack_bad_wrong (Z : List Int) (hZ : RepWf Z) (sa : Option Addr) (len1 cap1 : Nat) (L : List Int) (a0 a1 : Addr) (w : World) (hr : Reads .u8 w (.slice sa len1 cap1) L) (hF : FC a0 a1 w) (hR : ¬ RightL Z) (hE : ¬ getE L = 0) :
    Calls Tryd.prog 11 #[.agg (rcells Z), .slice sa len1 cap1] w fun e w' => e = .returned (.bool true) ∧ Below w.heap.size w w' := by
  have F0 := hid hF
  have HZ := hid hZ.1
  have HZW := hid hZ
  have HR := hid (fun w1 (hb : Below w.heap.size w w1) => hr.later hb)
  have HB := hid (bytes_bd _ (Reads.wf hr))
  have R0 := hid (fun w1 (hb : Below w.heap.size w w1) => fget_any _ L a0 a1 w1 (hr.later hb) (F0.out.later hb).1 (F0.out.later hb).2)
  have g4 : gotR L = zeroR := by rw [gotR, if_neg hE]
  rw [g4] at R0
  generalize getE L = er at R0 hE
  have hne : (er != 0) = true := by simpa using hE
  clear g4 hE HB
  have PE := hid (putE_wrong hR)
  clear hr hF hZ hR
  go_enter Tryd.func11, Tryd.ntmps11
  go_wp2_with (first | ((with_reducible refine at_op (.box 50 (.tmp 0)) ?_); refine wpR_box rfl (.tmp 0) rfl Z rfl ?_; intro g0 w0 hg0 hR0 hb0; have hl0 : w.heap.size ≤ g0 := Nat.le_of_eq hg0.symm; clear hg0) | ((with_reducible refine at_op (.load 50 (.tmp 2)) ?_); refine wpR_get rfl (.tmp 2) rfl g0 rfl Z HZ.out hR0 ?_))
  refine (fput_any Z HZW.out a0 a1 w0 (F0.out.later hb0)).mono ?_
  rintro e w2 ⟨v2, rfl, hb2, -⟩
  rw [PE.out]
  have hB2 := chain hb0 hb2
  clear hR0
  go_wp2_with fail
  refine (R0.out _ hB2).mono ?_
  rintro e w14 ⟨rfl, hb14⟩
  have hB14 := chain hB2 hb14
  clear R0
  go_wp2_with (first | ((with_reducible refine at_op (.alloc 50) ?_); refine wpR_alloc rfl rfl ?_; intro g15 w15 hg15 hR15 hb15; have hl15 : w14.heap.size ≤ g15 := Nat.le_of_eq hg15.symm; clear hg15) | ((with_reducible refine at_op (.store 50 (.tmp 9) (.tmp 40)) ?_); refine wpR_put rfl (.tmp 9) (.tmp 40) rfl g15 w14.heap.size zeroR zeroR rfl rfl rfl rfl hR15 hl15 ?_; intro w16 hR16 hb16) | ((with_reducible refine at_op (.load 50 (.tmp 9)) ?_); refine wpR_get rfl (.tmp 9) rfl g15 rfl zeroR rfl hR16 ?_) | ((with_reducible refine at_op (.binOp .eql 50 (.tmp 44) (.tmp 45) 50) ?_); refine wpR_eql rfl (.tmp 44) (.tmp 45) _ rfl zeroR zeroR rfl rfl rfl rfl ?_))
  have hb1416 := (hb15.trans (hb16.mono (Nat.le_refl _)))
  have hB16 := chain hB14 hb1416
  clear hR15 hl15 hb15 hb16
  refine (awake36 a0 a1 w16 (F0.out.later hB16)).mono ?_
  rintro e w18 ⟨rfl, hb18⟩
  go_wp2
  go_ret
  exact ⟨rfl, chain hB16 hb18⟩
theorem FrameBack_walk (Z : List Int) (hl : Z.length = 11) (sa : Option Addr) (len1 cap1 : Nat) (z1 : List Int) (w : World)
    (w0 : ∀ (i : Nat) (k : IntKind) (z : Int), rkinds[i]? = some k → Z[i]? = some z → (Lit.int k z).wf = true) (w1 : IsRow .u8 w sa len1 cap1 z1) (h4 : Four w) (a0 a1 : Addr) (hE : ErrsAt w a0 a1) :
    Calls Tryd.prog 11 #[.agg (List.zipWith Value.int rkinds Z).toArray, .slice sa len1 cap1] w fun e w' => e = .returned (.bool true) ∧ Below w.heap.size w w' := by
  obtain ⟨_, hr⟩ := w1.reads
  by_cases hR : RightL Z <;> by_cases hG : getE (z1.take len1) = 0
  · exact frameBack_ok_right Z ⟨hl, w0⟩ sa len1 cap1 _ a0 a1 w hr ⟨h4, hE⟩ hR hG
  · exact frameBack_bad_right Z ⟨hl, w0⟩ sa len1 cap1 _ a0 a1 w hr ⟨h4, hE⟩ hR hG
  · exact frameBack_ok_wrong Z ⟨hl, w0⟩ sa len1 cap1 _ a0 a1 w hr ⟨h4, hE⟩ hR hG
  · exact frameBack_bad_wrong Z ⟨hl, w0⟩ sa len1 cap1 _ a0 a1 w hr ⟨h4, hE⟩ hR hG
end Go.Proofs.YtecbfegohdllbaaDoor
