/- The law FrameTells of layer 36 (frame). -/
import Derived.Test.YtecbfegohdllbaaDoorFrameAwake
namespace Go.Proofs.YtecbfegohdllbaaDoor
open Go.RowKit
set_option linter.unusedVariables false
set_option linter.unusedSimpArgs false
set_option maxRecDepth 100000 in
set_option maxHeartbeats 4000000 in
theorem frameTells_of (Z : List Int) (hZ : RepWf Z) (sa : Option Addr) (len1 cap1 : Nat) (z1 : List Int) (a0 a1 : Addr) (w : World) (w1 : IsRow .u8 w sa len1 cap1 z1) (hF : FC a0 a1 w) :
    Calls Tryd.prog 10 #[.agg (rcells Z), .slice sa len1 cap1] w fun e w' => e = .returned (.bool true) ∧ Below w.heap.size w w' := by
  obtain ⟨hl, hr⟩ := w1.reads
  have F0 := hid hF
  have HZ := hid hZ.1
  have HZW := hid hZ
  by_cases hlen : 100 < len1
  · have hlen' : (100 : Int) < len1 := by omega
    clear hr hl w1 hF hZ
    go_enter Tryd.func10, Tryd.ntmps10
    go_wp2_with (first | ((with_reducible refine at_op (.box 50 (.tmp 0)) ?_); refine wpR_box rfl (.tmp 0) rfl Z rfl ?_; intro g0 w0 hg0 hR0 hb0; have hl0 : w.heap.size ≤ g0 := Nat.le_of_eq hg0.symm; clear hg0))
    refine (awake36 a0 a1 w0 (F0.out.later hb0)).mono ?_
    rintro e w5 ⟨rfl, hb5⟩
    go_wp2
    go_ret
    exact ⟨rfl, chain hb0 hb5⟩
  · have hlen' : ¬ (100 : Int) < len1 := by omega
    have HB := hid (bytes_bd _ (Reads.wf hr))
    have R0 := hid (fun w1 (hb : Below w.heap.size w w1) => fget_any _ _ a0 a1 w1 (hr.later hb) (F0.out.later hb).1 (F0.out.later hb).2)
    have R1 := hid (fun w1 (hb : Below w.heap.size w w1) => rget_any _ _ w1 (hr.later hb))
    have HG := hid (got_wf _ HB.out).1
    generalize gotR (z1.take len1) = G at R0 R1 HG
    generalize getE (z1.take len1) = GE at R0 R1
    clear hr hl w1 hF HB hZ
    go_enter Tryd.func10, Tryd.ntmps10
    go_wp2_with (first | ((with_reducible refine at_op (.box 50 (.tmp 0)) ?_); refine wpR_box rfl (.tmp 0) rfl Z rfl ?_; intro g0 w0 hg0 hR0 hb0; have hl0 : w.heap.size ≤ g0 := Nat.le_of_eq hg0.symm; clear hg0) | ((with_reducible refine at_op (.load 50 (.tmp 2)) ?_); refine wpR_get rfl (.tmp 2) rfl g0 rfl Z HZ.out hR0 ?_))
    refine (fput_any Z HZW.out a0 a1 w0 (F0.out.later hb0)).mono ?_
    rintro e w2 ⟨v2, rfl, hb2, hown2⟩
    have hB2 := chain hb0 hb2
    have hR2 := hR0.later hb2
    have hr2 := reads_of_owns hown2 (putL_wf Z HZ.out)
    have c2 := hid (conv_reads_later _ _ w2 hr2)
    clear hown2 hr2 hb2 hR0
    go_wp2_with (first | ((with_reducible refine at_op (.load 50 (.tmp 2)) ?_); refine wpR_get rfl (.tmp 2) rfl g0 rfl Z HZ.out hR2 ?_))
    refine (rfput_any Z HZW.out w2).mono ?_
    rintro e w3 ⟨v3, rfl, hb3, hown3⟩
    have hB3 := chain hB2 hb3
    have hr3 := reads_of_owns hown3 (putL_wf Z HZ.out)
    have c3 := hid (conv_reads_later _ _ w3 hr3)
    replace c2 := hid (fun w' (h : Below w3.heap.size w3 w') => c2.out w' (chain hb3 h))
    clear hown3 hr3 hb3 hR2 hB2
    go_wp2_with fail
    refine (R0.out _ hB3).mono ?_
    rintro e w4 ⟨rfl, hb4⟩
    have hB4 := chain hB3 hb4
    clear R0
    go_wp2_with (first | ((with_reducible refine at_op (.alloc 50) ?_); refine wpR_alloc rfl rfl ?_; intro g5 w5 hg5 hR5 hb5; have hl5 : w4.heap.size ≤ g5 := Nat.le_of_eq hg5.symm; clear hg5) | ((with_reducible refine at_op (.store 50 (.tmp 9) (.tmp 30)) ?_); refine wpR_put rfl (.tmp 9) (.tmp 30) rfl g5 w4.heap.size G zeroR HG.out rfl rfl rfl hR5 hl5 ?_; intro w6 hR6 hb6))
    have hb46 := (hb5.trans (hb6.mono (Nat.le_refl _)))
    have hB6 := chain hB4 hb46
    have hb36 := chain hb4 hb46
    clear hR5 hl5 hb5 hb6
    refine (R1.out _ hB6).mono ?_
    rintro e w7 ⟨rfl, hb7⟩
    have hR7 := hR6.later hb7
    have hB7 := chain hB6 hb7
    clear R1 hR6
    go_wp2_with (first | ((with_reducible refine at_op (.alloc 50) ?_); refine wpR_alloc rfl rfl ?_; intro g8 w8 hg8 hR8 hb8; have hl8 : w7.heap.size ≤ g8 := Nat.le_of_eq hg8.symm; clear hg8) | ((with_reducible refine at_op (.store 50 (.tmp 11) (.tmp 35)) ?_); refine wpR_put rfl (.tmp 11) (.tmp 35) rfl g8 w7.heap.size G zeroR HG.out rfl rfl rfl hR8 hl8 ?_; intro w9 hR9 hb9; (have hb79 := (hb8.trans (hb9.mono (Nat.le_refl _))); have hR59 := hR7.later hb79; have hB9 := chain hB7 hb79; have q2 := c2.out _ (chain (chain hb36 hb7) hb79); have q3 := c3.out _ (chain (chain hb36 hb7) hb79); generalize strOfNums (putL Z) = SS at q2 q3)) | ((with_reducible refine at_op (.load 50 (.tmp 9)) ?_); refine wpR_get rfl (.tmp 9) rfl g5 rfl G HG.out hR59 ?_) | ((with_reducible refine at_op (.load 50 (.tmp 11)) ?_); refine wpR_get rfl (.tmp 11) rfl g8 rfl G HG.out hR9 ?_) | ((with_reducible refine at_op (.binOp .eql 50 (.tmp 48) (.tmp 49) 50) ?_); refine wpR_eql rfl (.tmp 48) (.tmp 49) _ rfl G G HG.out HG.out rfl rfl ?_))
    refine (awake36 a0 a1 w9 (F0.out.later hB9)).mono ?_
    rintro e w10 ⟨rfl, hb10⟩
    go_wp2
    go_ret
    exact ⟨rfl, chain hB9 hb10⟩
theorem FrameTells_walk (Z : List Int) (hl : Z.length = 11) (sa : Option Addr) (len1 cap1 : Nat) (z1 : List Int) (w : World)
    (w0 : ∀ (i : Nat) (k : IntKind) (z : Int), rkinds[i]? = some k → Z[i]? = some z → (Lit.int k z).wf = true) (w1 : IsRow .u8 w sa len1 cap1 z1) (h4 : Four w) (a0 a1 : Addr) (hE : ErrsAt w a0 a1) :
    Calls Tryd.prog 10 #[.agg (List.zipWith Value.int rkinds Z).toArray, .slice sa len1 cap1] w fun e w' => e = .returned (.bool true) ∧ Below w.heap.size w w' :=
  frameTells_of Z ⟨hl, w0⟩ sa len1 cap1 z1 a0 a1 w w1 ⟨h4, hE⟩
end Go.Proofs.YtecbfegohdllbaaDoor
