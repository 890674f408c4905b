/- The law FrameForms of layer 36 (frame). -/
import Derived.Test.YtecbfegohdllbaaDoorFrameAwake
namespace Go.Proofs.YtecbfegohdllbaaDoor
open Go.RowKit
set_option linter.unusedVariables false
set_option linter.unusedSimpArgs false
theorem bytes_set {b off c n i : Nat} {z : Int} {l : List Int} {w : World} (h : Reads .u8 w (.slice (some ⟨b, off, none⟩) n c) l) (hz : (Lit.int .u8 z).wf = true) (hi : i < l.length) : Reads .u8 (w.setCell ⟨b, off + i, none⟩ (.int .u8 z)) (.slice (some ⟨b, off, none⟩) n c) (l.set i z) := by
  obtain ⟨a, c', hv, h1, h2, h3, h4, h5⟩ := h
  obtain ⟨rfl, rfl, rfl⟩ := Value.slice.inj hv
  refine ⟨_, _, by rw [List.length_set], by rw [List.length_set]; exact h1, h2, ?_, (fun h => by cases h), ?_⟩
  · intro x hx
    rcases List.mem_or_eq_of_mem_set hx with h | rfl
    · exact h3 x h
    · exact hz
  · intro b' hb' j hj
    obtain rfl := Option.some.inj hb'
    rw [List.length_set] at hj
    have e1 := h5 _ rfl j hj
    rw [add_plain] at e1 ⊢
    rw [List.getElem_set]
    by_cases hij : i = j
    · subst hij
      rw [if_pos rfl]
      exact World.cell?_setCell_same _ _ _ e1
    · rw [if_neg hij, World.cell?_setCell_other _ _ _ _ (by intro h; simp only [Addr.mk.injEq] at h; omega)]
      exact e1
/-- a right text with its first two bytes put anew, sealed: 0 or 3 -/
theorem forms_get (M : List Int) (hM : M.length = 32) (x y : Int) (hx : 0 ≤ x ∧ x ≤ 255) (hy : 0 ≤ y ∧ y ≤ 255) :
    getE (sealL (((M.set 0 x).set 1 y).take 30)) = if x = 1 ∧ y < 16 then 0 else 3 := by
  have hl : (((M.set 0 x).set 1 y).take 30).length = 30 := by simp; omega
  have ht := seal_take (((M.set 0 x).set 1 y).take 30)
  rw [hl] at ht
  have h0 : (sealL (((M.set 0 x).set 1 y).take 30)).getD 0 0 = x := by
    have : ((M.set 0 x).set 1 y)[0]? = some x := by rw [List.getElem?_set, if_neg (by decide), List.getElem?_set, if_pos rfl, if_pos (by omega)]
    rw [sealL, List.getD_eq_getElem?_getD, List.getElem?_append_left (by rw [hl]; decide), List.getElem?_take, if_pos (by decide), this]; rfl
  have h1 : (sealL (((M.set 0 x).set 1 y).take 30)).getD 1 0 = y := by
    have : ((M.set 0 x).set 1 y)[1]? = some y := by rw [List.getElem?_set, if_pos rfl, if_pos (by rw [List.length_set]; omega)]
    rw [sealL, List.getD_eq_getElem?_getD, List.getElem?_append_left (by rw [hl]; decide), List.getElem?_take, if_pos (by decide), this]; rfl
  have hs : (sealL (((M.set 0 x).set 1 y).take 30)).length = 32 := by rw [sealN_len, hl]
  unfold getE
  rw [if_neg (by omega), if_neg (by omega), ht, if_neg (by simp), h0, h1]
  by_cases hc : x = 1 ∧ y < 16
  · rw [if_pos hc, if_neg (by omega)]
  · rw [if_neg hc, if_pos (by omega)]
set_option maxRecDepth 100000 in
set_option maxHeartbeats 4000000 in
theorem frameForms_of (Z : List Int) (hZ : RepWf Z) (T X : Int) (wT : (Lit.int .u8 T).wf = true) (wX : (Lit.int .u8 X).wf = true) (a0 a1 : Addr) (w : World) (hF : FC a0 a1 w) :
    Calls Tryd.prog 13 #[.agg (rcells Z), .int .u8 T, .int .u8 X] w fun e w' => e = .returned (.bool true) ∧ Below w.heap.size w w' := by
  have F0 := hid hF
  have bT := hid (bd_u8 wT)
  have bX := hid (bd_u8 wX)
  have WT := hid wT
  have WX := hid wX
  have HZ := hid hZ.1
  have HZW := hid hZ
  clear hF wT wX hZ
  by_cases hR : RightL Z
  case neg =>
    have PE := hid (putE_wrong hR)
    clear hR
    go_enter Tryd.func13, Tryd.ntmps13
    go_wp2_with (first | ((with_reducible refine at_op (.box 50 (.tmp 0)) ?_); refine wpR_box rfl (.tmp 0) rfl Z rfl ?_; intro g0 w0 hg0 hR0 hb0; have hl0 : w.heap.size ≤ g0 := Nat.le_of_eq hg0.symm; clear hg0) | ((with_reducible refine at_op (.load 50 (.tmp 3)) ?_); refine wpR_get rfl (.tmp 3) rfl g0 rfl Z HZ.out hR0 ?_))
    refine (rfput_any Z HZW.out w0).mono ?_
    rintro e w2 ⟨v2, rfl, hb2, -⟩
    rw [PE.out]
    have hB2 := chain hb0 hb2
    clear hR0
    go_wp2_with fail
    refine (awake36 a0 a1 w2 (F0.out.later hB2)).mono ?_
    rintro e w9 ⟨rfl, hb9⟩
    go_wp2
    go_ret
    exact ⟨rfl, chain hB2 hb9⟩
  have PE := hid (putE_right hR)
  have PL := hid (putL_right hR)
  clear hR
  go_enter Tryd.func13, Tryd.ntmps13
  go_wp2_with (first | ((with_reducible refine at_op (.box 50 (.tmp 0)) ?_); refine wpR_box rfl (.tmp 0) rfl Z rfl ?_; intro g0 w0 hg0 hR0 hb0; have hl0 : w.heap.size ≤ g0 := Nat.le_of_eq hg0.symm; clear hg0) | ((with_reducible refine at_op (.load 50 (.tmp 3)) ?_); refine wpR_get rfl (.tmp 3) rfl g0 rfl Z HZ.out hR0 ?_))
  refine (rfput_any Z HZW.out w0).mono ?_
  rintro e w2 ⟨v2, rfl, hb2, hown2⟩
  rw [PE.out]
  rw [PL.out] at hown2
  have hB2 := chain hb0 hb2
  have hfl := frameL_len Z HZ.out
  have hr2 := reads_of_owns hown2 (frameL_wf Z HZ.out)
  have hge : ∀ k, v2.ownBlock = some k → w0.heap.size ≤ k := fun k e => (hown2.lt k e).1
  rw [hfl] at hown2
  obtain ⟨b2, o2, c2, rfl, hc2, -, H2⟩ := reads_bytes hr2 (by omega)
  have hgb : w0.heap.size ≤ b2 := hge _ rfl
  have hfz : ∀ j, w2.frozen? ⟨b2, o2 + j, none⟩ = false := by
    obtain ⟨_, ⟨h, _⟩ | ⟨g, cap, cur, h, _, hc, _⟩⟩ := hown2
    · cases h
    · obtain ⟨h1, -, -⟩ := Value.slice.inj h
      obtain ⟨rfl, rfl, -⟩ := Addr.mk.inj (Option.some.inj h1)
      exact fun j => frozen_of_row w2 _ _ _ _ hc
  have LEN := hid hfl
  rw [hfl] at hc2 hr2 ⊢
  obtain ⟨M, hM⟩ : ∃ M, M = frameL Z := ⟨_, rfl⟩
  rw [← hM] at hr2 H2 LEN
  have f0 := hfz 0
  have f1 := hfz 1
  rw [Nat.add_zero] at f0
  have m0 : M[0]? = some (M.getD 0 0) := by have := LEN.out; simp [List.getD, List.getElem?_eq_getElem (show 0 < M.length by omega)]
  have m1 : M[1]? = some (M.getD 1 0) := by have := LEN.out; simp [List.getD, List.getElem?_eq_getElem (show 1 < M.length by omega)]
  have k0 := (H2.2 0 _ m0).1
  have k1 := (H2.2 1 _ m1).1
  rw [Nat.add_zero] at k0
  have hr3 := bytes_set hr2 WT.out (i := 0) (by have := LEN.out; omega)
  have hr4 := bytes_set hr3 WX.out (i := 1) (by have := LEN.out; rw [List.length_set]; omega)
  rw [Nat.add_zero] at hr4
  have hr5 := hid (hr4.take 30 (by have := LEN.out; rw [List.length_set, List.length_set]; omega))
  have hb24 : Below w0.heap.size w0 ((w2.setCell ⟨b2, o2, none⟩ (.int .u8 T)).setCell ⟨b2, o2 + 1, none⟩ (.int .u8 X)) := (hb2.setCell (p := ⟨b2, o2, none⟩) hgb _).setCell (p := ⟨b2, o2 + 1, none⟩) hgb _
  have hB4 := chain hb0 hb24
  have GV := hid (forms_get M LEN.out T X bT.out bX.out)
  generalize ((M.set 0 T).set 1 X).take 30 = Y at hr5 GV
  have hcb : (30 : Int) ≤ c2 := by omega
  have hYL : Y.length = 30 := by
    obtain ⟨_, _, h, _⟩ := hr5.out
    exact (Value.slice.inj h).2.1.symm
  have HYL := hid hYL
  generalize M.getD 0 0 = x0 at k0
  generalize M.getD 1 0 = x1 at k1
  clear hYL hr2 hr3 hr4 H2 m0 m1 hfz hge hown2 hM hfl hB2 hb2 hR0
  go_wp2_with fail
  generalize (w2.setCell ⟨b2, o2, none⟩ (.int .u8 T)).setCell ⟨b2, o2 + 1, none⟩ (.int .u8 X) = W4 at *
  clear k0 k1 f0 f1 hb24
  have hF4 := F0.out.later hB4
  refine (rseal_any _ Y W4 hr5.out (by have := HYL.out; omega)).mono ?_
  rintro e w5 ⟨v5, rfl, hb5, hown5⟩
  have hB5 := chain hB4 hb5
  have hwY := Reads.wf hr5.out
  have hr6 := reads_of_owns hown5 (sealL_wf hwY)
  have GT := fget_any v5 _ a0 a1 w5 hr6 (F0.out.later hB5).1 (F0.out.later hB5).2
  rw [GV.out] at GT
  have GW := got_wf (sealL Y) (bytes_bd _ (Reads.wf hr6))
  have HG := hid GW.1
  generalize gotR (sealL Y) = G at GT HG
  replace GT := hid GT
  clear GW hown5 hwY hr6 hr5 hF4 GV
  by_cases h1 : T = 1
  · by_cases h2 : X < 16
    · rw [if_pos ⟨h1, h2⟩] at GT
      have GT' := hid GT.out
      clear GT
      go_wp2_with fail
      refine GT'.out.mono ?_
      rintro e w6 ⟨rfl, hb6⟩
      have hB6 := chain hB5 hb6
      clear GT'
      go_wp2_with (first | ((with_reducible refine at_op (.alloc 50) ?_); refine wpR_alloc rfl rfl ?_; intro g7 w7 hg7 hR7 hb7; have hl7 : w6.heap.size ≤ g7 := Nat.le_of_eq hg7.symm; clear hg7) | ((with_reducible refine at_op (.store 50 (.tmp 9) (.tmp 30)) ?_); refine wpR_put rfl (.tmp 9) (.tmp 30) rfl g7 w6.heap.size G zeroR HG.out rfl rfl rfl hR7 hl7 ?_; intro w8 hR8 hb8))
      have hB8 := chain hB6 (hb7.trans (hb8.mono (Nat.le_refl _)))
      clear hR7 hl7 hb7 hb8
      refine (awake36 a0 a1 w8 (F0.out.later hB8)).mono ?_
      rintro e w9 ⟨rfl, hb9⟩
      go_wp2
      go_ret
      first | exact ⟨rfl, chain hB8 hb9⟩ | exact ⟨ret_bool (show (!decide (X < 16)) = true by simp [h2]), chain hB8 hb9⟩
    · rw [if_neg (fun h => h2 h.2)] at GT
      have GT' := hid GT.out
      clear GT
      go_wp2_with fail
      refine GT'.out.mono ?_
      rintro e w6 ⟨rfl, hb6⟩
      have hB6 := chain hB5 hb6
      clear GT'
      go_wp2_with (first | ((with_reducible refine at_op (.alloc 50) ?_); refine wpR_alloc rfl rfl ?_; intro g7 w7 hg7 hR7 hb7; have hl7 : w6.heap.size ≤ g7 := Nat.le_of_eq hg7.symm; clear hg7) | ((with_reducible refine at_op (.store 50 (.tmp 9) (.tmp 30)) ?_); refine wpR_put rfl (.tmp 9) (.tmp 30) rfl g7 w6.heap.size G zeroR HG.out rfl rfl rfl hR7 hl7 ?_; intro w8 hR8 hb8))
      have hB8 := chain hB6 (hb7.trans (hb8.mono (Nat.le_refl _)))
      clear hR7 hl7 hb7 hb8
      refine (awake36 a0 a1 w8 (F0.out.later hB8)).mono ?_
      rintro e w9 ⟨rfl, hb9⟩
      go_wp2
      go_ret
      first | exact ⟨rfl, chain hB8 hb9⟩ | exact ⟨ret_bool (show (!decide (X < 16)) = true by simp [h2]), chain hB8 hb9⟩
  · rw [if_neg (fun h => h1 h.1)] at GT
    have GT' := hid GT.out
    clear GT
    have h1' : (T == 1) = false := by simpa using h1
    go_wp2_with fail
    refine GT'.out.mono ?_
    rintro e w6 ⟨rfl, hb6⟩
    have hB6 := chain hB5 hb6
    clear GT'
    go_wp2_with (first | ((with_reducible refine at_op (.alloc 50) ?_); refine wpR_alloc rfl rfl ?_; intro g7 w7 hg7 hR7 hb7; have hl7 : w6.heap.size ≤ g7 := Nat.le_of_eq hg7.symm; clear hg7) | ((with_reducible refine at_op (.store 50 (.tmp 9) (.tmp 30)) ?_); refine wpR_put rfl (.tmp 9) (.tmp 30) rfl g7 w6.heap.size G zeroR HG.out rfl rfl rfl hR7 hl7 ?_; intro w8 hR8 hb8))
    have hB8 := chain hB6 (hb7.trans (hb8.mono (Nat.le_refl _)))
    clear hR7 hl7 hb7 hb8
    refine (awake36 a0 a1 w8 (F0.out.later hB8)).mono ?_
    rintro e w9 ⟨rfl, hb9⟩
    go_wp2
    go_ret
    first | exact ⟨rfl, chain hB8 hb9⟩ | exact ⟨ret_bool (show (!decide (X < 16)) = true by simp [h2]), chain hB8 hb9⟩
theorem FrameForms_walk (Z : List Int) (hl : Z.length = 11) (T X : Int) (w : World)
    (w0 : ∀ (i : Nat) (k : IntKind) (z : Int), rkinds[i]? = some k → Z[i]? = some z → (Lit.int k z).wf = true) (w1 : (Lit.int .u8 T).wf = true) (w2 : (Lit.int .u8 X).wf = true) (h4 : Four w) (a0 a1 : Addr) (hE : ErrsAt w a0 a1) :
    Calls Tryd.prog 13 #[.agg (List.zipWith Value.int rkinds Z).toArray, .int .u8 T, .int .u8 X] w fun e w' => e = .returned (.bool true) ∧ Below w.heap.size w w' :=
  frameForms_of Z ⟨hl, w0⟩ T X w1 w2 a0 a1 w ⟨h4, hE⟩
end Go.Proofs.YtecbfegohdllbaaDoor
