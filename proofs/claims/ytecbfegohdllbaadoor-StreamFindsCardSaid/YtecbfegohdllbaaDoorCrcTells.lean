/- The walk of the statement of layer 11 (crc) that speaks of the reference. -/
import Derived.Test.YtecbfegohdllbaaDoorCrcOpen
namespace Go.Proofs.YtecbfegohdllbaaDoor
open Go.RowKit
set_option linter.unusedVariables false
theorem reads_nil (w : World) : Reads .u8 w (.slice none 0 0) [] := ⟨none, 0, rfl, Nat.le_refl _, Nat.zero_le _, by simp, fun _ => ⟨rfl, rfl⟩, fun b hb => (nomatch hb)⟩
/-- both openings are one -/
theorem opens (v : Value) (l : List Int) (w : World) (hr : Reads .u8 w v l) (h4 : Four w) (hl : l.length ≤ 1000000) : ∃ (Y : List Int) (E : Int),
    (∀ w', Below w.heap.size w w' → Calls Tryd.prog 22 #[v] w' fun e w'' => ∃ v', e = .returned (.tuple #[v', .int .i64 E]) ∧ Below w'.heap.size w' w'' ∧ Reads .u8 w'' v' Y) ∧
    (∀ w', Below w.heap.size w w' → Calls Tryd.prog 23 #[v] w' fun e w'' => ∃ v', e = .returned (.tuple #[v', .int .i64 E]) ∧ Below w'.heap.size w' w'' ∧ Reads .u8 w'' v' Y) := by
  by_cases hs : l.length < 2
  · obtain ⟨a, c, rfl, _⟩ := hr
    refine ⟨[], 4, fun w' _ => (open_short a _ c w' hs).mono ?_, fun w' _ => (ropen_short a _ c w' hs).mono ?_⟩
    all_goals
      rintro e w2 ⟨rfl, rfl⟩
      exact ⟨_, rfl, Below.refl _ _, reads_nil _⟩
  · obtain ⟨m, hm⟩ : ∃ m, l.length = m + 2 := ⟨l.length - 2, by omega⟩
    have hw := Reads.wf hr
    by_cases hok : l = sealL (l.take m)
    · refine ⟨l.take m, 0, fun w' hb => (open_ok v l m hm w' (hr.later hb) (h4.later hb) hok hl).mono ?_, fun w' hb => (ropen_ok v l m hm w' (hr.later hb) hl hok).mono ?_⟩
      all_goals
        rintro e w2 ⟨v', rfl, hb2, hown⟩
        exact ⟨v', rfl, hb2, reads_of_owns hown (fun x hx => hw x (List.mem_of_mem_take hx))⟩
    · refine ⟨[], 7, fun w' hb => (open_bad v l m hm w' (hr.later hb) (h4.later hb) hok).mono ?_, fun w' hb => (ropen_bad v l m hm w' (hr.later hb) hl hok).mono ?_⟩
      all_goals
        rintro e w2 ⟨rfl, hb2⟩
        exact ⟨_, rfl, hb2, reads_nil _⟩
set_option maxRecDepth 20000 in
set_option maxHeartbeats 2000000 in
theorem CrcTells_walk (a0 : Int) (a1 : Int) (a2 : Option Addr) (len2 cap2 : Nat) (z2 : List Int) (w : World) (w0 : (Lit.int .i32 a0).wf = true) (w1 : (Lit.int .u8 a1).wf = true) (w2 : IsRow .u8 w a2 len2 cap2 z2) (h4 : Four w) :
    Calls Tryd.prog 4 #[.int .i32 a0, .int .u8 a1, .slice a2 len2 cap2] w fun e w' => e = .returned (.bool true) ∧ Below w.heap.size w w' := by
  obtain ⟨e2, r2⟩ := w2.reads
  have b0 := bd_i32 w0
  have b1 := bd_u8 w1
  generalize z2.take len2 = L at *
  clear w0 w1 w2
  by_cases g2 : 600 < len2
  · go_enter Tryd.func4, Tryd.ntmps4
    clear r2
    go_wp2_with fail
    refine (awake11 _ h4).mono ?_
    rintro e w2 ⟨rfl, hb⟩
    go_wp2
    go_ret
    exact ⟨rfl, hb⟩
  have hL : L.length ≤ 1000000 := by omega
  obtain ⟨Y, E, o1, o2⟩ := opens _ L w r2 h4 hL
  obtain ⟨x, rfl⟩ : ∃ x : Nat, a1 = (x : Int) := ⟨a1.toNat, by omega⟩
  have O1 := hid o1
  have O2 := hid o2
  have H4 := hid (fun w' (hb : Below w.heap.size w w') => h4.later hb)
  have ST := hid (fun w' (hb : Below w.heap.size w w') => (step_int a0 b0 x (by omega) w' (h4.later hb)).mono (R' := fun e w'' => e = .returned (.int .i32 (stepB (BitVec.ofInt 16 a0) x).toNat) ∧ Below w'.heap.size w' w'') (fun e w'' h => ⟨h.1, h.2 ▸ Below.refl _ _⟩))
  have RST := hid (fun w' => rstep_any a0 b0 x (by omega) w')
  have OF := hid (fun w' (hb : Below w.heap.size w w') => of_any _ L w' (r2.later hb) (h4.later hb))
  have ROF := hid (fun w' (hb : Below w.heap.size w w') => rof_any _ L w' (r2.later hb))
  have SE := hid (fun w' (hb : Below w.heap.size w w') => seal_any _ L w' (r2.later hb) (h4.later hb) hL)
  have RSE := hid (fun w' (hb : Below w.heap.size w w') => rseal_any _ L w' (r2.later hb) hL)
  have KB := hid (conv_reads_later _ L w r2)
  have hwf := hid (sealL_wf (Reads.wf r2))
  have k0 := conv_reads _ L w r2
  clear o1 o2 h4 e2 hL r2
  generalize (stepB (BitVec.ofInt 16 a0) x).toNat = D at *
  go_enter Tryd.func4, Tryd.ntmps4
  go_wp2_with fail
  refine (O1.out _ (Below.refl _ _)).mono ?_
  rintro e w2 ⟨y, rfl, hb, hy⟩
  have h02 := hb
  clear hb k0
  go_wp2_with fail
  refine (O2.out _ h02).mono ?_
  rintro e w3 ⟨z, rfl, hb, hz⟩
  have KY := hid (conv_reads_later y Y w3 (hy.later hb))
  have KZ := hid (conv_reads_later z Y w3 hz)
  have h03 := chain h02 hb
  clear hb h02 hy hz
  go_wp2_with fail
  refine wp_region_B' (n := 23) (l := #[false, false, false, false, false, false, false, false, false, false, false, false, false, false, false, false, false, false, false, false, false, false, false]) (by kernel_rfl) (by kernel_rfl) (by kernel_rfl) ?_
  refine wpAnyB_take (i := 0) (v := ?vr0) (some 28) rfl rfl (by kernel_rfl) (by kernel_rfl) (by kernel_rfl) (fun _ _ _ h => h) (by rfl) ?hvr0 ?restr0
  case hvr0 => (intro w' hb; go_simp; try with_reducible rfl)
  simp only [Act.put, List.setIfInBounds_toArray, List.set_cons_zero, List.set_cons_succ]
  refine wpAnyB_take (i := 1) (v := ?vr1) (some 29) rfl rfl (by kernel_rfl) (by kernel_rfl) (by kernel_rfl) (fun _ _ _ h => h) (by rfl) ?hvr1 ?restr1
  case hvr1 => (intro w' hb; go_simp; try with_reducible rfl)
  simp only [Act.put, List.setIfInBounds_toArray, List.set_cons_zero, List.set_cons_succ]
  refine wpAnyB_take (i := 3) (v := ?vr3) (some 31) rfl rfl (by kernel_rfl) (by kernel_rfl) (by kernel_rfl) (fun _ _ _ h => h) (by rfl) ?hvr3 ?restr3
  case hvr3 => (intro w' hb; go_simp; try with_reducible rfl)
  simp only [Act.put, List.setIfInBounds_toArray, List.set_cons_zero, List.set_cons_succ]
  refine wpAnyB_take (i := 4) (v := ?vr4) (some 32) rfl rfl (by kernel_rfl) (by kernel_rfl) (by kernel_rfl) (fun _ _ _ h => h) (by rfl) ?hvr4 ?restr4
  case hvr4 => (intro w' hb; go_simp; try with_reducible rfl)
  simp only [Act.put, List.setIfInBounds_toArray, List.set_cons_zero, List.set_cons_succ]
  refine wpAnyB_alone (i := 2) rfl (by kernel_rfl) (by rfl) (fun K hK => ?_)
  go_simp
  refine (ST.out _ h03.drew).mono ?_
  rintro e w4 ⟨rfl, hb⟩
  have h3 : Below w3.heap.size w3 w4 := (Below.refl w3.heap.size w3).drew.trans (hb.mono (Nat.le_refl _))
  refine hK.out _ _ hb ?_
  clear hK K
  simp only [List.setIfInBounds_toArray, List.set_cons_zero, List.set_cons_succ]
  refine wpAnyB_alone (i := 5) rfl (by kernel_rfl) (by rfl) (fun K hK => ?_)
  go_simp
  refine (RST.out _).mono ?_
  rintro e w5 ⟨rfl, hb⟩
  replace h3 := chain h3 hb
  refine hK.out _ _ hb ?_
  clear hK K
  simp only [List.setIfInBounds_toArray, List.set_cons_zero, List.set_cons_succ]
  refine wpAnyB_take (i := 6) (v := ?vr6) (some 34) rfl rfl (by kernel_rfl) (by kernel_rfl) (by kernel_rfl) (fun _ _ _ h => h) (by rfl) ?hvr6 ?restr6
  case hvr6 => (intro w' hb; go_simp; try with_reducible rfl)
  simp only [Act.put, List.setIfInBounds_toArray, List.set_cons_zero, List.set_cons_succ]
  refine wpAnyB_take (i := 7) (v := ?vr7) (some 35) rfl rfl (by kernel_rfl) (by kernel_rfl) (by kernel_rfl) (fun _ _ _ h => h) (by rfl) ?hvr7 ?restr7
  case hvr7 => (intro w' hb; go_simp; try with_reducible rfl)
  simp only [Act.put, List.setIfInBounds_toArray, List.set_cons_zero, List.set_cons_succ]
  refine wpAnyB_take (i := 8) (v := ?vr8) (some 36) rfl rfl (by kernel_rfl) (by kernel_rfl) (by kernel_rfl) (fun _ _ _ h => h) (by rfl) ?hvr8 ?restr8
  case hvr8 => (intro w' hb; go_simp; try with_reducible rfl)
  simp only [Act.put, List.setIfInBounds_toArray, List.set_cons_zero, List.set_cons_succ]
  refine wpAnyB_take (i := 10) (v := ?vr10) (some 38) rfl rfl (by kernel_rfl) (by kernel_rfl) (by kernel_rfl) (fun _ _ _ h => h) (by rfl) ?hvr10 ?restr10
  case hvr10 => (intro w' hb; go_simp; try with_reducible rfl)
  simp only [Act.put, List.setIfInBounds_toArray, List.set_cons_zero, List.set_cons_succ]
  refine wpAnyB_alone (i := 9) rfl (by kernel_rfl) (by rfl) (fun K hK => ?_)
  go_simp
  refine (OF.out _ (chain h03 h3)).mono ?_
  rintro e w6 ⟨rfl, hb⟩
  replace h3 := chain h3 hb
  refine hK.out _ _ hb ?_
  clear hK K
  simp only [List.setIfInBounds_toArray, List.set_cons_zero, List.set_cons_succ]
  refine wpAnyB_alone (i := 11) rfl (by kernel_rfl) (by rfl) (fun K hK => ?_)
  go_simp
  refine (ROF.out _ (chain h03 h3)).mono ?_
  rintro e w7 ⟨rfl, hb⟩
  replace h3 := chain h3 hb
  refine hK.out _ _ hb ?_
  clear hK K
  simp only [List.setIfInBounds_toArray, List.set_cons_zero, List.set_cons_succ]
  refine wpAnyB_take (i := 12) (v := ?vr12) (some 40) rfl rfl (by kernel_rfl) (by kernel_rfl) (by kernel_rfl) (fun _ _ _ h => h) (by rfl) ?hvr12 ?restr12
  case hvr12 => (intro w' hb; go_simp; try with_reducible rfl)
  simp only [Act.put, List.setIfInBounds_toArray, List.set_cons_zero, List.set_cons_succ]
  refine wpAnyB_take (i := 13) (v := ?vr13) (some 41) rfl rfl (by kernel_rfl) (by kernel_rfl) (by kernel_rfl) (fun _ _ _ h => h) (by rfl) ?hvr13 ?restr13
  case hvr13 => (intro w' hb; go_simp; try with_reducible rfl)
  simp only [Act.put, List.setIfInBounds_toArray, List.set_cons_zero, List.set_cons_succ]
  refine wpAnyB_take (i := 14) (v := ?vr14) (some 42) rfl rfl (by kernel_rfl) (by kernel_rfl) (by kernel_rfl) (fun _ _ _ h => h) (by rfl) ?hvr14 ?restr14
  case hvr14 => (intro w' hb; go_simp; try with_reducible rfl)
  simp only [Act.put, List.setIfInBounds_toArray, List.set_cons_zero, List.set_cons_succ]
  refine wpAnyB_take (i := 15) (v := ?vr15) (some 43) rfl rfl (by kernel_rfl) (by kernel_rfl) (by kernel_rfl) (fun _ _ _ h => h) (by rfl) ?hvr15 ?restr15
  case hvr15 => (intro w' hb; go_simp; try with_reducible rfl)
  simp only [Act.put, List.setIfInBounds_toArray, List.set_cons_zero, List.set_cons_succ]
  refine wpAnyB_take (i := 18) (v := ?vr18) (some 46) rfl rfl (by kernel_rfl) (by kernel_rfl) (by kernel_rfl) (fun _ _ _ h => h) (by rfl) ?hvr18 ?restr18
  case hvr18 => (intro w' hb; go_simp; try with_reducible rfl)
  simp only [Act.put, List.setIfInBounds_toArray, List.set_cons_zero, List.set_cons_succ]
  refine wpAnyB_alone (i := 16) rfl (by kernel_rfl) (by rfl) (fun K hK => ?_)
  go_simp
  refine (SE.out _ (chain h03 h3)).mono ?_
  rintro e w8 ⟨s1, rfl, hb, hown⟩
  have k1 := conv_reads_later s1 (sealL L) w8 (reads_of_owns hown hwf.out)
  clear hown
  replace h3 := chain h3 hb
  refine hK.out _ _ hb ?_
  clear hK K
  simp only [List.setIfInBounds_toArray, List.set_cons_zero, List.set_cons_succ]
  refine wpAnyB_take (i := 17) (v := ?vr17) (some 45) rfl rfl (by kernel_rfl) (by kernel_rfl) (by kernel_rfl) (fun _ _ _ h => h) (by rfl) ?hvr17 ?restr17
  case hvr17 => (intro w' hb; go_simp; try with_reducible rfl)
  simp only [Act.put, List.setIfInBounds_toArray, List.set_cons_zero, List.set_cons_succ]
  refine wpAnyB_alone (i := 19) rfl (by kernel_rfl) (by rfl) (fun K hK => ?_)
  go_simp
  refine (RSE.out _ (chain h03 h3)).mono ?_
  rintro e w9 ⟨s2, rfl, hb, hown⟩
  have k2 := conv_reads_later s2 (sealL L) w9 (reads_of_owns hown hwf.out)
  clear hown
  replace h3 := chain h3 hb
  refine hK.out _ _ hb ?_
  clear hK K
  simp only [List.setIfInBounds_toArray, List.set_cons_zero, List.set_cons_succ]
  refine wpAnyB_take (i := 20) (v := ?vr20) (some 48) rfl rfl (by kernel_rfl) (by kernel_rfl) (by kernel_rfl) (fun _ _ _ h => h) (by rfl) ?hvr20 ?restr20
  case hvr20 => (intro w' hb; go_simp; try with_reducible rfl)
  simp only [Act.put, List.setIfInBounds_toArray, List.set_cons_zero, List.set_cons_succ]
  refine wpAnyB_take (i := 21) (v := ?vr21) (some 49) rfl rfl (by kernel_rfl) (by kernel_rfl) (by kernel_rfl) (fun _ _ _ h => h) (by rfl) ?hvr21 ?restr21
  case hvr21 => (intro w' hb; go_simp; try with_reducible rfl)
  simp only [Act.put, List.setIfInBounds_toArray, List.set_cons_zero, List.set_cons_succ]
  refine wpAnyB_take (i := 22) (v := ?vr22) (some 50) rfl rfl (by kernel_rfl) (by kernel_rfl) (by kernel_rfl) (fun _ _ _ h => h) (by rfl) ?hvr22 ?restr22
  case hvr22 => (intro w' hb; go_simp; try with_reducible rfl)
  simp only [Act.put, List.setIfInBounds_toArray, List.set_cons_zero, List.set_cons_succ]
  refine wpAnyB_done (by kernel_rfl) ?_ _
  have ky := KY.out _ h3
  have kz := KZ.out _ h3
  have h09 := chain h03 h3
  have kb := KB.out _ h09
  clear k2
  go_wp2_with fail
  refine (awake11 _ (H4.out _ h09)).mono ?_
  rintro e w10 ⟨rfl, hb⟩
  have hB := chain h09 hb
  go_wp2
  go_ret
  exact ⟨rfl, hB⟩
end Go.Proofs.YtecbfegohdllbaaDoor
