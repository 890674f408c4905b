/- Layer 47 (log): first, next: contracts. -/
import Derived.Test.YtecbfegohdllbaaDoorLog24
namespace Go.Proofs.YtecbfegohdllbaaDoor
open Go.RowKit
set_option linter.unusedVariables false
set_option linter.unusedSimpArgs false
theorem RD.setE {h : Nat} {Y : List Int} {A : World} (hr : RD h Y A) : RD h Y (A.setCell ⟨h, 1, none⟩ (.int .i64 0)) := by
  obtain ⟨a, c, h1, h2, h3⟩ := hr
  refine ⟨a, c, ?_, reads_set h2 (fun b e => ?_), h3⟩
  · simp [World.setCell, Array.getElem?_modify, h1]
  · rcases a with _ | a
    · cases e
    · have := h3 a rfl
      simp [Value.ownBlock] at e
      omega
theorem RD.setNew {h k j : Nat} {Y : List Int} {A : World} {v : Value} (hr : RD h Y A) (hk : h < k) : RD h Y (A.setCell ⟨k, j, none⟩ v) := by
  obtain ⟨a, c, h1, h2, h3⟩ := hr
  refine ⟨a, c, (Below.heap_setCell _ _ _ h (by simp; omega)).trans h1, reads_set h2 (fun b e => ?_), h3⟩
  rcases a with _ | a
  · cases e
  · have := h3 a rfl
    simp [Value.ownBlock] at e
    omega
theorem Turn.setNew {g k j : Nat} {A B : World} {v : Value} (h : Turn g A B) (hk : A.heap.size ≤ k) : Turn g A (B.setCell ⟨k, j, none⟩ v) :=
  ⟨h.os, h.tape, h.output, by simpa using h.size, fun i hi hne => (Below.heap_setCell _ _ _ i (by simp; omega)).trans (h.block i hi hne)⟩
theorem Turn.later {g : Nat} {A B C : World} (h : Turn g A B) (hb : Below B.heap.size B C) : Turn g A C := h.trans (Turn.of_below hb)
theorem RD.lt {h : Nat} {Y : List Int} {A : World} (hr : RD h Y A) : h < A.heap.size := by obtain ⟨_, _, h1, _⟩ := hr; exact lt_of_row h1
theorem RD.belowN {h B : Nat} {Y : List Int} {A A' : World} (hr : RD h Y A) (hb : Below B A A') (hB : h < B) : RD h Y A' := by
  obtain ⟨a, c, h1, h2, h3⟩ := hr
  refine ⟨a, c, (hb.block h hB).trans h1, h2.below hb (fun b e => ?_), h3⟩
  rcases a with _ | a
  · cases e
  · have := h3 a rfl
    simp [Value.ownBlock] at e
    omega
theorem RD.ecell {h : Nat} {Y : List Int} {A : World} (hr : RD h Y A) : A.cell? ⟨h, 1, none⟩ = some (.int .i64 0) ∧ A.frozen? ⟨h, 1, none⟩ = false := by
  obtain ⟨_, _, h1, _⟩ := hr
  exact ⟨(cell_of_row A h 1 _ _ _ h1).trans rfl, frozen_of_row A h 1 _ _ h1⟩
set_option maxRecDepth 100000 in
set_option maxHeartbeats 1000000 in
theorem first_ok (h : Nat) (Z Y : List Int) (a0 a1 : Addr) (w : World) (hZ : RepWf Z) (hR : RightL Z) (hr : RD h (frameL Z ++ Y) w) (hm : Y.length ≤ 900000) (hF : FC a0 a1 w) (hh : ∀ W, Turn h w W → FC a0 a1 W) :
    Calls Tryd.prog 91 #[.pointer (some ⟨h, 0, none⟩)] w fun e w' => e = .returned (.agg (rcells Z)) ∧ RD h Y w' ∧ Turn h w w' := by
  have hfl := frameL_len Z hZ.1
  have HT := hid (fun W (hW : Below w.heap.size w W) => take_ok h 32 (frameL Z ++ Y) W (hr.below hW) (by decide) (by rw [List.length_append]; omega) (by rw [List.length_append]; omega))
  rw [List.take_left' hfl, List.drop_left' hfl] at HT
  have HZL := hid hZ.1
  have HG := hid (get_frame Z hZ hR).1
  have HGR := hid (got_frame Z hZ hR)
  have HH := hid hh
  have hhl := hr.lt
  clear hr hF hh hfl hm
  go_enter Tryd.func91, Tryd.ntmps91
  go_wp2_with ((with_reducible refine at_op (.alloc 50) ?_); refine wpR_alloc rfl rfl ?_; intro g2 w2 hg2 hR2 hb2; have hl2 : w.heap.size ≤ g2 := Nat.le_of_eq hg2.symm; clear hg2)
  refine (HT.out w2 hb2).mono ?_
  rintro e w3 ⟨a, c, rfl, hc, hrd, hr3, ht3⟩
  obtain ⟨ce, -⟩ := hr3.ecell
  have hne : g2 ≠ h := by omega
  have hR3 := (ht3.row hR2 hne : RB g2 zeroR w3)
  have hT3 := (Turn.of_below hb2).trans ht3
  have FC3 := HH.out w3 hT3
  have GT := hid (fget_any _ _ a0 a1 w3 hrd FC3.1 FC3.2)
  rw [HG.out, HGR.out] at GT
  have hg2 : w.heap.size ≤ g2 := hl2
  clear hb2 hR2 hl2 ht3 HT hc hrd FC3
  go_wp2_with fail
  refine GT.out.mono ?_
  rintro e w4 ⟨rfl, hb4⟩
  have hr4 := hr3.below hb4
  have hR4 : RB g2 zeroR w4 := (hb4.block g2 (lt_of_row hR3)).trans hR3
  have hT4 := hT3.later hb4
  clear hr3 hR3 hT3 hb4 GT ce
  go_wp2_with (first | ((with_reducible refine at_op (.alloc 50) ?_); refine wpR_alloc rfl rfl ?_; intro g5 w5 hg5 hR5 hb5; have hl5 : w4.heap.size ≤ g5 := Nat.le_of_eq hg5.symm; clear hg5) | ((with_reducible refine at_op (.store 50 (.tmp 4) (.tmp 17)) ?_); refine wpR_put rfl (.tmp 4) (.tmp 17) rfl g5 w4.heap.size Z zeroR HZL.out rfl rfl rfl hR5 hl5 ?_; intro w6 hR6 hb6; (have hb46 := hb5.trans hb6); (have hr6 := hr4.below hb46); (obtain ⟨ce6, fe6⟩ := hr6.ecell); (have hR26 : RB g2 zeroR w6 := (hb46.block g2 (lt_of_row hR4)).trans hR4); (have hT6 := hT4.later hb46); (have hg5 : g5 ≠ h := by have := hT4.size; omega); (clear hb5 hb6 hR5)) | ((with_reducible refine at_op (.load 50 (.tmp 4)) ?_); refine wpR_get rfl (.tmp 4) rfl g5 rfl Z HZL.out (hR6.other hg5) ?_) | ((with_reducible refine at_op (.store 50 (.tmp 2) (.tmp 23)) ?_); refine wpR_put rfl (.tmp 2) (.tmp 23) rfl g2 g2 Z zeroR HZL.out rfl rfl rfl (hR26.other hne) (Nat.le_refl _) ?_; intro w7 hR7 hb7))
  have lv := run_loadVar_row (P := Tryd.prog) _ g2 _ 50 _ _ _ hR7 Tryd.underlying50 rfl (by rw [rcells_size _ HZL.out]; kernel_rfl)
  refine bodyPost_ret (v := .agg (rcells Z)) (by simp [results, Tryd.results91, asAddr, Act.put, lv]) rfl ⟨rfl, hr6.setE.belowN hb7 (by omega), (hT6.set 1 _).more hb7 hg2⟩
/-- what is left of the differences from number k on -/
def restN (X Y : List Int) (k : Nat) : List Int := ((List.range 11).drop k).flatMap fun j => shortL (zig (lowI (X.getD j 0 - Y.getD j 0)))
theorem restN_zero (X Y : List Int) : restN X Y 0 = deltaN X Y 11 := rfl
theorem restN_end (X Y : List Int) : restN X Y 11 = [] := rfl
theorem restN_cons (X Y : List Int) (k : Nat) (h : k < 11) : restN X Y k = shortL (zig (lowI (X.getD k 0 - Y.getD k 0))) ++ restN X Y (k + 1) := by
  unfold restN
  rw [List.drop_eq_getElem_cons (by simpa using h), List.flatMap_cons]
  simp
theorem restN_len (X Y : List Int) (k : Nat) : (restN X Y k).length ≤ 55 := by
  have h1 : ∀ l : List Nat, (l.flatMap fun j => shortL (zig (lowI (X.getD j 0 - Y.getD j 0)))).length ≤ 5 * l.length := by
    intro l
    induction l with
    | nil => exact Nat.le_refl _
    | cons j l ih =>
      rw [List.flatMap_cons, List.length_append, List.length_cons]
      have := shortL_len 4 (zig (lowI (X.getD j 0 - Y.getD j 0))) (by have := zig_lt (X.getD j 0 - Y.getD j 0); omega)
      omega
  have := h1 ((List.range 11).drop k)
  rw [List.length_drop, List.length_range] at this
  unfold restN
  omega
/-- a row of which the first k numbers are new -/
def mixL (Z X : List Int) (k : Nat) : List Int := Z.take k ++ X.drop k
theorem mixL_len {Z X : List Int} (hZ : Z.length = 11) (hX : X.length = 11) (k : Nat) (hk : k ≤ 11) : (mixL Z X k).length = 11 := by simp [mixL, hZ, hX]; omega
theorem mixL_at {Z X : List Int} (hZ : Z.length = 11) (hX : X.length = 11) (k : Nat) (hk : k < 11) : (mixL Z X k).getD k 0 = X.getD k 0 := by
  have h1 : (Z.take k).length = k := by simp [hZ]; omega
  unfold mixL
  rw [List.getD_eq_getElem?_getD, List.getD_eq_getElem?_getD, List.getElem?_append_right (by omega), h1, Nat.sub_self, List.getElem?_drop, Nat.add_zero]
theorem mixL_set {Z X : List Int} (hZ : Z.length = 11) (hX : X.length = 11) (k : Nat) (hk : k < 11) : (ocells (mixL Z X k)).setIfInBounds k (.int .i32 (Z.getD k 0)) = ocells (mixL Z X (k + 1)) := by
  have h1 : (Z.take k).length = k := by simp [hZ]; omega
  have h2 : mixL Z X (k + 1) = (mixL Z X k).set k (Z.getD k 0) := by
    unfold mixL
    rw [List.set_append_right _ _ (by omega), h1, Nat.sub_self, List.drop_eq_getElem_cons (show k < X.length by omega), List.set_cons_zero, List.take_succ_eq_append_getElem (show k < Z.length by omega), List.append_assoc, List.getD_eq_getElem?_getD, List.getElem?_eq_getElem (by omega)]
    rfl
  rw [h2]
  unfold ocells
  rw [List.map_set, List.setIfInBounds_toArray]
theorem low_back (x z : Int) (hz : -2147483648 ≤ z ∧ z ≤ 2147483647) : IntKind.i32.wrap (x + lowI (z - x)) = z := by
  rw [i32wrap]; unfold lowI; omega
set_option maxRecDepth 100000 in
set_option maxHeartbeats 2000000 in
theorem next_ok (h : Nat) (X Z Y : List Int) (w : World) (hX : RepWf X) (hXR : RightL X) (hZ : RepWf Z) (hZR : RightL Z) (hr : RD h (deltaN Z X 11 ++ Y) w) (hm : Y.length ≤ 800000) :
    Calls Tryd.prog 92 #[.pointer (some ⟨h, 0, none⟩), .agg (rcells X)] w fun e w' => e = .returned (.agg (rcells Z)) ∧ RD h Y w' ∧ Turn h w w' := by
  have HXL := hid hX.1
  have HZL := hid hZ.1
  have OFX := hid (fun W => lof_any X hX hXR W)
  have RPZ := hid (fun W => lreport_any Z hZ hZR W)
  have HZB := hid (fun j h => rep_bd32 hZ hZR j h)
  have HR := hid hr
  have HM := hid hm
  have hhl := hr.lt
  clear hX hXR hZ hZR hr hm
  go_enter Tryd.func92, Tryd.ntmps92
  go_wp2_with (first | ((with_reducible refine at_op (.box 50 (.tmp 1)) ?_); refine wpR_box rfl (.tmp 1) rfl X rfl ?_; intro g3 w3 hg3 hR3 hb3; have hl3 : w.heap.size ≤ g3 := Nat.le_of_eq hg3.symm; clear hg3) | ((with_reducible refine at_op (.alloc 50) ?_); refine wpR_alloc rfl rfl ?_; intro g4 w4 hg4 hR4 hb4; have hl4 : w3.heap.size ≤ g4 := Nat.le_of_eq hg4.symm; clear hg4) | ((with_reducible refine at_op (.load 50 (.tmp 3)) ?_); refine wpR_get rfl (.tmp 3) rfl g3 rfl X HXL.out (RB.later hR3 hb4) ?_))
  refine (OFX.out w4).mono ?_
  rintro e w5 ⟨rfl, hb5⟩
  have hb35 : Below w.heap.size w w5 := (hb3.trans ((hb4.mono hb3.size))).trans (hb5.mono (by have := hb3.size; have := hb4.size; omega))
  have hR45 : RB g4 zeroR w5 := (hb5.block g4 (lt_of_row hR4)).trans hR4
  have hg4 : w.heap.size ≤ g4 := by have := hb3.size; omega
  clear hb3 hb4 hb5 hR4 hR3 hl3 hl4
  go_wp2_with (first | ((with_reducible refine at_op (.alloc 121) ?_); refine wpList_plain rfl (fun K hK => ?_); refine wp_alloc_lrow rfl ?_; intro gx w6 hgx hw6; refine hK _ _ ?_; (have HGX := hid hgx); (have HW6 := hid hw6); (clear hgx hw6)) | ((with_reducible refine at_op (.store 121 (.tmp 5) (.tmp 9)) ?_); refine wpList_plain rfl (fun K hK => ?_); refine wp_store_lrow (.tmp 5) (.tmp 9) rfl gx w5.heap.size X zrow HXL.out rfl rfl (by rw [HW6.out, HGX.out]; exact heap_alloc_new w5 _) rfl (by have := HGX.out; omega) ?_; intro w7 hA7 hAo7 hb7; refine hK _ _ ?_))
  have hb56 : Below w5.heap.size w5 w7 := (alloc_below HW6.out (Nat.le_refl _)).trans (hb7)
  have hb7' := hb35.trans (hb56.mono hb35.size)
  have HI0 := hid (show RD h (restN Z X 0 ++ Y) w7 ∧ w7.heap[gx]? = some (.cells (ocells (mixL Z X 0)) 121 (0, 0)) ∧ RB g4 zeroR w7 ∧ Turn h w w7 from
    ⟨HR.out.below hb7', hA7, (hb56.block g4 (lt_of_row hR45)).trans hR45, Turn.of_below hb7'⟩)
  have HG := hid (show w.heap.size ≤ gx ∧ w.heap.size ≤ g4 ∧ gx ≠ g4 by have := lt_of_row hR45; have := hb35.size; have := HGX.out; omega)
  clear hb35 hb56 hb7 hb7' hA7 hAo7 hR45
  go_wp2_with fail
  go_loopw [12] (fun i wr => ∃ k : Nat, k ≤ 11 ∧ i = .int .i64 k ∧ RD h (restN Z X k ++ Y) wr ∧ wr.heap[gx]? = some (.cells (ocells (mixL Z X k)) 121 (0, 0)) ∧ RB g4 zeroR wr ∧ Turn h w wr) (fun i _ => 11 - (intOf i).toNat)
  case atStart => exact ⟨0, by omega, rfl, HI0.out⟩
  case round =>
    obtain ⟨k, hk, rfl, i1, i2, i3, i4⟩ := hrel
    by_cases hlt : k < 11
    · have hlt' : (k : Int) < 11 := by omega
      rw [restN_cons Z X k hlt, List.append_assoc] at i1
      have HZK := hid (HZB.out k hlt)
      have HLB := hid (low_back (X.getD k 0) (Z.getD k 0) (HZB.out k hlt))
      have HWD := hid (fun W hr => word_ok h (lowI (Z.getD k 0 - X.getD k 0)) (restN Z X (k + 1) ++ Y) W (lowI_bd _) hr (by rw [List.length_append]; have := restN_len Z X (k + 1); have := HM.out; omega))
      have HMS := hid (mixL_set HZL.out HXL.out k hlt)
      have HMA := hid (show (ocells (mixL Z X k))[k]? = some (.int .i32 (X.getD k 0)) from by rw [ocells_at (mixL_len HZL.out HXL.out k (by omega)) k hlt, mixL_at HZL.out HXL.out k hlt])
      have J1 := hid i1
      have J2 := hid i2
      have J3 := hid i3
      have J4 := hid i4
      clear i1 i2 i3 i4
      generalize X.getD k 0 = x at *
      generalize Z.getD k 0 = z at *
      go_wp2_with fail
      refine wp_region_F' (B := 0) (n := 8) (l := #[false, false, false, false, false, false, false, false]) (by kernel_rfl) (by kernel_rfl) (by kernel_rfl) ?_
      refine wpAnyF_take (i := 0) (v := ?vp_0_1) (some 15) rfl rfl (by kernel_rfl) (by kernel_rfl) (by kernel_rfl) (fun _ _ _ h => h) (by rfl) ?hvp_0_1 ?restp_0_1
      case hvp_0_1 => (intro w' hb; go_simp; try with_reducible rfl)
      simp only [Act.put, List.setIfInBounds_toArray, List.set_cons_zero, List.set_cons_succ]
      refine wpAnyF_take (i := 1) (v := ?vp_1_2) (some 16) rfl rfl (by kernel_rfl) (by kernel_rfl) (by kernel_rfl) (fun _ _ _ h => h) (by rfl) ?hvp_1_2 ?restp_1_2
      case hvp_1_2 => (intro w' hb; go_simp; try with_reducible rfl)
      simp only [Act.put, List.setIfInBounds_toArray, List.set_cons_zero, List.set_cons_succ]
      refine wpAnyF_take (i := 3) (v := ?vp_3_3) (some 18) rfl rfl (by kernel_rfl) (by kernel_rfl) (by kernel_rfl) (fun _ _ _ h => h) (by rfl) ?hvp_3_3 ?restp_3_3
      case hvp_3_3 => (intro w' hb; go_simp; try with_reducible rfl)
      simp only [Act.put, List.setIfInBounds_toArray, List.set_cons_zero, List.set_cons_succ]
      refine wpAnyF_two (i := 2) (j := 4) (by kernel_rfl) rfl (by rfl) rfl (by rfl) (fun K hK => ?_) (fun K hK => ?_)
      · have qx := (cell_of_row _ gx k _ _ _ J2.out).trans HMA.out
        go_simp
        refine hK.out _ _ ⟨(Below.refl _ _), ?_⟩
        clear hK K
        simp only [List.setIfInBounds_toArray, List.set_cons_zero, List.set_cons_succ]
        refine wpAnyF_alone (i := 4) rfl (by kernel_rfl) (by rfl) (fun K hK => ?_)
        go_simp
        refine (HWD.out wr.drew J1.out).mono ?_
        rintro e w8 ⟨rfl, hr8, ht8⟩
        have hb : Below 0 wr.drew w8 := ht8.below (Nat.zero_le _) (Nat.zero_le _)
        have K1 := hid hr8
        have K2 := hid (ht8.row (k := gx) J2.out (by have := HG.out.1; omega))
        have K3 := hid (show RB g4 zeroR w8 from ht8.row (k := g4) J3.out (by have := HG.out.2.1; omega))
        have K4 := hid (J4.out.drew.trans ht8)
        replace J2 := K2
        clear hr8 ht8
        refine hK.out _ _ hb ?_
        clear hK K
        simp only [List.setIfInBounds_toArray, List.set_cons_zero, List.set_cons_succ]
        refine wpAnyF_take (i := 5) (v := ?vp_5_4) (some 20) rfl rfl (by kernel_rfl) (by kernel_rfl) (by kernel_rfl) (fun _ _ _ h => h) (by rfl) ?hvp_5_4 ?restp_5_4
        case hvp_5_4 => (intro w' hb; (have e := HLB.out; go_simp; try with_reducible rfl))
        simp only [Act.put, List.setIfInBounds_toArray, List.set_cons_zero, List.set_cons_succ]
        refine wpAnyF_take (i := 6) (v := ?vp_6_5) (some 21) rfl rfl (by kernel_rfl) (by kernel_rfl) (by kernel_rfl) (fun _ _ _ h => h) (by rfl) ?hvp_6_5 ?restp_6_5
        case hvp_6_5 => (intro w' hb; go_simp; try with_reducible rfl)
        simp only [Act.put, List.setIfInBounds_toArray, List.set_cons_zero, List.set_cons_succ]
        refine wpAnyF_alone (i := 7) rfl (by kernel_rfl) (by rfl) (fun K hK => ?_)
        have qx := (cell_of_row _ gx k _ _ _ K2.out).trans HMA.out
        have fx := frozen_of_row _ gx k _ _ K2.out
        go_simp
        have hb : Below 0 w8 (w8.setCell ⟨gx, k, none⟩ (.int .i32 z)) := (Below.refl _ _).setCell (p := ⟨gx, k, none⟩) (Nat.zero_le _) _
        have FIN := hid (show RD h (restN Z X (k + 1) ++ Y) (w8.setCell ⟨gx, k, none⟩ (.int .i32 z)) ∧ (w8.setCell ⟨gx, k, none⟩ (.int .i32 z)).heap[gx]? = some (.cells (ocells (mixL Z X (k + 1))) 121 (0, 0)) ∧ RB g4 zeroR (w8.setCell ⟨gx, k, none⟩ (.int .i32 z)) ∧ Turn h w (w8.setCell ⟨gx, k, none⟩ (.int .i32 z)) from
          ⟨K1.out.setNew (by have := HG.out.1; omega), by have h5 := K2.out; have h6 := HMS.out; simp [World.setCell, Array.getElem?_modify, h5, h6], K3.out.other HG.out.2.2.symm, K4.out.setNew HG.out.1⟩)
        refine hK.out _ _ hb ?_
        clear hK K
        simp only [List.setIfInBounds_toArray, List.set_cons_zero, List.set_cons_succ]
        refine wpAnyF_done (by kernel_rfl) ?_ _
        go_wp2_with fail
        go_roundw
        case rel => exact ⟨k + 1, by omega, by go_num, FIN.out⟩
        case measure => simp [intOf]; omega
      · go_simp
        refine (HWD.out wr.drew J1.out).mono ?_
        rintro e w8 ⟨rfl, hr8, ht8⟩
        have hb : Below 0 wr.drew w8 := ht8.below (Nat.zero_le _) (Nat.zero_le _)
        have K1 := hid hr8
        have K2 := hid (ht8.row (k := gx) J2.out (by have := HG.out.1; omega))
        have K3 := hid (show RB g4 zeroR w8 from ht8.row (k := g4) J3.out (by have := HG.out.2.1; omega))
        have K4 := hid (J4.out.drew.trans ht8)
        replace J2 := K2
        clear hr8 ht8
        refine hK.out _ _ ⟨hb, ?_⟩
        clear hK K
        simp only [List.setIfInBounds_toArray, List.set_cons_zero, List.set_cons_succ]
        refine wpAnyF_alone (i := 2) rfl (by kernel_rfl) (by rfl) (fun K hK => ?_)
        have qx := (cell_of_row _ gx k _ _ _ J2.out).trans HMA.out
        go_simp
        refine hK.out _ _ (Below.refl _ _) ?_
        clear hK K
        simp only [List.setIfInBounds_toArray, List.set_cons_zero, List.set_cons_succ]
        refine wpAnyF_take (i := 5) (v := ?vp_5_6) (some 20) rfl rfl (by kernel_rfl) (by kernel_rfl) (by kernel_rfl) (fun _ _ _ h => h) (by rfl) ?hvp_5_6 ?restp_5_6
        case hvp_5_6 => (intro w' hb; (have e := HLB.out; go_simp; try with_reducible rfl))
        simp only [Act.put, List.setIfInBounds_toArray, List.set_cons_zero, List.set_cons_succ]
        refine wpAnyF_take (i := 6) (v := ?vp_6_7) (some 21) rfl rfl (by kernel_rfl) (by kernel_rfl) (by kernel_rfl) (fun _ _ _ h => h) (by rfl) ?hvp_6_7 ?restp_6_7
        case hvp_6_7 => (intro w' hb; go_simp; try with_reducible rfl)
        simp only [Act.put, List.setIfInBounds_toArray, List.set_cons_zero, List.set_cons_succ]
        refine wpAnyF_alone (i := 7) rfl (by kernel_rfl) (by rfl) (fun K hK => ?_)
        have qx := (cell_of_row _ gx k _ _ _ K2.out).trans HMA.out
        have fx := frozen_of_row _ gx k _ _ K2.out
        go_simp
        have hb : Below 0 w8 (w8.setCell ⟨gx, k, none⟩ (.int .i32 z)) := (Below.refl _ _).setCell (p := ⟨gx, k, none⟩) (Nat.zero_le _) _
        have FIN := hid (show RD h (restN Z X (k + 1) ++ Y) (w8.setCell ⟨gx, k, none⟩ (.int .i32 z)) ∧ (w8.setCell ⟨gx, k, none⟩ (.int .i32 z)).heap[gx]? = some (.cells (ocells (mixL Z X (k + 1))) 121 (0, 0)) ∧ RB g4 zeroR (w8.setCell ⟨gx, k, none⟩ (.int .i32 z)) ∧ Turn h w (w8.setCell ⟨gx, k, none⟩ (.int .i32 z)) from
          ⟨K1.out.setNew (by have := HG.out.1; omega), by have h5 := K2.out; have h6 := HMS.out; simp [World.setCell, Array.getElem?_modify, h5, h6], K3.out.other HG.out.2.2.symm, K4.out.setNew HG.out.1⟩)
        refine hK.out _ _ hb ?_
        clear hK K
        simp only [List.setIfInBounds_toArray, List.set_cons_zero, List.set_cons_succ]
        refine wpAnyF_done (by kernel_rfl) ?_ _
        go_wp2_with fail
        go_roundw
        case rel => exact ⟨k + 1, by omega, by go_num, FIN.out⟩
        case measure => simp [intOf]; omega
    · obtain rfl : k = 11 := by omega
      have J1 := hid (show RD h Y wr from by rw [restN_end] at i1; exact i1)
      have J2 := hid (show wr.heap[gx]? = some (.cells (ocells Z) 121 (0, 0)) from by
        have e : mixL Z X 11 = Z := by unfold mixL; rw [List.take_of_length_le (by have := HZL.out; omega), List.drop_of_length_le (by have := HXL.out; omega), List.append_nil]
        rw [e] at i2; exact i2)
      have J3 := hid i3
      have J4 := hid i4
      clear i1 i2 i3 i4
      go_wp2_with ((with_reducible refine at_op (.load 121 (.tmp 5)) ?_); refine wpList_plain rfl (fun K hK => ?_); refine wp_load_row 121 (.tmp 5) rfl gx rfl _ _ _ _ J2.out Tryd.underlying121 rfl (by rw [ocells_size HZL.out]; kernel_rfl) (hK _ _ ?_))
      refine (RPZ.out wr).mono ?_
      rintro e w9 ⟨rfl, hb9⟩
      have hR9 : RB g4 zeroR w9 := (hb9.block g4 (lt_of_row J3.out)).trans J3.out
      have K1 := hid (J1.out.below hb9)
      have K4 := hid (J4.out.later hb9)
      clear hb9
      go_wp2_with ((with_reducible refine at_op (.store 50 (.tmp 4) (.tmp 24)) ?_); refine wpR_put rfl (.tmp 4) (.tmp 24) rfl g4 g4 Z zeroR HZL.out rfl rfl rfl hR9 (Nat.le_refl _) ?_; intro w10 hR10 hb10)
      have lv := run_loadVar_row (P := Tryd.prog) _ g4 _ 50 _ _ _ hR10 Tryd.underlying50 rfl (by rw [rcells_size _ HZL.out]; kernel_rfl)
      refine bodyPost_ret (v := .agg (rcells Z)) (by simp [results, Tryd.results92, asAddr, Act.put, lv]) rfl ⟨rfl, K1.out.belowN hb10 (by have := HG.out.2.1; omega), K4.out.more hb10 HG.out.2.1⟩
end Go.Proofs.YtecbfegohdllbaaDoor
