/- The walk of LogPlays: what a log keeps of any reports. -/
import Derived.Test.YtecbfegohdllbaaDoorLog20
namespace Go.Proofs.YtecbfegohdllbaaDoor
open Go.RowKit
set_option linter.unusedVariables false
set_option linter.unusedSimpArgs false
theorem rrow_lt {W : World} {b off n c : Nat} {l : List (List Int)} (h : RRow W (.slice (some ⟨b, off, none⟩) n c) l) (hl : 0 < n) (hw : ∀ Z ∈ l, RepWf Z) : b < W.heap.size := by
  obtain ⟨a, c', h1, h2, h3, h4⟩ := h
  obtain ⟨rfl, rfl, rfl⟩ := Value.slice.inj h1
  have hz := rcells_list_len l[0] (hw _ (List.getElem_mem hl)).1
  have := h4 _ rfl 0 l[0] (by simp [hl]) 0 ((rcells l[0]).toList[0]'(by omega)) (List.getElem?_eq_getElem _)
  rw [add_plain] at this
  exact World.block_lt_of_cell? W _ this
theorem rladd_any {M gy room : Nat} {u : Value} {L : List (List Int)} (Z : List Int) (w : World) (h : RG M gy room u L w) (hZ : RepWf Z) (hR : RightL Z) :
    Calls Tryd.prog 52 #[.pointer (some ⟨gy, 0, none⟩), .agg (rcells Z)] w fun e w' => e = .returned (.int .i64 0) ∧ ∃ u', RG M gy room u' (addL room L Z) w' ∧ Turn gy w w' ∧ (∃ j, u'.ownBlock = some j ∧ w.heap.size ≤ j) := by
  have hle := h.2.2.2.2.2.2.2
  by_cases hlt : L.length < room
  · exact rladd_more Z w h hZ hR hlt
  · exact rladd_over Z w h hZ hR (by omega)
/-- a log and the document's beside it -/
def PI (w : World) (M g gy room : Nat) (W : World) : Prop :=
  ∃ ring R f u L, Below w.heap.size w W ∧ LG M g room ring R f W ∧ RG M gy room u L W ∧ ringL R f = L ∧ g ≠ gy ∧ (∀ j, ring.ownBlock = some j → u.ownBlock ≠ some j) ∧ w.heap.size ≤ g ∧ w.heap.size ≤ gy ∧ w.heap.size ≤ M
theorem PI.below {w A B : World} {M g gy room : Nat} (h : PI w M g gy room A) (hb : Below A.heap.size A B) : PI w M g gy room B := by
  obtain ⟨ring, R, f, u, L, h1, h2, h3, h4⟩ := h
  exact ⟨ring, R, f, u, L, chain h1 hb, h2.below hb, h3.below hb, h4⟩
theorem PI.both {w A : World} {M g gy room : Nat} (h : PI w M g gy room A) : ∃ ring R f u L, Below w.heap.size w A ∧ LG M g room ring R f A ∧ RG M gy room u L A ∧ ringL R f = L := by
  obtain ⟨ring, R, f, u, L, h1, h2, h3, h4, -⟩ := h
  exact ⟨ring, R, f, u, L, h1, h2, h3, h4⟩
set_option maxRecDepth 100000 in
set_option maxHeartbeats 1000000 in
/-- a report added to both -/
theorem pi_right {w A B C : World} {M g gy room f f' : Nat} {ring ring' u u' : Value} {R R' L : List (List Int)} {Z : List Int} (hb : Below w.heap.size w A) (hl : LG M g room ring R f A) (hr : RG M gy room u L A) (hL : ringL R f = L) (hne : g ≠ gy) (hd : ∀ j, ring.ownBlock = some j → u.ownBlock ≠ some j) (hg : w.heap.size ≤ g) (hgy : w.heap.size ≤ gy) (hM : w.heap.size ≤ M)
    (hl' : LG M g room ring' R' f' B) (hR' : ringL R' f' = addL room (ringL R f) Z) (hk : Kept g ring.ownBlock A B) (ho : ring'.ownBlock = ring.ownBlock ∨ ∃ j, ring'.ownBlock = some j ∧ A.heap.size ≤ j)
    (hr' : RG M gy room u' (addL room L Z) C) (ht : Turn gy B C) (hu : ∃ j, u'.ownBlock = some j ∧ B.heap.size ≤ j) : PI w M g gy room C := by
  have hgyM : gy < M := hr.2.2.1
  have hbB : Below w.heap.size w B := hb.trans (hk.below hb.size hg (fun j e => by have := (hl.block j e).1; omega))
  refine ⟨ring', R', f', u', addL room L Z, hbB.trans (ht.below hbB.size hgy), hl'.grown ht (fun e => hne (by injection e with e; exact e.symm)) (fun j e e2 => ?_), hr', by rw [hR', hL], hne, ?_, hg, hgy, hM⟩
  · have := (hl'.block j e).1
    injection e2 with e2
    omega
  · intro j e e2
    obtain ⟨k, h1, h2⟩ := hu
    rw [h1] at e2
    injection e2 with e2
    have := (hl'.block j e).2
    omega
theorem rg_kept {A B : World} {M g gy room : Nat} {r : Option Nat} {u : Value} {L : List (List Int)} (h : RG M gy room u L A) (hk : Kept g r A B) (h1 : g ≠ gy) (hgM : g < M) (hr : ∀ j, r = some j → M ≤ j) (hd : ∀ j, r = some j → u.ownBlock ≠ some j) : RG M gy room u L B := by
  obtain ⟨q0, q1, q2, q3, q4⟩ := h
  exact ⟨(hk.block gy (lt_of_row q0) h1.symm (fun e => by have := hr gy e; omega)).trans q0, hk.row q1 (fun e => by have := (q1.lt g e).1; omega) hd, q2, Nat.le_trans q3 hk.size, q4⟩
set_option maxRecDepth 100000 in
set_option maxHeartbeats 4000000 in
theorem LogPlays_walk (room : Int) (v : Value) (l : List (List Int)) (seq : Int) (w : World) (hroom : (Lit.int .i64 room).wf = true) (hM : RRow w v l ∧ ∀ Z ∈ l, RepWf Z) (hseq : (Lit.int .i64 seq).wf = true) (h4 : Four w) (a0 : Addr) (hE : ErrR w a0) : Calls Tryd.prog 17 #[.int .i64 room, v, .int .i64 seq] w fun e w' => e = .returned (.bool true) ∧ Below w.heap.size w w' := by
  have F0 := hid (show FE a0 a0 w from ⟨h4, hE⟩)
  have HM := hid (fun W (hW : Below w.heap.size w W) => rrow_later hM.1 hW)
  have HWF := hid hM.2
  obtain ⟨a, c, rfl, a1', hc⟩ := rrow_at hM.1 (fun Z hZ => (hM.2 Z hZ).1)
  obtain ⟨N, hN⟩ : ∃ N, N = l.length := ⟨_, rfl⟩
  have HN := hid hN
  rw [← hN] at a1' hc HM ⊢
  clear hM h4 hE hN hroom hseq
  have AW := hid (awake47 a0 a0 w F0.out)
  go_enter Tryd.func17, Tryd.ntmps17
  by_cases h60 : N ≤ 60
  · have h60' : (N : Int) ≤ 60 := by omega
    by_cases hrr : 1 ≤ room ∧ room ≤ 1000
    · obtain ⟨hr1, hr2⟩ := hrr
      obtain ⟨rm, rfl⟩ : ∃ rm : Nat, room = rm := ⟨room.toNat, by omega⟩
      go_wp2_with fail
      refine (lnew_any (rm : Int) w ⟨by omega, by omega⟩).mono ?_
      rintro e w1 ⟨rfl, hl1, hb1⟩
      rw [show ((rm : Int)).toNat = rm from Int.toNat_natCast rm] at hl1
      have hg1 := lt_of_row hl1.1
      have hs1 := hb1.size
      have hb2 := (Below.refl _ w1).alloc (Nat.le_refl _) (.cells #[.int .i64 rm, .slice none 0 0] 73)
      have hy2 := heap_alloc_new w1 (.cells #[.int .i64 rm, .slice none 0 0] 73)
      have hsz2 : (w1.alloc (.cells #[.int .i64 rm, .slice none 0 0] 73)).heap.size = w1.heap.size + 1 := by simp
      have TS0 := hid (show PI w (w1.alloc (.cells #[.int .i64 rm, .slice none 0 0] 73)).heap.size w.heap.size w1.heap.size rm (w1.alloc (.cells #[.int .i64 rm, .slice none 0 0] 73)) from by
        have hlb := hl1.below hb2
        obtain ⟨q0, q1, q2, q3, q4⟩ := hlb
        exact ⟨.slice none 0 0, [], 0, .slice none 0 0, [], chain hb1 hb2, ⟨q0, World.ownsRow_nil _ _ _ _, by omega, Nat.le_refl _, q4⟩, ⟨hy2, World.ownsRow_nil _ _ _ _, by omega, Nat.le_refl _, (fun Z hZ => by cases hZ), by omega, by omega, Nat.zero_le _⟩, rfl, by omega, (fun j e => by cases e), Nat.le_refl _, hs1, by omega⟩)
      have HRM := hid (show 1 ≤ rm ∧ rm ≤ 1000 by omega)
      obtain ⟨g, hg⟩ : ∃ g, g = w.heap.size := ⟨_, rfl⟩
      obtain ⟨gy, hgy⟩ : ∃ gy, gy = w1.heap.size := ⟨_, rfl⟩
      rw [← hg, ← hgy] at TS0
      rw [← hg]
      clear hl1 hb1 hg hb2 hy2 hsz2 hg1 hs1
      go_wp2_with fail
      rw [← hgy]
      clear hgy
      generalize (w1.alloc (.cells #[.int .i64 rm, .slice none 0 0] 73)).heap.size = M at *
      generalize w1.alloc (.cells #[.int .i64 rm, .slice none 0 0] 73) = w2 at *
      go_loopw [10] (fun i wr => ∃ k : Nat, k ≤ N ∧ i = .int .i64 k ∧ PI w M g gy rm wr) (fun i _ => N - (intOf i).toNat)
      case atStart => exact ⟨0, by omega, rfl, TS0.out⟩
      case round =>
        obtain ⟨k, hk, rfl, hpi⟩ := hrel
        have HPI := hid hpi
        clear hpi
        by_cases hlt : k < N
        · have hlt' : (k : Int) < N := by omega
          obtain ⟨b, off, rfl⟩ := a1' (by omega)
          have l1 : k < l.length := by have := HN.out; omega
          have z1 : l[k]? = some l[k] := by simp [l1]
          have HZW := hid (HWF.out _ (List.getElem_mem l1))
          have HMW := hid (HM.out w (Below.refl _ _))
          have hbw : b < w.heap.size := rrow_lt (HM.out w (Below.refl _ _)) (by omega) (fun Z hZ => HWF.out Z hZ)
          generalize l[k] = Z at *
          have HZL := hid HZW.out.1
          have CA := hid (fun W (hW : Below w.heap.size w W) => rrow_cells (HM.out W hW) z1)
          clear z1 l1
          obtain ⟨ring, R, f, u, L, i1, i2, i3, i4, i5, i6, i7, i8, i9⟩ := HPI.out
          have J1 := hid i1
          have J2 := hid i2
          have J3 := hid i3
          have J4 := hid i4
          have J5 := hid i5
          have J6 := hid i6
          have J7 := hid (show w.heap.size ≤ g ∧ w.heap.size ≤ gy ∧ w.heap.size ≤ M from ⟨i7, i8, i9⟩)
          have cseq : wr.cell? ⟨b, off + k * 11 + 1, none⟩ = some (.int .i64 (Z.getD 1 0)) := CA.out wr J1.out 1 _ (rep_seq HZL.out) _ (by omega)
          have hbwr : b < wr.heap.size := by have := i1.size; omega
          clear i1 i2 i3 i4 i5 i6 i7 i8 i9 HPI
          by_cases hR : RightL Z
          · have HR := hid hR
            clear hR
            go_wp2_with fail
            refine wp_region_F' (B := w.heap.size) (n := 24) (l := #[false, false, false, false, false, false, false, false, false, false, false, false, false, false, false, false, false, false, false, false, false, false, false, false]) (by kernel_rfl) (by kernel_rfl) (by kernel_rfl) ?_
            refine wpAnyF_take (i := 0) (v := ?vp_0_1) (some 50) rfl rfl (by kernel_rfl) (by kernel_rfl) (by kernel_rfl) (fun _ _ _ h => h) (by rfl) ?hvp_0_1 ?restp_0_1
            case hvp_0_1 => (intro w' hb; go_simp; try with_reducible rfl)
            simp only [Act.put, List.setIfInBounds_toArray, List.set_cons_zero, List.set_cons_succ]
            refine wpAnyF_take (i := 1) (v := ?vp_1_2) (some 51) rfl rfl (by kernel_rfl) (by kernel_rfl) (by kernel_rfl) (fun _ _ _ h => h) (by rfl) ?hvp_1_2 ?restp_1_2
            case hvp_1_2 => (intro w' hb; go_simp; try with_reducible rfl)
            simp only [Act.put, List.setIfInBounds_toArray, List.set_cons_zero, List.set_cons_succ]
            refine wpAnyF_take (i := 2) (v := ?vp_2_3) (some 52) rfl rfl (by kernel_rfl) (by kernel_rfl) (by kernel_rfl) (fun _ _ _ h => h) (by rfl) ?hvp_2_3 ?restp_2_3
            case hvp_2_3 => (intro w' hb; go_simp; try with_reducible rfl)
            simp only [Act.put, List.setIfInBounds_toArray, List.set_cons_zero, List.set_cons_succ]
            refine wpAnyF_take (i := 3) (v := ?vp_3_4) (some 53) rfl rfl (by kernel_rfl) (by kernel_rfl) (by kernel_rfl) (fun _ _ _ h => h) (by rfl) ?hvp_3_4 ?restp_3_4
            case hvp_3_4 => (intro w' hb; go_simp; try with_reducible rfl)
            simp only [Act.put, List.setIfInBounds_toArray, List.set_cons_zero, List.set_cons_succ]
            refine wpAnyF_take (i := 4) (v := ?vp_4_5) (some 54) rfl rfl (by kernel_rfl) (by kernel_rfl) (by kernel_rfl) (fun _ _ _ h => h) (by rfl) ?hvp_4_5 ?restp_4_5
            case hvp_4_5 => (intro w' hb; (refine exec_load_part (.tmp 53) ?_ ⟨b, off + k * 11, none⟩ ?_ Z HZL.out ?_; rfl; rfl; (intro i x hj; rw [add_plain]; exact CA.out w' (J1.out.drew.trans hb) i x hj _ (by omega))))
            simp only [Act.put, List.setIfInBounds_toArray, List.set_cons_zero, List.set_cons_succ]
            refine wpAnyF_take (i := 6) (v := ?vp_6_6) (some 56) rfl rfl (by kernel_rfl) (by kernel_rfl) (by kernel_rfl) (fun _ _ _ h => h) (by rfl) ?hvp_6_6 ?restp_6_6
            case hvp_6_6 => (intro w' hb; go_simp; try with_reducible rfl)
            simp only [Act.put, List.setIfInBounds_toArray, List.set_cons_zero, List.set_cons_succ]
            refine wpAnyF_take (i := 7) (v := ?vp_7_7) (some 57) rfl rfl (by kernel_rfl) (by kernel_rfl) (by kernel_rfl) (fun _ _ _ h => h) (by rfl) ?hvp_7_7 ?restp_7_7
            case hvp_7_7 => (intro w' hb; go_simp; try with_reducible rfl)
            simp only [Act.put, List.setIfInBounds_toArray, List.set_cons_zero, List.set_cons_succ]
            refine wpAnyF_take (i := 8) (v := ?vp_8_8) (some 58) rfl rfl (by kernel_rfl) (by kernel_rfl) (by kernel_rfl) (fun _ _ _ h => h) (by rfl) ?hvp_8_8 ?restp_8_8
            case hvp_8_8 => (intro w' hb; go_simp; try with_reducible rfl)
            simp only [Act.put, List.setIfInBounds_toArray, List.set_cons_zero, List.set_cons_succ]
            refine wpAnyF_take (i := 9) (v := ?vp_9_9) (some 59) rfl rfl (by kernel_rfl) (by kernel_rfl) (by kernel_rfl) (fun _ _ _ h => h) (by rfl) ?hvp_9_9 ?restp_9_9
            case hvp_9_9 => (intro w' hb; go_simp; try with_reducible rfl)
            simp only [Act.put, List.setIfInBounds_toArray, List.set_cons_zero, List.set_cons_succ]
            refine wpAnyF_take (i := 10) (v := ?vp_10_10) (some 60) rfl rfl (by kernel_rfl) (by kernel_rfl) (by kernel_rfl) (fun _ _ _ h => h) (by rfl) ?hvp_10_10 ?restp_10_10
            case hvp_10_10 => (intro w' hb; (refine exec_load_part (.tmp 59) ?_ ⟨b, off + k * 11, none⟩ ?_ Z HZL.out ?_; rfl; rfl; (intro i x hj; rw [add_plain]; exact CA.out w' (J1.out.drew.trans hb) i x hj _ (by omega))))
            simp only [Act.put, List.setIfInBounds_toArray, List.set_cons_zero, List.set_cons_succ]
            refine wpAnyF_alone (i := 5) rfl (by kernel_rfl) (by rfl) (fun K hK => ?_)
            go_simp
            refine (ladd_right Z a0 a0 wr.drew (J2.out.below ((Below.refl _ wr).drew)) HZW.out HR.out (F0.out.later J1.out.drew)).mono ?_
            rintro e w5 ⟨rfl, ring5, R5, f5, hl5, hr5, hk5, ho5⟩
            have hb : Below w.heap.size wr.drew w5 := hk5.below (by simpa using J1.out.size) J7.out.1 (fun j e => by have := (J2.out.block j e).1; have := J7.out.2.2; omega)
            have K1 := hid (J1.out.drew.trans hb)
            have K2 := hid hl5
            have K3 := hid (rg_kept (J3.out.below ((Below.refl _ wr).drew)) hk5 J5.out J2.out.2.2.1 (fun j e => (J2.out.block j e).1) J6.out)
            have K4 := hid (fun u' C (hr' : RG M gy rm u' (addL rm L Z) C) (ht : Turn gy w5 C) (hu : ∃ j, u'.ownBlock = some j ∧ w5.heap.size ≤ j) => pi_right (J1.out.drew) (J2.out.below ((Below.refl _ wr).drew)) (J3.out.below ((Below.refl _ wr).drew)) J4.out J5.out J6.out J7.out.1 J7.out.2.1 J7.out.2.2 hl5 hr5 hk5 ho5 hr' ht hu)
            clear hl5 hr5 hk5 ho5
            refine hK.out _ _ hb ?_
            clear hK K
            simp only [List.setIfInBounds_toArray, List.set_cons_zero, List.set_cons_succ]
            refine wpAnyF_alone (i := 11) rfl (by kernel_rfl) (by rfl) (fun K hK => ?_)
            go_simp
            refine (rladd_any Z w5 K3.out HZW.out HR.out).mono ?_
            rintro e w6 ⟨rfl, u6, hr6, ht6, hu6⟩
            have hb : Below w.heap.size w5 w6 := ht6.below (K1.out.size) J7.out.2.1
            have K5 := hid (K4.out u6 w6 hr6 ht6 hu6)
            have K6 := hid (K1.out.trans hb)
            clear hr6 ht6 hu6
            obtain ⟨rg7, R7, f7, u7, L7, m1, m2, m3, m4⟩ := K5.out.both
            have SMM := hid (same47 (Z.getD 1 0) w6 m2 m3 m4)
            clear m1 m2 m3 m4
            refine hK.out _ _ hb ?_
            clear hK K
            simp only [List.setIfInBounds_toArray, List.set_cons_zero, List.set_cons_succ]
            refine wpAnyF_take (i := 12) (v := ?vp_12_11) (some 62) rfl rfl (by kernel_rfl) (by kernel_rfl) (by kernel_rfl) (fun _ _ _ h => h) (by rfl) ?hvp_12_11 ?restp_12_11
            case hvp_12_11 => (intro w' hb; go_simp; try with_reducible rfl)
            simp only [Act.put, List.setIfInBounds_toArray, List.set_cons_zero, List.set_cons_succ]
            refine wpAnyF_take (i := 13) (v := ?vp_13_12) (some 63) rfl rfl (by kernel_rfl) (by kernel_rfl) (by kernel_rfl) (fun _ _ _ h => h) (by rfl) ?hvp_13_12 ?restp_13_12
            case hvp_13_12 => (intro w' hb; go_simp; try with_reducible rfl)
            simp only [Act.put, List.setIfInBounds_toArray, List.set_cons_zero, List.set_cons_succ]
            refine wpAnyF_take (i := 14) (v := ?vp_14_13) (some 64) rfl rfl (by kernel_rfl) (by kernel_rfl) (by kernel_rfl) (fun _ _ _ h => h) (by rfl) ?hvp_14_13 ?restp_14_13
            case hvp_14_13 => (intro w' hb; go_simp; try with_reducible rfl)
            simp only [Act.put, List.setIfInBounds_toArray, List.set_cons_zero, List.set_cons_succ]
            refine wpAnyF_take (i := 15) (v := ?vp_15_14) (some 65) rfl rfl (by kernel_rfl) (by kernel_rfl) (by kernel_rfl) (fun _ _ _ h => h) (by rfl) ?hvp_15_14 ?restp_15_14
            case hvp_15_14 => (intro w' hb; go_simp; try with_reducible rfl)
            simp only [Act.put, List.setIfInBounds_toArray, List.set_cons_zero, List.set_cons_succ]
            refine wpAnyF_take (i := 16) (v := ?vp_16_15) (some 66) rfl rfl (by kernel_rfl) (by kernel_rfl) (by kernel_rfl) (fun _ _ _ h => h) (by rfl) ?hvp_16_15 ?restp_16_15
            case hvp_16_15 => (intro w' hb; go_simp; try with_reducible rfl)
            simp only [Act.put, List.setIfInBounds_toArray, List.set_cons_zero, List.set_cons_succ]
            refine wpAnyF_take (i := 17) (v := ?vp_17_16) (some 67) rfl rfl (by kernel_rfl) (by kernel_rfl) (by kernel_rfl) (fun _ _ _ h => h) (by rfl) ?hvp_17_16 ?restp_17_16
            case hvp_17_16 => (intro w' hb; go_simp; try with_reducible rfl)
            simp only [Act.put, List.setIfInBounds_toArray, List.set_cons_zero, List.set_cons_succ]
            refine wpAnyF_take (i := 18) (v := ?vp_18_17) (some 68) rfl rfl (by kernel_rfl) (by kernel_rfl) (by kernel_rfl) (fun _ _ _ h => h) (by rfl) ?hvp_18_17 ?restp_18_17
            case hvp_18_17 => (intro w' hb; go_simp; try with_reducible rfl)
            simp only [Act.put, List.setIfInBounds_toArray, List.set_cons_zero, List.set_cons_succ]
            refine wpAnyF_take (i := 19) (v := ?vp_19_18) (some 69) rfl rfl (by kernel_rfl) (by kernel_rfl) (by kernel_rfl) (fun _ _ _ h => h) (by rfl) ?hvp_19_18 ?restp_19_18
            case hvp_19_18 => (intro w' hb; go_simp; try with_reducible rfl)
            simp only [Act.put, List.setIfInBounds_toArray, List.set_cons_zero, List.set_cons_succ]
            refine wpAnyF_take (i := 20) (v := ?vp_20_19) (some 70) rfl rfl (by kernel_rfl) (by kernel_rfl) (by kernel_rfl) (fun _ _ _ h => h) (by rfl) ?hvp_20_19 ?restp_20_19
            case hvp_20_19 => (intro w' hb; (have hcw : w'.cell? ⟨b, off + k * 11 + 1, none⟩ = some (.int .i64 (Z.getD 1 0)) := CA.out w' (K6.out.trans hb) 1 _ (rep_seq HZL.out) _ (by omega); go_simp; try with_reducible rfl))
            simp only [Act.put, List.setIfInBounds_toArray, List.set_cons_zero, List.set_cons_succ]
            refine wpAnyF_alone (i := 21) rfl (by kernel_rfl) (by rfl) (fun K hK => ?_)
            go_simp
            refine SMM.out.mono ?_
            rintro e w7 ⟨rfl, hb7⟩
            have hb : Below w.heap.size w6 w7 := hb7.mono K6.out.size
            have K7 := hid (K5.out.below hb7)
            refine hK.out _ _ hb ?_
            clear hK K
            simp only [List.setIfInBounds_toArray, List.set_cons_zero, List.set_cons_succ]
            refine wpAnyF_take (i := 22) (v := ?vp_22_20) (some 72) rfl rfl (by kernel_rfl) (by kernel_rfl) (by kernel_rfl) (fun _ _ _ h => h) (by rfl) ?hvp_22_20 ?restp_22_20
            case hvp_22_20 => (intro w' hb; go_simp; try with_reducible rfl)
            simp only [Act.put, List.setIfInBounds_toArray, List.set_cons_zero, List.set_cons_succ]
            refine wpAnyF_take (i := 23) (v := ?vp_23_21) (some 73) rfl rfl (by kernel_rfl) (by kernel_rfl) (by kernel_rfl) (fun _ _ _ h => h) (by rfl) ?hvp_23_21 ?restp_23_21
            case hvp_23_21 => (intro w' hb; go_simp; try with_reducible rfl)
            simp only [Act.put, List.setIfInBounds_toArray, List.set_cons_zero, List.set_cons_succ]
            refine wpAnyF_done (by kernel_rfl) ?_ _
            go_wp2_with fail
            go_roundw
            case rel => exact ⟨k + 1, by omega, by go_num, K7.out⟩
            case measure => simp [intOf]; omega
          · have HR := hid hR
            clear hR
            go_wp2_with fail
            have HPI2 := hid (show PI w M g gy rm wr from ⟨ring, R, f, u, L, J1.out, J2.out, J3.out, J4.out, J5.out, J6.out, J7.out.1, J7.out.2.1, J7.out.2.2⟩)
            refine wp_region_F' (B := w.heap.size) (n := 24) (l := #[false, false, false, false, false, false, false, false, false, false, false, false, false, false, false, false, false, false, false, false, false, false, false, false]) (by kernel_rfl) (by kernel_rfl) (by kernel_rfl) ?_
            refine wpAnyF_take (i := 0) (v := ?vq_c_0_1) (some 50) rfl rfl (by kernel_rfl) (by kernel_rfl) (by kernel_rfl) (fun _ _ _ h => h) (by rfl) ?hvq_c_0_1 ?restq_c_0_1
            case hvq_c_0_1 => (intro w' hb; go_simp; try with_reducible rfl)
            simp only [Act.put, List.setIfInBounds_toArray, List.set_cons_zero, List.set_cons_succ]
            refine wpAnyF_take (i := 1) (v := ?vq_c_1_2) (some 51) rfl rfl (by kernel_rfl) (by kernel_rfl) (by kernel_rfl) (fun _ _ _ h => h) (by rfl) ?hvq_c_1_2 ?restq_c_1_2
            case hvq_c_1_2 => (intro w' hb; go_simp; try with_reducible rfl)
            simp only [Act.put, List.setIfInBounds_toArray, List.set_cons_zero, List.set_cons_succ]
            refine wpAnyF_take (i := 2) (v := ?vq_c_2_3) (some 52) rfl rfl (by kernel_rfl) (by kernel_rfl) (by kernel_rfl) (fun _ _ _ h => h) (by rfl) ?hvq_c_2_3 ?restq_c_2_3
            case hvq_c_2_3 => (intro w' hb; go_simp; try with_reducible rfl)
            simp only [Act.put, List.setIfInBounds_toArray, List.set_cons_zero, List.set_cons_succ]
            refine wpAnyF_take (i := 3) (v := ?vq_c_3_4) (some 53) rfl rfl (by kernel_rfl) (by kernel_rfl) (by kernel_rfl) (fun _ _ _ h => h) (by rfl) ?hvq_c_3_4 ?restq_c_3_4
            case hvq_c_3_4 => (intro w' hb; go_simp; try with_reducible rfl)
            simp only [Act.put, List.setIfInBounds_toArray, List.set_cons_zero, List.set_cons_succ]
            refine wpAnyF_take (i := 4) (v := ?vq_c_4_5) (some 54) rfl rfl (by kernel_rfl) (by kernel_rfl) (by kernel_rfl) (fun _ _ _ h => h) (by rfl) ?hvq_c_4_5 ?restq_c_4_5
            case hvq_c_4_5 => (intro w' hb; (refine exec_load_part (.tmp 53) ?_ ⟨b, off + k * 11, none⟩ ?_ Z HZL.out ?_; rfl; rfl; (intro i x hj; rw [add_plain]; exact CA.out w' (J1.out.drew.trans hb) i x hj _ (by omega))))
            simp only [Act.put, List.setIfInBounds_toArray, List.set_cons_zero, List.set_cons_succ]
            refine wpAnyF_take (i := 6) (v := ?vq_c_6_6) (some 56) rfl rfl (by kernel_rfl) (by kernel_rfl) (by kernel_rfl) (fun _ _ _ h => h) (by rfl) ?hvq_c_6_6 ?restq_c_6_6
            case hvq_c_6_6 => (intro w' hb; go_simp; try with_reducible rfl)
            simp only [Act.put, List.setIfInBounds_toArray, List.set_cons_zero, List.set_cons_succ]
            refine wpAnyF_take (i := 7) (v := ?vq_c_7_7) (some 57) rfl rfl (by kernel_rfl) (by kernel_rfl) (by kernel_rfl) (fun _ _ _ h => h) (by rfl) ?hvq_c_7_7 ?restq_c_7_7
            case hvq_c_7_7 => (intro w' hb; go_simp; try with_reducible rfl)
            simp only [Act.put, List.setIfInBounds_toArray, List.set_cons_zero, List.set_cons_succ]
            refine wpAnyF_take (i := 8) (v := ?vq_c_8_8) (some 58) rfl rfl (by kernel_rfl) (by kernel_rfl) (by kernel_rfl) (fun _ _ _ h => h) (by rfl) ?hvq_c_8_8 ?restq_c_8_8
            case hvq_c_8_8 => (intro w' hb; go_simp; try with_reducible rfl)
            simp only [Act.put, List.setIfInBounds_toArray, List.set_cons_zero, List.set_cons_succ]
            refine wpAnyF_take (i := 9) (v := ?vq_c_9_9) (some 59) rfl rfl (by kernel_rfl) (by kernel_rfl) (by kernel_rfl) (fun _ _ _ h => h) (by rfl) ?hvq_c_9_9 ?restq_c_9_9
            case hvq_c_9_9 => (intro w' hb; go_simp; try with_reducible rfl)
            simp only [Act.put, List.setIfInBounds_toArray, List.set_cons_zero, List.set_cons_succ]
            refine wpAnyF_take (i := 10) (v := ?vq_c_10_10) (some 60) rfl rfl (by kernel_rfl) (by kernel_rfl) (by kernel_rfl) (fun _ _ _ h => h) (by rfl) ?hvq_c_10_10 ?restq_c_10_10
            case hvq_c_10_10 => (intro w' hb; (refine exec_load_part (.tmp 59) ?_ ⟨b, off + k * 11, none⟩ ?_ Z HZL.out ?_; rfl; rfl; (intro i x hj; rw [add_plain]; exact CA.out w' (J1.out.drew.trans hb) i x hj _ (by omega))))
            simp only [Act.put, List.setIfInBounds_toArray, List.set_cons_zero, List.set_cons_succ]
            refine wpAnyF_alone (i := 5) rfl (by kernel_rfl) (by rfl) (fun K hK => ?_)
            go_simp
            refine (ladd_wrong Z a0 a0 wr.drew (J2.out.below ((Below.refl _ wr).drew)) HZW.out HR.out (F0.out.later J1.out.drew)).mono ?_
            rintro e w5 ⟨rfl, hb5⟩
            have hb : Below w.heap.size wr.drew w5 := hb5.mono (by simpa using J1.out.size)
            have K1 := hid (J1.out.drew.trans hb)
            have K5 := hid (HPI2.out.below (Below.drewl hb5))
            refine hK.out _ _ hb ?_
            clear hK K
            simp only [List.setIfInBounds_toArray, List.set_cons_zero, List.set_cons_succ]
            refine wpAnyF_alone (i := 11) rfl (by kernel_rfl) (by rfl) (fun K hK => ?_)
            go_simp
            refine (rladd_wrong gy Z w5 HZW.out HR.out).mono ?_
            rintro e w6 ⟨rfl, hb6⟩
            have hb : Below w.heap.size w5 w6 := hb6.mono K1.out.size
            have K6 := hid (K1.out.trans hb)
            replace K5 := hid (K5.out.below hb6)
            obtain ⟨rg7, R7, f7, u7, L7, m1, m2, m3, m4⟩ := K5.out.both
            have SMM := hid (same47 (Z.getD 1 0) w6 m2 m3 m4)
            clear m1 m2 m3 m4
            refine hK.out _ _ hb ?_
            clear hK K
            simp only [List.setIfInBounds_toArray, List.set_cons_zero, List.set_cons_succ]
            refine wpAnyF_take (i := 12) (v := ?vq_c_12_11) (some 62) rfl rfl (by kernel_rfl) (by kernel_rfl) (by kernel_rfl) (fun _ _ _ h => h) (by rfl) ?hvq_c_12_11 ?restq_c_12_11
            case hvq_c_12_11 => (intro w' hb; go_simp; try with_reducible rfl)
            simp only [Act.put, List.setIfInBounds_toArray, List.set_cons_zero, List.set_cons_succ]
            refine wpAnyF_take (i := 13) (v := ?vq_c_13_12) (some 63) rfl rfl (by kernel_rfl) (by kernel_rfl) (by kernel_rfl) (fun _ _ _ h => h) (by rfl) ?hvq_c_13_12 ?restq_c_13_12
            case hvq_c_13_12 => (intro w' hb; go_simp; try with_reducible rfl)
            simp only [Act.put, List.setIfInBounds_toArray, List.set_cons_zero, List.set_cons_succ]
            refine wpAnyF_take (i := 14) (v := ?vq_c_14_13) (some 64) rfl rfl (by kernel_rfl) (by kernel_rfl) (by kernel_rfl) (fun _ _ _ h => h) (by rfl) ?hvq_c_14_13 ?restq_c_14_13
            case hvq_c_14_13 => (intro w' hb; go_simp; try with_reducible rfl)
            simp only [Act.put, List.setIfInBounds_toArray, List.set_cons_zero, List.set_cons_succ]
            refine wpAnyF_take (i := 15) (v := ?vq_c_15_14) (some 65) rfl rfl (by kernel_rfl) (by kernel_rfl) (by kernel_rfl) (fun _ _ _ h => h) (by rfl) ?hvq_c_15_14 ?restq_c_15_14
            case hvq_c_15_14 => (intro w' hb; go_simp; try with_reducible rfl)
            simp only [Act.put, List.setIfInBounds_toArray, List.set_cons_zero, List.set_cons_succ]
            refine wpAnyF_take (i := 16) (v := ?vq_c_16_15) (some 66) rfl rfl (by kernel_rfl) (by kernel_rfl) (by kernel_rfl) (fun _ _ _ h => h) (by rfl) ?hvq_c_16_15 ?restq_c_16_15
            case hvq_c_16_15 => (intro w' hb; go_simp; try with_reducible rfl)
            simp only [Act.put, List.setIfInBounds_toArray, List.set_cons_zero, List.set_cons_succ]
            refine wpAnyF_take (i := 17) (v := ?vq_c_17_16) (some 67) rfl rfl (by kernel_rfl) (by kernel_rfl) (by kernel_rfl) (fun _ _ _ h => h) (by rfl) ?hvq_c_17_16 ?restq_c_17_16
            case hvq_c_17_16 => (intro w' hb; go_simp; try with_reducible rfl)
            simp only [Act.put, List.setIfInBounds_toArray, List.set_cons_zero, List.set_cons_succ]
            refine wpAnyF_take (i := 18) (v := ?vq_c_18_17) (some 68) rfl rfl (by kernel_rfl) (by kernel_rfl) (by kernel_rfl) (fun _ _ _ h => h) (by rfl) ?hvq_c_18_17 ?restq_c_18_17
            case hvq_c_18_17 => (intro w' hb; go_simp; try with_reducible rfl)
            simp only [Act.put, List.setIfInBounds_toArray, List.set_cons_zero, List.set_cons_succ]
            refine wpAnyF_take (i := 19) (v := ?vq_c_19_18) (some 69) rfl rfl (by kernel_rfl) (by kernel_rfl) (by kernel_rfl) (fun _ _ _ h => h) (by rfl) ?hvq_c_19_18 ?restq_c_19_18
            case hvq_c_19_18 => (intro w' hb; go_simp; try with_reducible rfl)
            simp only [Act.put, List.setIfInBounds_toArray, List.set_cons_zero, List.set_cons_succ]
            refine wpAnyF_take (i := 20) (v := ?vq_c_20_19) (some 70) rfl rfl (by kernel_rfl) (by kernel_rfl) (by kernel_rfl) (fun _ _ _ h => h) (by rfl) ?hvq_c_20_19 ?restq_c_20_19
            case hvq_c_20_19 => (intro w' hb; (have hcw : w'.cell? ⟨b, off + k * 11 + 1, none⟩ = some (.int .i64 (Z.getD 1 0)) := CA.out w' (K6.out.trans hb) 1 _ (rep_seq HZL.out) _ (by omega); go_simp; try with_reducible rfl))
            simp only [Act.put, List.setIfInBounds_toArray, List.set_cons_zero, List.set_cons_succ]
            refine wpAnyF_alone (i := 21) rfl (by kernel_rfl) (by rfl) (fun K hK => ?_)
            go_simp
            refine SMM.out.mono ?_
            rintro e w7 ⟨rfl, hb7⟩
            have hb : Below w.heap.size w6 w7 := hb7.mono K6.out.size
            have K7 := hid (K5.out.below hb7)
            refine hK.out _ _ hb ?_
            clear hK K
            simp only [List.setIfInBounds_toArray, List.set_cons_zero, List.set_cons_succ]
            refine wpAnyF_take (i := 22) (v := ?vq_c_22_20) (some 72) rfl rfl (by kernel_rfl) (by kernel_rfl) (by kernel_rfl) (fun _ _ _ h => h) (by rfl) ?hvq_c_22_20 ?restq_c_22_20
            case hvq_c_22_20 => (intro w' hb; go_simp; try with_reducible rfl)
            simp only [Act.put, List.setIfInBounds_toArray, List.set_cons_zero, List.set_cons_succ]
            refine wpAnyF_take (i := 23) (v := ?vq_c_23_21) (some 73) rfl rfl (by kernel_rfl) (by kernel_rfl) (by kernel_rfl) (fun _ _ _ h => h) (by rfl) ?hvq_c_23_21 ?restq_c_23_21
            case hvq_c_23_21 => (intro w' hb; go_simp; try with_reducible rfl)
            simp only [Act.put, List.setIfInBounds_toArray, List.set_cons_zero, List.set_cons_succ]
            refine wpAnyF_done (by kernel_rfl) ?_ _
            go_wp2_with fail
            go_roundw
            case rel => exact ⟨k + 1, by omega, by go_num, K7.out⟩
            case measure => simp [intOf]; omega
        · obtain rfl : k = N := by omega
          obtain ⟨ring, R, f, u, L, i1, i2, i3, i4⟩ := HPI.out.both
          have J1 := hid i1
          have J2 := hid i2
          have J3 := hid i3
          have J4 := hid i4
          have SMM := hid (same47 seq wr.drew (i2.below ((Below.refl _ wr).drew)) (i3.below ((Below.refl _ wr).drew)) i4)
          clear i1 i2 i3 i4 HPI
          go_wp2_with fail
          refine wp_region_B' (n := 17) (l := #[false, false, false, false, false, false, false, false, false, false, false, false, false, false, false, false, false]) (by kernel_rfl) (by kernel_rfl) (by kernel_rfl) ?_
          refine wpAnyB_take (i := 0) (v := ?vo_0) (some 74) rfl rfl (by kernel_rfl) (by kernel_rfl) (by kernel_rfl) (fun _ _ _ h => h) (by rfl) ?hvo_0 ?resto_0
          case hvo_0 => (intro w' hb; go_simp; try with_reducible rfl)
          simp only [Act.put, List.setIfInBounds_toArray, List.set_cons_zero, List.set_cons_succ]
          refine wpAnyB_take (i := 1) (v := ?vo_1) (some 75) rfl rfl (by kernel_rfl) (by kernel_rfl) (by kernel_rfl) (fun _ _ _ h => h) (by rfl) ?hvo_1 ?resto_1
          case hvo_1 => (intro w' hb; go_simp; try with_reducible rfl)
          simp only [Act.put, List.setIfInBounds_toArray, List.set_cons_zero, List.set_cons_succ]
          refine wpAnyB_take (i := 2) (v := ?vo_2) (some 76) rfl rfl (by kernel_rfl) (by kernel_rfl) (by kernel_rfl) (fun _ _ _ h => h) (by rfl) ?hvo_2 ?resto_2
          case hvo_2 => (intro w' hb; go_simp; try with_reducible rfl)
          simp only [Act.put, List.setIfInBounds_toArray, List.set_cons_zero, List.set_cons_succ]
          refine wpAnyB_alone (i := 3) rfl (by kernel_rfl) (by rfl) (fun K hK => ?_)
          go_simp
          refine SMM.out.mono ?_
          rintro e w5 ⟨rfl, hb⟩
          have hB5 := chain J1.out (Below.drewl hb)
          have L5 := hid (J2.out.below (Below.drewl hb))
          have R5 := hid (J3.out.below (Below.drewl hb))
          have HL11 := hid (show ∀ Z ∈ L, Z.length = 11 from fun Z hZ => (J3.out.2.2.2.2.1 Z hZ).1.1)
          have HLN := hid (show L.length ≤ 1000 by have := J3.out.2.2.2.2.2.2.1; have := J3.out.2.2.2.2.2.2.2; omega)
          have HLWF := hid (logL_wf (room := rm) HL11.out HRM.out.2 HLN.out)
          refine hK.out _ _ hb ?_
          clear hK K
          simp only [List.setIfInBounds_toArray, List.set_cons_zero, List.set_cons_succ]
          refine wpAnyB_take (i := 4) (v := ?vo_4) (some 78) rfl rfl (by kernel_rfl) (by kernel_rfl) (by kernel_rfl) (fun _ _ _ h => h) (by rfl) ?hvo_4 ?resto_4
          case hvo_4 => (intro w' hb; go_simp; try with_reducible rfl)
          simp only [Act.put, List.setIfInBounds_toArray, List.set_cons_zero, List.set_cons_succ]
          refine wpAnyB_take (i := 5) (v := ?vo_5) (some 79) rfl rfl (by kernel_rfl) (by kernel_rfl) (by kernel_rfl) (fun _ _ _ h => h) (by rfl) ?hvo_5 ?resto_5
          case hvo_5 => (intro w' hb; go_simp; try with_reducible rfl)
          simp only [Act.put, List.setIfInBounds_toArray, List.set_cons_zero, List.set_cons_succ]
          refine wpAnyB_take (i := 8) (v := ?vo_8) (some 82) rfl rfl (by kernel_rfl) (by kernel_rfl) (by kernel_rfl) (fun _ _ _ h => h) (by rfl) ?hvo_8 ?resto_8
          case hvo_8 => (intro w' hb; go_simp; try with_reducible rfl)
          simp only [Act.put, List.setIfInBounds_toArray, List.set_cons_zero, List.set_cons_succ]
          refine wpAnyB_alone (i := 6) rfl (by kernel_rfl) (by rfl) (fun K hK => ?_)
          go_simp
          refine (lbytes_any a0 a0 w5 L5.out (F0.out.later hB5)).mono ?_
          rintro e w6 ⟨v6, rfl, hb, hown6⟩
          rw [J4.out] at hown6
          have k6 := conv_reads_later v6 (logL rm L) w6 (reads_of_owns hown6 HLWF.out)
          have hB6 := chain hB5 hb
          have R6 := hid (R5.out.below hb)
          clear hown6
          refine hK.out _ _ hb ?_
          clear hK K
          simp only [List.setIfInBounds_toArray, List.set_cons_zero, List.set_cons_succ]
          refine wpAnyB_take (i := 7) (v := ?vo_7) (some 81) rfl rfl (by kernel_rfl) (by kernel_rfl) (by kernel_rfl) (fun _ _ _ h => h) (by rfl) ?hvo_7 ?resto_7
          case hvo_7 => (intro w' hb; (have kk := k6 w' hb; go_simp; try with_reducible rfl))
          simp only [Act.put, List.setIfInBounds_toArray, List.set_cons_zero, List.set_cons_succ]
          refine wpAnyB_alone (i := 9) rfl (by kernel_rfl) (by rfl) (fun K hK => ?_)
          go_simp
          refine (rlbytes_any w6 R6.out).mono ?_
          rintro e w7 ⟨v7, rfl, hb, hown7⟩
          have k7 := conv_reads_later v7 (logL rm L) w7 (reads_of_owns hown7 HLWF.out)
          have hB7 := chain hB6 hb
          clear hown7
          refine hK.out _ _ hb ?_
          clear hK K
          simp only [List.setIfInBounds_toArray, List.set_cons_zero, List.set_cons_succ]
          refine wpAnyB_take (i := 10) (v := ?vo_10) (some 84) rfl rfl (by kernel_rfl) (by kernel_rfl) (by kernel_rfl) (fun _ _ _ h => h) (by rfl) ?hvo_10 ?resto_10
          case hvo_10 => (intro w' hb; (have kk := k7 w' hb; go_simp; try with_reducible rfl))
          simp only [Act.put, List.setIfInBounds_toArray, List.set_cons_zero, List.set_cons_succ]
          refine wpAnyB_take (i := 11) (v := ?vo_11) (some 85) rfl rfl (by kernel_rfl) (by kernel_rfl) (by kernel_rfl) (fun _ _ _ h => h) (by rfl) ?hvo_11 ?resto_11
          case hvo_11 => (intro w' hb; go_simp; try with_reducible rfl)
          simp only [Act.put, List.setIfInBounds_toArray, List.set_cons_zero, List.set_cons_succ]
          refine wpAnyB_take (i := 12) (v := ?vo_12) (some 86) rfl rfl (by kernel_rfl) (by kernel_rfl) (by kernel_rfl) (fun _ _ _ h => h) (by rfl) ?hvo_12 ?resto_12
          case hvo_12 => (intro w' hb; go_simp; try with_reducible rfl)
          simp only [Act.put, List.setIfInBounds_toArray, List.set_cons_zero, List.set_cons_succ]
          refine wpAnyB_take (i := 13) (v := ?vo_13) (some 87) rfl rfl (by kernel_rfl) (by kernel_rfl) (by kernel_rfl) (fun _ _ _ h => h) (by rfl) ?hvo_13 ?resto_13
          case hvo_13 => (intro w' hb; go_simp; try with_reducible rfl)
          simp only [Act.put, List.setIfInBounds_toArray, List.set_cons_zero, List.set_cons_succ]
          refine wpAnyB_alone (i := 14) rfl (by kernel_rfl) (by rfl) (fun K hK => ?_)
          go_simp
          refine (awake47 a0 a0 w7 (F0.out.later hB7)).mono ?_
          rintro e w8 ⟨rfl, hb⟩
          have hB8 := chain hB7 hb
          refine hK.out _ _ hb ?_
          clear hK K
          simp only [List.setIfInBounds_toArray, List.set_cons_zero, List.set_cons_succ]
          refine wpAnyB_take (i := 15) (v := ?vo_15) (some 89) rfl rfl (by kernel_rfl) (by kernel_rfl) (by kernel_rfl) (fun _ _ _ h => h) (by rfl) ?hvo_15 ?resto_15
          case hvo_15 => (intro w' hb; go_simp; try with_reducible rfl)
          simp only [Act.put, List.setIfInBounds_toArray, List.set_cons_zero, List.set_cons_succ]
          refine wpAnyB_take (i := 16) (v := ?vo_16) (some 6) rfl rfl (by kernel_rfl) (by kernel_rfl) (by kernel_rfl) (fun _ _ _ h => h) (by rfl) ?hvo_16 ?resto_16
          case hvo_16 => (intro w' hb; go_simp; try with_reducible rfl)
          simp only [Act.put, List.setIfInBounds_toArray, List.set_cons_zero, List.set_cons_succ]
          refine wpAnyB_done (by kernel_rfl) ?_ _
          go_wp2
          go_ret
          exact ⟨by simp, hB8⟩
    · by_cases hr1 : room < 1
      · go_wp2_with fail
        refine (lnew_bad room w (.inl hr1)).mono ?_
        rintro e w1 ⟨rfl, rfl⟩
        clear hrr
        go_wp2_with fail
        refine AW.out.mono ?_
        rintro e w2 ⟨rfl, hb2⟩
        go_wp2
        go_ret
        exact ⟨rfl, hb2⟩
      · have hr2 : 1000 < room := by omega
        go_wp2_with fail
        refine (lnew_bad room w (.inr hr2)).mono ?_
        rintro e w1 ⟨rfl, rfl⟩
        clear hrr
        go_wp2_with fail
        refine AW.out.mono ?_
        rintro e w2 ⟨rfl, hb2⟩
        go_wp2
        go_ret
        exact ⟨rfl, hb2⟩
  · have h60' : (60 : Int) < N := by omega
    go_wp2_with fail
    refine AW.out.mono ?_
    rintro e w2 ⟨rfl, hb2⟩
    go_wp2
    go_ret
    exact ⟨rfl, hb2⟩
end Go.Proofs.YtecbfegohdllbaaDoor
