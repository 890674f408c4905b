/- Layer 47 (log): Load: contracts. -/
import Derived.Test.YtecbfegohdllbaaDoorLog25
import Derived.Test.YtecbfegohdllbaaDoorPackD
namespace Go.Proofs.YtecbfegohdllbaaDoor
open Go.RowKit
set_option linter.unusedVariables false
set_option linter.unusedSimpArgs false
/-- what is left of the chunks from number k on -/
def restB (L : List (List Int)) (n k : Nat) : List Int := ((List.range n).drop k).flatMap (chunkL L)
theorem restB_zero (L : List (List Int)) (n : Nat) : restB L n 0 = bodyN L n := rfl
theorem restB_end (L : List (List Int)) (n : Nat) : restB L n n = [] := by
  unfold restB
  rw [List.drop_of_length_le (by simp)]
  rfl
theorem restB_cons (L : List (List Int)) (n k : Nat) (h : k < n) : restB L n k = chunkL L k ++ restB L n (k + 1) := by
  unfold restB
  rw [List.drop_eq_getElem_cons (by simpa using h), List.flatMap_cons]
  simp
theorem restB_len {L : List (List Int)} (h : ∀ Z ∈ L, Z.length = 11) (n k : Nat) : (restB L n k).length ≤ 55 * n := by
  have h1 : ∀ l : List Nat, (l.flatMap (chunkL L)).length ≤ 55 * l.length := by
    intro l
    induction l with
    | nil => exact Nat.le_refl _
    | cons j l ih =>
      rw [List.flatMap_cons, List.length_append, List.length_cons]
      have := chunkL_len h j
      omega
  have := h1 ((List.range n).drop k)
  rw [List.length_drop, List.length_range] at this
  unfold restB
  have := Nat.mul_le_mul_left 55 (Nat.sub_le n k)
  omega
theorem RD.kept {h g : Nat} {r : Option Nat} {Y : List Int} {A B : World} (hr : RD h Y A) (hk : Kept g r A B) (hg : h < g) (hj : ∀ j, r = some j → h < j) : RD h Y B := by
  obtain ⟨a, c, h1, h2, h3⟩ := hr
  have hb : Below (h + 1) A B := ⟨hk.os, hk.tape, hk.output, hk.size, fun k hlt => hk.block k (by have := lt_of_row h1; omega) (by omega) (fun e => by have := hj k e; omega)⟩
  exact RD.belowN ⟨a, c, h1, h2, h3⟩ hb (by omega)
theorem LG.turn {M g room f h : Nat} {ring : Value} {R : List (List Int)} {A B : World} (hl : LG M g room ring R f A) (ht : Turn h A B) (hg : h ≠ g) (hM : h < M) : LG M g room ring R f B := by
  have hB := hl.block
  obtain ⟨q0, q1, q2, q3, q4⟩ := hl
  refine ⟨ht.row q0 (fun e => hg e.symm), q1.kept ht ?_, q2, Nat.le_trans q3 ht.size, q4⟩
  rcases hr : ring.ownBlock with _ | j
  · exact .inl rfl
  · exact .inr (fun e => by have := (hB j hr).1; first | (have := Option.some.inj e; omega))
theorem LG.belowN {M g room f N : Nat} {ring : Value} {R : List (List Int)} {A B : World} (hl : LG M g room ring R f A) (hb : Below N A B) (hg : g < N) (hj : ∀ j, ring.ownBlock = some j → j < N) : LG M g room ring R f B := by
  obtain ⟨q0, ⟨h0, q1⟩, q2, q3, q4⟩ := hl
  refine ⟨(hb.block g hg).trans q0, ⟨h0, ?_⟩, q2, Nat.le_trans q3 hb.size, q4⟩
  rcases q1 with ⟨rfl, h3⟩ | ⟨k, cap, cur, rfl, h4, h5, h6⟩
  · exact .inl ⟨rfl, h3⟩
  · exact .inr ⟨k, cap, cur, rfl, h4, (hb.block k (hj k rfl)).trans h5, h6⟩
theorem ringL_all (R : List (List Int)) {room f : Nat} (h1 : R.length ≤ room) (h2 : R.length < room → f = 0) (h3 : f < room) : (ringL R f).length = R.length := ringL_len (by
  by_cases h : R.length < room
  · rw [h2 h]; exact Nat.zero_le _
  · omega)
theorem two_back (n : Nat) : 256 * ((n : Int) / 256) + (n : Int) % 256 = n := by omega
/-- what stands between two rounds -/
def LDI (w : World) (M h g room : Nat) (L : List (List Int)) (k : Nat) (W : World) : Prop :=
  Below w.heap.size w W ∧ RD h (restB L L.length k) W ∧ ∃ ring R f, LG M g room ring R f W ∧ ringL R f = L.take k
set_option maxRecDepth 100000 in
set_option maxHeartbeats 2000000 in
theorem load_ok (v : Value) (room : Nat) (L : List (List Int)) (a0 a1 : Addr) (w : World) (hroom : 1 ≤ room ∧ room ≤ 1000) (hn : L.length ≤ room) (hL : ∀ Z ∈ L, RepWf Z ∧ RightL Z) (hr : Reads .u8 w v (logL room L)) (hF : FC a0 a1 w) :
    Calls Tryd.prog 58 #[v] w fun e w' => ∃ M g ring R f, e = .returned (.tuple #[.pointer (some ⟨g, 0, none⟩), .int .i64 0]) ∧ LG M g room ring R f w' ∧ ringL R f = L ∧ Below w.heap.size w w' ∧ w.heap.size ≤ g := by
  have H11 := hid (show ∀ Z ∈ L, Z.length = 11 from fun Z hZ => (hL Z hZ).1.1)
  have HL := hid hL
  have HRM := hid hroom
  have HNR := hid hn
  have HF := hid hF
  have HWF := hid (logB_wf (room := room) (L := L) H11.out hroom.2 (by omega))
  have HBL := hid (logB_len (room := room) H11.out)
  have HLEN := hid (show (logL room L).length = (logB room L).length + 2 from by unfold logL sealL; rw [List.length_append]; rfl)
  have HSEAL := hid (show logL room L = sealL ((logL room L).take (logB room L).length) from by unfold logL sealL; rw [List.take_left' rfl])
  have HTK := hid (show (logL room L).take (logB room L).length = logB room L from by unfold logL sealL; rw [List.take_left' rfl])
  have HO := hid (open_ok v (logL room L) (logB room L).length HLEN.out w hr hF.1 HSEAL.out (by have := HLEN.out; have := HBL.out; omega))
  rw [HTK.out] at HO
  clear hr hF hL hn hroom HLEN HSEAL HTK
  go_enter Tryd.func58, Tryd.ntmps58
  go_wp2_with fail
  refine HO.out.mono ?_
  rintro e w1 ⟨v1, rfl, hb1, hown⟩
  have hrd := reads_of_owns hown HWF.out
  obtain ⟨ia, ic, rfl⟩ := own_slice hown
  have hlt : ∀ b, ia = some b → b.block < w1.heap.size := fun b e => by subst e; exact (hown.lt _ rfl).2
  clear hown HO
  have hR2 : RD w1.heap.size (logB room L) (w1.alloc (.cells #[.slice ia (logB room L).length ic, .int .i64 0] 131)) :=
    ⟨ia, ic, heap_alloc_new w1 _, hrd.later ((Below.refl _ w1).alloc (Nat.le_refl _) _), hlt⟩
  have hb2 : Below w.heap.size w (w1.alloc (.cells #[.slice ia (logB room L).length ic, .int .i64 0] 131)) := chain hb1 ((Below.refl _ w1).alloc (Nat.le_refl _) _)
  obtain ⟨m, hm⟩ : ∃ m, m = (logB room L).length := ⟨_, rfl⟩
  have HMB := hid hm
  rw [← hm] at hR2 hb2 ⊢
  obtain ⟨h, hh⟩ : ∃ h, h = w1.heap.size := ⟨_, rfl⟩
  have hhw : w.heap.size ≤ h := by rw [hh]; exact hb1.size
  have HS1 := hid hh
  rw [← hh] at hR2
  clear hlt hrd hb1 hm hh
  have HR2 := hid hR2
  have HB2 := hid hb2
  clear hR2 hb2
  go_wp2_with fail
  rw [← HS1.out]
  generalize w1.alloc (.cells #[.slice ia m ic, .int .i64 0] 131) = w2 at *
  have HR2' := hid (show RD h ((room : Int) / 256 :: (room : Int) % 256 :: ((L.length : Int) / 256) :: ((L.length : Int) % 256) :: bodyN L L.length) w2 from HR2.out)
  have HBD := hid (show (bodyN L L.length).length ≤ 55000 by have := bodyN_len H11.out L.length; have := HRM.out; have := HNR.out; omega)
  refine (two_ok h _ _ _ w2 HR2'.out (by have := HBD.out; simp; omega)).mono ?_
  rintro e w3 ⟨rfl, hr3, ht3⟩
  rw [two_back]
  have HR3 := hid hr3
  have HB3 := hid (HB2.out.trans (ht3.below HB2.out.size hhw))
  clear hr3 ht3 HR2 HR2' HB2 HS1
  go_wp2_with fail
  have hg3 := heap_alloc_new w3 (.cells #[.int .i64 room, .slice none 0 0, .int .i64 0] 117)
  have hb3 := (Below.refl _ w3).alloc (Nat.le_refl _) (.cells #[.int .i64 room, .slice none 0 0, .int .i64 0] 117)
  obtain ⟨g, hg⟩ : ∃ g, g = w3.heap.size := ⟨_, rfl⟩
  have hhg : h < g := by rw [hg]; exact HR3.out.lt
  have hr4 := HR3.out.below hb3
  have hb4 := chain HB3.out hb3
  rw [← hg] at hg3 ⊢
  clear hg hb3 HR3 HB3
  generalize w3.alloc (.cells #[.int .i64 room, .slice none 0 0, .int .i64 0] 117) = w4 at *
  have hl4 : LG (g + 1) g room (.slice none 0 0) [] 0 w4 := ⟨hg3, World.ownsRow_nil _ _ _ _, by omega, lt_of_row hg3, (fun Z hZ => by cases hZ), HRM.out.1, HRM.out.2, Nat.zero_le _, (fun _ => rfl), by have := HRM.out.1; omega⟩
  refine (two_ok h _ _ _ w4 hr4 (by have := HBD.out; omega)).mono ?_
  rintro e w5 ⟨rfl, hr5, ht5⟩
  rw [two_back]
  have HI := hid (show LDI w (g + 1) h g room L 0 w5 from ⟨hb4.trans (ht5.below hb4.size hhw), hr5, _, _, _, hl4.turn ht5 (by omega) (by omega), rfl⟩)
  have HHG := hid (show w.heap.size ≤ h ∧ h < g from ⟨hhw, hhg⟩)
  obtain ⟨ce, -⟩ := hr5.ecell
  have cr : w5.cell? ⟨g, 0, none⟩ = some (.int .i64 room) := (cell_of_row w5 g 0 _ _ _ (ht5.row hg3 (by omega))).trans rfl
  obtain ⟨n, hn⟩ : ∃ n, n = L.length := ⟨_, rfl⟩
  have HN := hid hn
  rw [← hn]
  have hc1 : ¬ (room : Int) < 1 := by have := HRM.out.1; omega
  have hc2 : ¬ (1000 : Int) < room := by have := HRM.out.2; omega
  have hc3 : ¬ (room : Int) < n := by have := HNR.out; have := HN.out; omega
  clear hl4 hr4 hb4 hr5 ht5 hg3 hhg hhw hn
  go_wp2_with fail
  rename_i hq K5 HK5
  clear hq hc1 hc2 hc3
  generalize decide ((room : Int) < 1) = q1
  generalize decide ((1000 : Int) < room) = q2
  generalize decide (room < n) = q3
  go_loopw [9] (fun i wr => ∃ k : Nat, k ≤ n ∧ i = .int .i64 k ∧ LDI w (g + 1) h g room L k wr) (fun i _ => n - (intOf i).toNat)
  case atStart => exact ⟨0, by omega, rfl, HI.out⟩
  case round =>
    obtain ⟨k, hk, rfl, hli⟩ := hrel
    clear ce cr
    by_cases hlt : k < n
    · have hlt' : (k : Int) < n := by omega
      obtain ⟨i1, i2, ring, R, f, i3, i4⟩ := hli
      have hRl : R.length = k := by
        have e1 := ringL_all R i3.2.2.2.2.2.2.2.1 i3.2.2.2.2.2.2.2.2.1 i3.2.2.2.2.2.2.2.2.2
        have e2 := congrArg List.length i4
        rw [List.length_take] at e2
        have := HN.out
        omega
      have hkr : k < room := by have := HN.out; have := HNR.out; omega
      obtain rfl : f = 0 := i3.2.2.2.2.2.2.2.2.1 (by omega)
      rw [ringL_zero] at i4
      obtain rfl := i4
      have l1 : k < L.length := by have := HN.out; omega
      have HKL := hid l1
      have HKR := hid hkr
      rw [restB_cons L L.length k l1] at i2
      have z1 : L[k]? = some L[k] := List.getElem?_eq_getElem l1
      have HD := hid (show L.getD k zeroR = L[k] by rw [List.getD_eq_getElem?_getD, z1]; rfl)
      have HTS := hid (show L.take (k + 1) = L.take k ++ [L[k]] from List.take_succ_eq_append_getElem l1)
      have HZ := hid (HL.out L[k] (List.getElem_mem l1))
      have HRB := hid (show (restB L L.length (k + 1)).length ≤ 55000 by have := restB_len H11.out L.length (k + 1); have := HRM.out; have := HNR.out; omega)
      clear z1
      generalize L[k] = Z at *
      have HZL := hid HZ.out.1.1
      have I1 := hid i1
      have I2 := hid i2
      have I3 := hid i3
      have IRB := hid (show ∀ j, ring.ownBlock = some j → g + 1 ≤ j ∧ j < wr.heap.size from i3.block)
      have IG := hid (show g < wr.heap.size from lt_of_row i3.1)
      clear i1 i2 i3 l1 hRl
      rcases k with _ | k
      · have HCH := hid (show chunkL L 0 = frameL Z by unfold chunkL; rw [if_pos rfl, HD.out])
        rw [HCH.out] at I2
        obtain ⟨ce, -⟩ := I2.out.ecell
        go_wp2_with (first | ((with_reducible refine at_op (.alloc 50) ?_); refine wpR_alloc rfl rfl ?_; intro g6 w6 hg6 hR6 hb6; have hl6 : wr.heap.size ≤ g6 := Nat.le_of_eq hg6.symm; clear hg6) | ((with_reducible refine at_op (.store 50 (.tmp 10) (.tmp 68)) ?_); refine wpR_put rfl (.tmp 10) (.tmp 68) rfl g6 wr.heap.size zeroR zeroR rfl rfl rfl rfl hR6 hl6 ?_; intro w7 hR7 hb7))
        have hb67 := hb6.trans hb7
        clear ce
        have J1 := hid (chain I1.out hb67)
        have J2 := hid (I2.out.below hb67)
        have J3 := hid (I3.out.below hb67)
        have J6 := hid (show RB g6 zeroR w7 from hR7)
        have JG := hid (show wr.heap.size ≤ g6 from hl6)
        clear hb6 hb7 hb67 hR7 hR6 hl6 I1 I2 I3
        refine (first_ok h Z _ a0 a1 w7 HZ.out.1 HZ.out.2 J2.out (by have := HRB.out; omega) (HF.out.later J1.out) (fun W hW => HF.out.later (J1.out.trans (hW.below J1.out.size HHG.out.1)))).mono ?_
        rintro e w8 ⟨rfl, hr8, ht8⟩
        have hne : g6 ≠ h := by have := JG.out; have := IG.out; have := HHG.out; omega
        have hR8 : RB g6 zeroR w8 := ht8.row J6.out hne
        have K1 := hid (J1.out.trans (ht8.below J1.out.size HHG.out.1))
        have K2 := hid hr8
        have K3 := hid (J3.out.turn ht8 (by have := HHG.out; omega) (by have := HHG.out; omega))
        clear J1 J2 J3 J6 ht8 hr8
        go_wp2_with (first | (((with_reducible refine at_op (.store 50 (.tmp 10) (.tmp 72)) ?_); refine wpR_put rfl (.tmp 10) (.tmp 72) rfl g6 g6 Z zeroR HZL.out rfl rfl rfl hR8 (Nat.le_refl _) ?_; intro w9 hR9 hb9); (have N1 := hid (K1.out.trans (hb9.mono (by have := JG.out; have := IG.out; have := HHG.out; omega)))); (have N2 := hid (K2.out.belowN hb9 (by have := JG.out; have := IG.out; have := HHG.out; omega))); (have N3 := hid (K3.out.belowN hb9 (by have := JG.out; have := IG.out; omega) (fun j e => by have := IRB.out j e; have := JG.out; omega))); (have N6 := hid hR9); (obtain ⟨ce9, -⟩ := N2.out.ecell); (clear hb9 hR9 hR8 K1 K2 K3)) | ((with_reducible refine at_op (.load 50 (.tmp 10)) ?_); refine wpR_get rfl (.tmp 10) rfl g6 rfl Z HZL.out N6.out ?_))
        refine (ladd_right Z a0 a1 w9 N3.out HZ.out.1 HZ.out.2 (HF.out.one.later N1.out)).mono ?_
        rintro e w10 ⟨rfl, ring', R', f', hl', hr', hk', ho'⟩
        have O1 := hid (N1.out.trans (hk'.below N1.out.size (by have := HHG.out; omega) (fun j e => by have := IRB.out j e; have := HHG.out; omega)))
        have O2 := hid (N2.out.kept hk' HHG.out.2 (fun j e => by have := IRB.out j e; have := HHG.out; omega))
        have O3 := hid hl'
        have O4 := hid (show ringL R' f' = L.take (0 + 1) by rw [hr', ringL_zero, addL_more (by rw [List.length_take]; have := HKL.out; have := HKR.out; omega), HTS.out])
        obtain ⟨ce10, fe10⟩ := O2.out.ecell
        clear hl' hr' hk' ho' ce9 N1 N2 N3 N6
        go_wp2_with fail
        have FIN := hid (show LDI w (g + 1) h g room L (0 + 1) (w10.setCell ⟨h, 1, none⟩ (.int .i64 0)) from
          ⟨O1.out.setCell (p := ⟨h, 1, none⟩) HHG.out.1 _, O2.out.setE, ring', R', f', O3.out.turn ((Turn.refl h w10).set 1 _) (by have := HHG.out; omega) (by have := HHG.out; omega), O4.out⟩)
        clear ce10 fe10
        go_roundw
        case rel => exact ⟨0 + 1, by omega, by go_num, FIN.out⟩
        case measure => simp [intOf]; omega
      · have hk1 : k < L.length := by have := HKL.out; omega
        have z2 : L[k]? = some L[k] := List.getElem?_eq_getElem hk1
        have HX := hid (HL.out L[k] (List.getElem_mem hk1))
        have HD2 := hid (show L.getD (k + 1 - 1) zeroR = L[k] by rw [Nat.add_sub_cancel, List.getD_eq_getElem?_getD, z2]; rfl)
        have zt : (L.take (k + 1))[k]? = some L[k] := by rw [List.getElem?_take, if_pos (by omega), z2]
        have h11t : ∀ Y ∈ L.take (k + 1), Y.length = 11 := fun Y hY => H11.out Y (List.mem_of_mem_take hY)
        have hlt2 : (L.take (k + 1)).length = k + 1 := by rw [List.length_take]; omega
        clear z2
        generalize L[k] = X at *
        have HXL := hid HX.out.1.1
        have HCH := hid (show chunkL L (k + 1) = deltaN Z X 11 by unfold chunkL; rw [if_neg (by omega), HD.out, HD2.out])
        rw [HCH.out] at I2
        obtain ⟨ra, rc, hrv, hra, hrc⟩ := rrow_at (rrow_of_rows I3.out.2.1 h11t) h11t
        rw [hlt2] at hrv hra hrc
        obtain ⟨b0, off, rfl⟩ := hra (by omega)
        subst hrv
        have CA := hid (fun W (hW : Below wr.heap.size wr W) => rrow_cells (rrow_of_rows (I3.out.below hW).2.1 h11t) zt)
        have c1 : wr.cell? ⟨g, 1, none⟩ = some (.slice (some ⟨b0, off, none⟩) (k + 1) rc) := (cell_of_row wr g 1 _ _ _ I3.out.1).trans rfl
        have C1 := hid (fun W (hW : Below wr.heap.size wr W) => (hW.cell (p := ⟨g, 1, none⟩) IG.out).trans c1)
        obtain ⟨ce, -⟩ := I2.out.ecell
        obtain ⟨kp, hkp⟩ : ∃ kp, kp = k + 1 := ⟨_, rfl⟩
        have HKP := hid hkp
        have hkc : (k : Int) < rc := by omega
        rw [← hkp] at hlt hlt' hk hkr HKL HKR HRB HTS HCH I2 I3 IRB C1 ⊢
        have hkm : (kp : Int) - 1 = k := by omega
        have hkp0 : ¬ (kp : Int) = 0 := by omega
        have hk9 : (k : Int) < n := by omega
        have hk1000 : (k : Int) ≤ 1000 := by have := HRM.out; have := HNR.out; have := HN.out; omega
        have IK := hid (show IntKind.i64.wrap (k : Int) = k from IntWalk.i64_in _ (by have := HRM.out; have := HNR.out; have := HN.out; omega))
        clear hkp c1 hrc zt h11t hlt2 hk1 hra
        go_wp2_with (first | ((with_reducible refine at_op (.alloc 50) ?_); refine wpR_alloc rfl rfl ?_; intro g6 w6 hg6 hR6 hb6; have hl6 : wr.heap.size ≤ g6 := Nat.le_of_eq hg6.symm; clear hg6) | (((with_reducible refine at_op (.store 50 (.tmp 10) (.tmp 68)) ?_); refine wpR_put rfl (.tmp 10) (.tmp 68) rfl g6 wr.heap.size zeroR zeroR rfl rfl rfl rfl hR6 hl6 ?_; intro w7 hR7 hb7); (have k7 := C1.out _ (hb6.trans hb7))) | ((with_reducible refine at_op (.load 50 (.tmp 80)) ?_); refine wpR_load_part rfl (.tmp 80) rfl ⟨b0, off + k * 11, none⟩ rfl X HXL.out ?_ ?_; (intro i x hj; rw [add_plain]; exact CA.out _ (hb6.trans hb7) i x hj _ (by omega))))
        have hb67 := hb6.trans hb7
        clear ce
        have J1 := hid (chain I1.out hb67)
        have J2 := hid (I2.out.below hb67)
        have J3 := hid (I3.out.below hb67)
        have J6 := hid (show RB g6 zeroR w7 from hR7)
        have JG := hid (show wr.heap.size ≤ g6 from hl6)
        clear hb6 hb7 hb67 hR7 hR6 hl6 I1 I2 I3
        refine (next_ok h X Z _ w7 HX.out.1 HX.out.2 HZ.out.1 HZ.out.2 J2.out (by have := HRB.out; omega)).mono ?_
        rintro e w8 ⟨rfl, hr8, ht8⟩
        have hne : g6 ≠ h := by have := JG.out; have := IG.out; have := HHG.out; omega
        have hR8 : RB g6 zeroR w8 := ht8.row J6.out hne
        have K1 := hid (J1.out.trans (ht8.below J1.out.size HHG.out.1))
        have K2 := hid hr8
        have K3 := hid (J3.out.turn ht8 (by have := HHG.out; omega) (by have := HHG.out; omega))
        clear k7 J1 J2 J3 J6 ht8 hr8
        go_wp2_with (first | (((with_reducible refine at_op (.store 50 (.tmp 10) (.tmp 82)) ?_); refine wpR_put rfl (.tmp 10) (.tmp 82) rfl g6 g6 Z zeroR HZL.out rfl rfl rfl hR8 (Nat.le_refl _) ?_; intro w9 hR9 hb9); (have N1 := hid (K1.out.trans (hb9.mono (by have := JG.out; have := IG.out; have := HHG.out; omega)))); (have N2 := hid (K2.out.belowN hb9 (by have := JG.out; have := IG.out; have := HHG.out; omega))); (have N3 := hid (K3.out.belowN hb9 (by have := JG.out; have := IG.out; omega) (fun j e => by have := IRB.out j e; have := JG.out; omega))); (have N6 := hid hR9); (obtain ⟨ce9, -⟩ := N2.out.ecell); (clear hb9 hR9 hR8 K1 K2 K3)) | ((with_reducible refine at_op (.load 50 (.tmp 10)) ?_); refine wpR_get rfl (.tmp 10) rfl g6 rfl Z HZL.out N6.out ?_))
        refine (ladd_right Z a0 a1 w9 N3.out HZ.out.1 HZ.out.2 (HF.out.one.later N1.out)).mono ?_
        rintro e w10 ⟨rfl, ring', R', f', hl', hr', hk', ho'⟩
        have O1 := hid (N1.out.trans (hk'.below N1.out.size (by have := HHG.out; omega) (fun j e => by have := IRB.out j e; have := HHG.out; omega)))
        have O2 := hid (N2.out.kept hk' HHG.out.2 (fun j e => by have := IRB.out j e; have := HHG.out; omega))
        have O3 := hid hl'
        have O4 := hid (show ringL R' f' = L.take (kp + 1) by rw [hr', ringL_zero, addL_more (by rw [List.length_take]; have := HKL.out; have := HKR.out; omega), HTS.out])
        obtain ⟨ce10, fe10⟩ := O2.out.ecell
        clear hl' hr' hk' ho' ce9 N1 N2 N3 N6
        go_wp2_with fail
        have FIN := hid (show LDI w (g + 1) h g room L (kp + 1) (w10.setCell ⟨h, 1, none⟩ (.int .i64 0)) from
          ⟨O1.out.setCell (p := ⟨h, 1, none⟩) HHG.out.1 _, O2.out.setE, ring', R', f', O3.out.turn ((Turn.refl h w10).set 1 _) (by have := HHG.out; omega) (by have := HHG.out; omega), O4.out⟩)
        clear ce10 fe10
        go_roundw
        case rel => exact ⟨kp + 1, by omega, by go_num, FIN.out⟩
        case measure => simp [intOf]; omega
    · have hkn : k = n := by omega
      subst hkn
      obtain ⟨i1, i2, ring, R, f, i3, i4⟩ := hli
      rw [show restB L L.length k = [] from by rw [HN.out]; exact restB_end L L.length] at i2
      rw [show L.take k = L from by rw [HN.out]; exact List.take_length] at i4
      obtain ⟨ce, -⟩ := i2.ecell
      obtain ⟨xa, xc, hx, -, -⟩ := id i2
      have cb : wr.cell? ⟨h, 0, none⟩ = some (.slice xa 0 xc) := (cell_of_row wr h 0 _ _ _ hx).trans rfl
      have FIN := hid (show LG (g + 1) g room ring R f wr ∧ ringL R f = L ∧ Below w.heap.size w wr ∧ w.heap.size ≤ g from ⟨i3, i4, i1, by have := HHG.out; omega⟩)
      have hkk : ¬ (k : Int) < k := by omega
      clear i1 i2 i3 i4 hx hlt hk
      go_wp2_with fail
      go_ret2
      first | exact ⟨g + 1, g, rfl, ring, R, f, FIN.out⟩ | exact ⟨g + 1, g, ring, R, f, rfl, FIN.out⟩
set_option maxRecDepth 100000 in
set_option maxHeartbeats 2000000 in
theorem load_bad (v : Value) (l : List Int) (m : Nat) (w : World) (hm : l.length = m + 2) (hr : Reads .u8 w v l) (h4 : Four w) (hne : l ≠ sealL (l.take m)) :
    Calls Tryd.prog 58 #[v] w fun e w' => e = .returned (.tuple #[.pointer none, .int .i64 7]) ∧ Below w.heap.size w w' := by
  have HO := hid (open_bad v l m hm w hr h4 hne)
  clear hr h4 hne hm
  go_enter Tryd.func58, Tryd.ntmps58
  go_wp2_with fail
  refine HO.out.mono ?_
  rintro e w1 ⟨rfl, hb1⟩
  have hR2 := heap_alloc_new w1 (.cells #[.slice none 0 0, .int .i64 7] 131)
  have hb2 := chain hb1 ((Below.refl _ w1).alloc (Nat.le_refl _) (.cells #[.slice none 0 0, .int .i64 7] 131))
  obtain ⟨h, hh⟩ : ∃ h, h = w1.heap.size := ⟨_, rfl⟩
  have HH := hid hh
  rw [← hh] at hR2
  have HR2 := hid hR2
  have HB2 := hid hb2
  clear hb1 hR2 hb2 hh HO
  go_wp2_with fail
  rw [← HH.out]
  clear HH
  generalize w1.alloc (.cells #[.slice none 0 0, .int .i64 7] 131) = w2 at *
  refine (two_bad h _ 7 w2 (by decide) HR2.out).mono ?_
  rintro e w3 ⟨rfl, hb3⟩
  have HB3 := hid (chain HB2.out hb3)
  have HR3 := hid ((hb3.block h (lt_of_row HR2.out)).trans HR2.out)
  clear hb3 HB2 HR2
  go_wp2_with fail
  have hb4 := chain HB3.out ((Below.refl _ w3).alloc (Nat.le_refl _) (.cells #[.int .i64 0, .slice none 0 0, .int .i64 0] 117))
  have hb34 := (Below.refl _ w3).alloc (Nat.le_refl _) (.cells #[.int .i64 0, .slice none 0 0, .int .i64 0] 117)
  have HR4 := hid ((hb34.block h (lt_of_row HR3.out)).trans HR3.out)
  have HB4 := hid hb4
  clear hb4 hb34 HB3 HR3
  generalize w3.alloc (.cells #[.int .i64 0, .slice none 0 0, .int .i64 0] 117) = w4 at *
  refine (two_bad h _ 7 w4 (by decide) HR4.out).mono ?_
  rintro e w5 ⟨rfl, hb5⟩
  have HB5 := hid (chain HB4.out hb5)
  have ce : w5.cell? ⟨h, 1, none⟩ = some (.int .i64 7) := (cell_of_row w5 h 1 _ _ _ ((hb5.block h (lt_of_row HR4.out)).trans HR4.out)).trans rfl
  have hlt : h < w5.heap.size := Nat.lt_of_lt_of_le (lt_of_row HR4.out) hb5.size
  clear hb5 HB4 HR4
  go_wp2_with fail
  go_loopw [9] (fun i wr => i = .int .i64 0 ∧ wr = w5) (fun i _ => 0)
  case atStart => exact ⟨rfl, rfl⟩
  case round =>
    obtain ⟨rfl, rfl⟩ := hrel
    go_wp2_with fail
    refine wp_region_F' (B := wr.heap.size) (n := 6) (l := #[false, false, false, false, false, false]) (by kernel_rfl) (by kernel_rfl) (by kernel_rfl) ?_
    refine wpAnyF_take (i := 0) (v := ?vp_0_1) (some 115) rfl rfl (by kernel_rfl) (by kernel_rfl) (by kernel_rfl) (fun _ _ _ h => h) (by rfl) ?hvp_0_1 ?restp_0_1
    case hvp_0_1 => (intro w' hb; go_simp; try with_reducible rfl)
    simp only [Act.put, List.setIfInBounds_toArray, List.set_cons_zero, List.set_cons_succ]
    refine wpAnyF_take (i := 1) (v := ?vp_1_2) (some 116) rfl rfl (by kernel_rfl) (by kernel_rfl) (by kernel_rfl) (fun _ _ _ h => h) (by rfl) ?hvp_1_2 ?restp_1_2
    case hvp_1_2 => (intro w' hb; go_simp; try with_reducible rfl)
    simp only [Act.put, List.setIfInBounds_toArray, List.set_cons_zero, List.set_cons_succ]
    refine wpAnyF_take (i := 2) (v := ?vp_2_3) (some 117) rfl rfl (by kernel_rfl) (by kernel_rfl) (by kernel_rfl) (fun _ _ _ h => h) (by rfl) ?hvp_2_3 ?restp_2_3
    case hvp_2_3 => (intro w' hb; go_simp; try with_reducible rfl)
    simp only [Act.put, List.setIfInBounds_toArray, List.set_cons_zero, List.set_cons_succ]
    refine wpAnyF_take (i := 3) (v := ?vp_3_4) (some 118) rfl rfl (by kernel_rfl) (by kernel_rfl) (by kernel_rfl) (fun _ _ _ h => h) (by rfl) ?hvp_3_4 ?restp_3_4
    case hvp_3_4 => (intro w' hb; (have hcw := (hb.cell (p := ⟨h, 1, none⟩) hlt).trans ce; go_simp; try with_reducible rfl))
    simp only [Act.put, List.setIfInBounds_toArray, List.set_cons_zero, List.set_cons_succ]
    refine wpAnyF_take (i := 4) (v := ?vp_4_5) (some 2) rfl rfl (by kernel_rfl) (by kernel_rfl) (by kernel_rfl) (fun _ _ _ h => h) (by rfl) ?hvp_4_5 ?restp_4_5
    case hvp_4_5 => (intro w' hb; go_simp; try with_reducible rfl)
    simp only [Act.put, List.setIfInBounds_toArray, List.set_cons_zero, List.set_cons_succ]
    refine wpAnyF_take (i := 5) (v := ?vp_5_6) (some 3) rfl rfl (by kernel_rfl) (by kernel_rfl) (by kernel_rfl) (fun _ _ _ h => h) (by rfl) ?hvp_5_6 ?restp_5_6
    case hvp_5_6 => (intro w' hb; go_simp; try with_reducible rfl)
    simp only [Act.put, List.setIfInBounds_toArray, List.set_cons_zero, List.set_cons_succ]
    refine wpAnyF_done (by kernel_rfl) ?_ _
    go_wp2
    go_ret2
    exact ⟨rfl, HB5.out.drew⟩
end Go.Proofs.YtecbfegohdllbaaDoor
