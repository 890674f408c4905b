/- The walk of LogBack: what is kept is loaded; with a burst of bits turned it is not. -/
import Derived.Test.YtecbfegohdllbaaDoorLog26
import Derived.Test.YtecbfegohdllbaaDoorLog20
import Derived.Test.YtecbfegohdllbaaDoorPackG
namespace Go.Proofs.YtecbfegohdllbaaDoor
open Go.RowKit
set_option linter.unusedVariables false
set_option linter.unusedSimpArgs false
theorem flip_bad {M l : List Int} {y : BitVec 16} {N : Nat} (Y : List Int) (n : Nat) (hM : M = sealL Y) (hF : FlipOK M l y N) (hy : y ≠ 0#16) : l ≠ sealL (l.take n) := fun h => by
  have h1 := hF.2.2.1
  have h2 : crcOf l = 0#16 := by rw [h]; exact crc_seal _
  have h3 : crcOf M = 0#16 := by rw [hM]; exact crc_seal _
  rw [h2, h3, BitVec.zero_xor] at h1
  exact it_ne N y hy h1.symm
theorem flip_ne {y : BitVec 16} {k : Nat} (hk : k < 16) (hlow : ∀ j, j < 16 - k → y.getLsbD j = false) : y ^^^ BitVec.ofNat 16 (32768 >>> k) ≠ 0#16 := fun e0 => by
  have hyt : (y ^^^ BitVec.ofNat 16 (32768 >>> k)).getLsbD (15 - k) = true := by
    rw [BitVec.getLsbD_xor, hlow (15 - k) (by omega), win_top ⟨k, hk⟩]; rfl
  rw [e0] at hyt
  simp at hyt
theorem lastL_len (n : Nat) (X : List (List Int)) : (X.length ≤ n → (lastL n X).length = X.length) ∧ (n < X.length → (lastL n X).length = n) := by
  unfold lastL
  rw [List.length_drop]
  omega
/-- what stands between two rounds of adding -/
def BI (w : World) (M g room : Nat) (X : List (List Int)) (W : World) : Prop :=
  ∃ ring R f, Below w.heap.size w W ∧ LG M g room ring R f W ∧ ringL R f = lastL room X ∧ (∀ Z ∈ X, RepWf Z ∧ RightL Z) ∧ w.heap.size ≤ g ∧ w.heap.size ≤ M
theorem BI.below {w A B : World} {M g room : Nat} {X : List (List Int)} (h : BI w M g room X A) (hb : Below A.heap.size A B) : BI w M g room X B := by
  obtain ⟨ring, R, f, h1, h2, h3⟩ := h
  exact ⟨ring, R, f, chain h1 hb, h2.below hb, h3⟩
set_option maxRecDepth 100000 in
set_option maxHeartbeats 4000000 in
theorem LogBack_walk (room : Int) (v : Value) (l : List (List Int)) (T : Int) (X0 : Int) (w : World) (hroom : (Lit.int .i64 room).wf = true) (hM : RRow w v l ∧ ∀ Z ∈ l, RepWf Z) (hT : (Lit.int .i64 T).wf = true) (hX : (Lit.int .u16 X0).wf = true) (h4 : Four w) (a0 a1 : Addr) (hE : ErrsAt w a0 a1) : Calls Tryd.prog 19 #[.int .i64 room, v, .int .i64 T, .int .u16 X0] w fun e w' => e = .returned (.bool true) ∧ Below w.heap.size w w' := by
  have F0 := hid (show FC a0 a1 w from ⟨h4, hE⟩)
  have HM := hid (fun W (hW : Below w.heap.size w W) => rrow_later hM.1 hW)
  have HWF := hid hM.2
  obtain ⟨a, c, rfl, a1', hc⟩ := rrow_at hM.1 (fun Z hZ => (hM.2 Z hZ).1)
  obtain ⟨N, hN⟩ : ∃ N, N = l.length := ⟨_, rfl⟩
  have HN := hid hN
  rw [← hN] at a1' hc HM ⊢
  obtain ⟨rb1, rb2⟩ := bd_i64 hroom
  have BT := hid (bd_i64 hT)
  have BX := hid (bd_u16 hX)
  clear hM h4 hE hN hroom hT hX
  by_cases hgd : N ≤ 40 ∧ 1 ≤ room ∧ room ≤ 40
  · obtain ⟨h40, hr1, hr2⟩ := hgd
    have h40' : (N : Int) ≤ 40 := by omega
    obtain ⟨rm, rfl⟩ : ∃ rm : Nat, room = rm := ⟨room.toNat, by omega⟩
    go_enter Tryd.func19, Tryd.ntmps19
    go_wp2_with fail
    refine (lnew_any (rm : Int) w ⟨by omega, by omega⟩).mono ?_
    rintro e w1 ⟨rfl, hl1, hb1⟩
    rw [show ((rm : Int)).toNat = rm from Int.toNat_natCast rm] at hl1
    have TS0 := hid (show BI w w1.heap.size w.heap.size rm (rightsL (l.take 0)) w1 from ⟨_, _, _, hb1, hl1, by simp [ringL, lastL, rightsL], (fun Z hZ => by cases hZ), Nat.le_refl _, hb1.size⟩)
    have HRM := hid (show 1 ≤ rm ∧ rm ≤ 40 by omega)
    obtain ⟨g, hg⟩ : ∃ g, g = w.heap.size := ⟨_, rfl⟩
    rw [← hg] at TS0
    rw [← hg]
    clear hl1 hb1 hg
    generalize w1.heap.size = M at *
    go_wp2_with fail
    go_loopw [11, 12] (fun n i wr => ∃ k c : Nat, k ≤ N ∧ c ≤ k ∧ n = .int .i64 c ∧ i = .int .i64 k ∧ (rightsL (l.take k)).length = c ∧ BI w M g rm (rightsL (l.take k)) wr) (fun _ i _ => N - (intOf i).toNat)
    case atStart => exact ⟨0, 0, by omega, by omega, rfl, rfl, rfl, TS0.out⟩
    case round =>
      obtain ⟨k, c1, hk, hck, rfl, rfl, hxc, hbi⟩ := hrel
      have HXC := hid hxc
      have HBI := hid hbi
      have HB := hid (show Below w.heap.size w wr from by obtain ⟨_, _, _, h, -⟩ := hbi; exact h)
      clear hbi hxc
      by_cases hlt : k < N
      · have hlt' : (k : Int) < N := by omega
        obtain ⟨b, off, rfl⟩ := a1' (by omega)
        have l1 : k < l.length := by have := HN.out; omega
        have z1 : l[k]? = some l[k] := List.getElem?_eq_getElem l1
        have HTK := hid (show l.take (k + 1) = l.take k ++ [l[k]] from List.take_succ_eq_append_getElem l1)
        have HZW := hid (HWF.out _ (List.getElem_mem l1))
        generalize l[k] = Z at *
        have HZL := hid HZW.out.1
        have CA := hid (fun W (hW : Below w.heap.size w W) => rrow_cells (HM.out W hW) z1)
        clear z1 l1
        obtain ⟨ring, R, f, i2, i3, i5, i6, i7, i8⟩ := HBI.out
        have J2 := hid i3
        have J5 := hid i5
        have J6 := hid i6
        have J7 := hid (show w.heap.size ≤ g ∧ w.heap.size ≤ M from ⟨i7, i8⟩)
        clear i2 i3 i5 i6 i7 i8
        go_wp2_with ((with_reducible refine at_op (.load 50 (.tmp 49)) ?_); refine wpR_load_part rfl (.tmp 49) rfl ⟨b, off + k * 11, none⟩ rfl Z HZL.out ?_ ?_; (intro i x hj; rw [add_plain]; exact CA.out _ HB.out i x hj _ (by omega)))
        by_cases hR : RightL Z
        · have HR := hid hR
          have HX1 := hid (show rightsL (l.take (k + 1)) = rightsL (l.take k) ++ [Z] by rw [HTK.out]; exact (rightsL_snoc _ _).1 hR)
          clear hR
          refine (ladd_right Z a0 a1 wr J2.out HZW.out HR.out (F0.out.later HB.out).one).mono ?_
          rintro e w5 ⟨rfl, ring5, R5, f5, hl5, hr5, hk5, -⟩
          have FIN := hid (show BI w M g rm (rightsL (l.take (k + 1))) w5 from by
            refine ⟨ring5, R5, f5, HB.out.trans (hk5.below HB.out.size J7.out.1 (fun j e => by have := (J2.out.block j e).1; have := J7.out.2; omega)), hl5, ?_, ?_, J7.out.1, J7.out.2⟩
            · rw [hr5, J5.out, HX1.out, lastL_add HRM.out.1]
            · rw [HX1.out]
              intro Y hY
              rcases List.mem_append.1 hY with h | h
              · exact J6.out Y h
              · rw [List.mem_singleton.1 h]; exact ⟨HZW.out, HR.out⟩)
          have HC1 := hid (show (rightsL (l.take (k + 1))).length = c1 + 1 by rw [HX1.out, List.length_append, HXC.out]; rfl)
          clear hl5 hr5 hk5
          go_wp2_with fail
          go_roundw
          case rel => exact ⟨k + 1, c1 + 1, by omega, by omega, by go_num, by go_num, HC1.out, FIN.out⟩
          case measure => simp [intOf]; omega
        · have HR := hid hR
          have HX1 := hid (show rightsL (l.take (k + 1)) = rightsL (l.take k) by rw [HTK.out]; exact (rightsL_snoc _ _).2 hR)
          clear hR
          refine (ladd_wrong Z a0 a1 wr J2.out HZW.out HR.out (F0.out.later HB.out).one).mono ?_
          rintro e w5 ⟨rfl, hb5⟩
          have FIN := hid (show BI w M g rm (rightsL (l.take (k + 1))) w5 from by rw [HX1.out]; exact HBI.out.below hb5)
          have HC1 := hid (show (rightsL (l.take (k + 1))).length = c1 by rw [HX1.out, HXC.out])
          clear hb5
          go_wp2_with fail
          go_roundw
          case rel => exact ⟨k + 1, c1, by omega, by omega, by go_num, by go_num, HC1.out, FIN.out⟩
          case measure => simp [intOf]; omega
      · have hkN : k = N := by omega
        subst hkN
        have hall : l.take k = l := List.take_of_length_le (by have := HN.out; omega)
        rw [hall] at HBI HXC
        clear hall
        obtain ⟨ring, R, f, i2, i3, i5, i6, i7, i8⟩ := HBI.out
        generalize rightsL l = X at *
        obtain ⟨L, hL⟩ : ∃ L, L = lastL rm X := ⟨_, rfl⟩
        have HLL := hid (show (c1 ≤ rm → L.length = c1) ∧ (rm < c1 → L.length = rm) by rw [hL, ← HXC.out]; exact lastL_len rm X)
        have HLW := hid (show ∀ Z ∈ L, RepWf Z ∧ RightL Z from fun Z hZ => i6 Z (by rw [hL] at hZ; exact List.mem_of_mem_drop hZ))
        have HL11 := hid (show ∀ Z ∈ L, Z.length = 11 from fun Z hZ => (HLW.out Z hZ).1.1)
        rw [← hL] at i5
        have HLR := hid (show L.length ≤ rm by have := HLL.out; omega)
        have HLG := hid i3
        have HRL := hid i5
        have HLB := hid (lbytes_any a0 a1 wr i3 (F0.out.later HB.out).one)
        rw [i5] at HLB
        clear i2 i3 i5 i6 i7 i8 hL HBI HXC
        go_wp2_with fail
        refine HLB.out.mono ?_
        rintro e w2 ⟨v1, rfl, hb2, hown2⟩
        clear HLB
        have HWF0 := hid (logB_wf (room := rm) (L := L) HL11.out (by have := HRM.out; omega) (by have := HRM.out; have := HLR.out; omega))
        have HWF2 := hid (show ∀ x ∈ logL rm L, (Lit.int .u8 x).wf = true from sealL_wf HWF0.out)
        have HSE := hid (show logL rm L = sealL (logB rm L) from rfl)
        obtain ⟨n, hn⟩ : ∃ n, n = (logL rm L).length := ⟨_, rfl⟩
        have HN0 := hid hn
        have HN2 := hid (show n = (logB rm L).length + 2 by rw [hn]; unfold logL sealL; rw [List.length_append]; rfl)
        have HNB := hid (show 2 ≤ n ∧ n ≤ 4000 by have := HN2.out; have := logB_len (room := rm) HL11.out; have := HLR.out; have := HRM.out; omega)
        rw [← hn] at hown2
        have hB2 := chain HB.out hb2
        obtain ⟨BS, hBS⟩ : ∃ BS, BS = wr.heap.size := ⟨_, rfl⟩
        rw [← hBS] at hown2
        have hws : w.heap.size ≤ BS := by rw [hBS]; exact HB.out.size
        obtain ⟨gb, cap, hgb, rfl, hcap⟩ : ∃ gb cap, w.heap.size ≤ gb ∧ v1 = .slice (some ⟨gb, 0, none⟩) n cap ∧ n ≤ cap := by
          obtain ⟨_, h⟩ := id hown2
          rcases h with ⟨_, h⟩ | ⟨g, cap, cur, h1, h2, h3, h4, _⟩
          · have := HNB.out; omega
          · exact ⟨g, cap, by omega, h1, h4⟩
        have HOWN2 := hid hown2
        have HB2 := hid hB2
        have HLG2 := hid (HLG.out.below hb2)
        clear hb2 hown2 hB2 HLG hn hws hBS
        go_wp2_with fail
        refine (load_ok _ rm L a0 a1 w2 (by have := HRM.out; omega) HLR.out HLW.out (reads_of_owns HOWN2.out HWF2.out) (F0.out.later HB2.out)).mono ?_
        rintro e w3 ⟨M2, g2, ring2, R2, f2, rfl, hl3, hr3, hb3, -⟩
        have HLG3 := hid (HLG2.out.below hb3)
        have HB3 := hid (chain HB2.out hb3)
        have HOWN3 := hid (ownsRow_below HOWN2.out hb3)
        have HL3 := hid hl3
        have HR3 := hid hr3
        clear hl3 hr3 hb3 HLG2 HOWN2
        go_wp2_with fail
        refine (lall_any w3 HL3.out).mono ?_
        rintro e w4 ⟨u1, rfl, hb4, hrow1⟩
        rw [HR3.out] at hrow1
        have HLG4 := hid (HLG3.out.below hb4)
        have HB4 := hid (chain HB3.out hb4)
        have HOWN4 := hid (ownsRow_below HOWN3.out hb4)
        have HR1 := hid (rrow_of_rows hrow1 HL11.out)
        clear hrow1 hb4 HLG3 HOWN3 HL3 HR3
        go_wp2_with fail
        refine (lall_any w4 HLG4.out).mono ?_
        rintro e w5 ⟨u2, rfl, hb5, hrow2⟩
        rw [HRL.out] at hrow2
        have HLG5 := hid (HLG4.out.below hb5)
        have HB5 := hid (chain HB4.out hb5)
        have HOWN5 := hid (ownsRow_below HOWN4.out hb5)
        have HR2 := hid (rrow_of_rows hrow2 HL11.out)
        have HR1' := hid (rrow_later HR1.out hb5)
        clear hrow2 hb5 HLG4 HOWN4 HR1
        go_wp2_with fail
        refine (rsame_any u1 u2 L L w5 HR1'.out HR2.out HL11.out HL11.out rfl (by have := HLR.out; have := HRM.out; omega)).mono ?_
        rintro e w6 ⟨rfl, hb6⟩
        rw [show decide (L = L) = true from decide_eq_true rfl]
        have HLG6 := hid (HLG5.out.below hb6)
        have HB6 := hid (chain HB5.out hb6)
        have HOWN6 := hid (ownsRow_below HOWN5.out hb6)
        clear hb6 HLG5 HOWN5 HR1' HR2
        go_wp2_with fail
        refine (lall_any w6 HLG6.out).mono ?_
        rintro e w7 ⟨u3, rfl, hb7, hrow3⟩
        rw [HRL.out] at hrow3
        have HB7 := hid (chain HB6.out hb7)
        have HOWN7 := hid (ownsRow_below HOWN6.out hb7)
        obtain ⟨xa, xc, rfl⟩ := own_slice hrow3
        have HC40 := hid (show c1 ≤ 40 by omega)
        clear hrow3 hb7 HLG6 HOWN6 hk hck hlt
        by_cases hcr : c1 ≤ rm
        · have hcr' : (c1 : Int) ≤ rm := by omega
          rw [HLL.out.1 hcr]
          go_wp2_with fail
          clear hcr hcr'
          obtain ⟨X, rfl⟩ : ∃ X : Nat, X0 = (X : Int) := ⟨X0.toNat, by have := BX.out; omega⟩
          go_loopw [16, 17] (fun t i wr => ∃ (k : Nat) (l2 : List Int) (y : BitVec 16), k ≤ 16 ∧ (T < 0 → k = 0) ∧ i = .int .i64 k ∧ wr.ownsRow BS 5 1 (.slice (some ⟨gb, 0, none⟩) n cap) n (vU8 l2) ∧ FlipOK (logL rm L) l2 y (8 * (n : Int) - T).toNat ∧ (∀ j, j < 16 - k → y.getLsbD j = false) ∧ (t = .bool false ∧ y = 0#16 ∨ t = .bool true ∧ y ≠ 0#16) ∧ Below w.heap.size w wr) (fun _ i _ => 16 - (intOf i).toNat)
          case atStart => exact ⟨0, logL rm L, 0#16, by omega, fun _ => rfl, rfl, HOWN7.out, ⟨rfl, HWF2.out, by rw [it_zero, BitVec.xor_zero], fun _ => rfl⟩, by simp, .inl ⟨rfl, rfl⟩, HB7.out⟩
          case round =>
            obtain ⟨k, l2, y, hk, hk0, rfl, hown, hF, hy, ht, hwq⟩ := hrel
            have HF := hid hF
            have HY := hid hy
            have HT := hid ht
            have HWQ := hid hwq
            have HOWN := hid hown
            clear hF hy ht hwq
            have hL2 : l2.length = n := by rw [HF.out.1, HN0.out]
            by_cases hTn : T < 0
            · have hlt' : (k : Int) < 16 := by have := hk0 hTn; omega
              clear hown hL2 hk0
              rcases HT.out with ⟨rfl, hy0⟩ | ⟨rfl, hy0⟩
              · have hl2 := HF.out.2.2.2 hy0
                subst hl2
                clear HT HY HF
                go_wp2_with fail
                refine (load_ok _ rm L a0 a1 wr (by have := HRM.out; omega) HLR.out HLW.out (reads_of_owns HOWN.out HWF2.out) (F0.out.later HWQ.out)).mono ?_
                rintro e w8 ⟨M3, g3, ring3, R3, f3, rfl, -, -, hb8, -⟩
                have HB8 := hid (chain HWQ.out hb8)
                clear hb8
                go_wp2_with fail
                refine (awake47 a0 a1 w8 (F0.out.later HB8.out).one).mono ?_
                rintro e w9 ⟨rfl, hb9⟩
                have hB9 := chain HB8.out hb9
                go_wp2
                go_ret
                exact ⟨rfl, hB9⟩
              · have HBAD := hid (load_bad _ l2 (logB rm L).length wr (by rw [HF.out.1]; have := HN0.out; have := HN2.out; omega) (reads_of_owns HOWN.out HF.out.2.1) (F0.out.later HWQ.out).1 (flip_bad _ _ HSE.out HF.out hy0))
                clear HT HY HF hy0
                go_wp2_with fail
                refine HBAD.out.mono ?_
                rintro e w8 ⟨rfl, hb8⟩
                have HB8 := hid (chain HWQ.out hb8)
                clear hb8
                go_wp2_with fail
                refine (awake47 a0 a1 w8 (F0.out.later HB8.out).one).mono ?_
                rintro e w9 ⟨rfl, hb9⟩
                have hB9 := chain HB8.out hb9
                go_wp2
                go_ret
                exact ⟨rfl, hB9⟩
            · clear hk0
              obtain ⟨Tn, rfl⟩ : ∃ Tn : Nat, T = (Tn : Int) := ⟨T.toNat, by omega⟩
              by_cases hlt : k < 16
              · have hlt' : (k : Int) < 16 := by omega
                have hbit : bits .and .u16 ((X : Int) / 2 ^ k) 1 = ((X / 2 ^ k % 2 : Nat) : Int) := bit_of X k (by have := BX.out; omega)
                by_cases c1 : X / 2 ^ k % 2 = 1
                · rw [c1] at hbit
                  by_cases c2 : (Tn : Int) + (k : Int) ≤ 9223372036854775807
                  · by_cases c3 : (Tn + k) / 8 < n
                    · have hc0 := hown.cellAt ((Tn + k) / 8) (by omega)
                      have hf := hown.frozenAt ((Tn + k) / 8)
                      have hx0 := bd_u8 (HF.out.2.1 (l2[(Tn + k) / 8]'(by omega)) (List.getElem_mem (by omega)))
                      obtain ⟨x, hx⟩ : ∃ x : Nat, l2[(Tn + k) / 8]'(by omega) = (x : Int) := ⟨(l2[(Tn + k) / 8]'(by omega)).toNat, by omega⟩
                      have hc : wr.cell? ⟨gb, (Tn + k) / 8, none⟩ = some (.int .u8 (x : Int)) := by
                        rw [hc0, vU8, List.getElem?_map, List.getElem?_eq_getElem (by omega), hx]; rfl
                      have hx' : x < 256 := by omega
                      have FM := hid (flip_more (T := (Tn : Int)) (k := k) (q := (Tn + k) / 8) (r := (Tn + k) % 8) (x := x) (by rw [← HN0.out]; exact HF.out) HY.out hlt (by rw [← HN0.out]; exact c3) (by omega) (by omega) (by rw [List.getElem?_eq_getElem (by omega), hx]) hx')
                      rw [← HN0.out] at FM
                      clear hc0 hx hx0 hL2 hown
                      go_wp2_with fail
                      rw [flip_val x _ hx']
                      have st := (HOWN.out.stored ((Tn + k) / 8) (.int .u8 ((x ^^^ (128 >>> ((Tn + k) % 8)) : Nat) : Int))).1
                      refine ⟨⟨k + 1, l2.set ((Tn + k) / 8) ((x ^^^ (128 >>> ((Tn + k) % 8)) : Nat) : Int), y ^^^ BitVec.ofNat 16 (32768 >>> k), by omega, (fun h => by omega), by go_num, ?_, FM.out.1, FM.out.2, .inr ⟨rfl, flip_ne hlt HY.out⟩, HWQ.out.setCell (p := ⟨gb, (Tn + k) / 8, none⟩) hgb _⟩, by simp [intOf]; omega⟩
                      simpa [vU8, List.map_set] using st
                    · clear hL2 hown
                      go_wp2_with fail
                      exact ⟨⟨k + 1, l2, y, by omega, (fun h => by omega), by go_num, HOWN.out, HF.out, fun j hj => HY.out j (by omega), HT.out, HWQ.out⟩, by simp [intOf]; omega⟩
                  · obtain ⟨K, e2, hK⟩ : ∃ K : Int, wrap64 ((Tn : Int) + (k : Int)) = K ∧ K < Tn := ⟨_, rfl, by have := BT.out; unfold wrap64; omega⟩
                    have HXX := hid hbit
                    clear hL2 hown c2
                    go_wp2_with fail
                    clear e2 hK
                    exact ⟨⟨k + 1, l2, y, by omega, (fun h => by omega), by go_num, HOWN.out, HF.out, fun j hj => HY.out j (by omega), HT.out, HWQ.out⟩, by simp [intOf]; omega⟩
                · rw [show X / 2 ^ k % 2 = 0 by omega] at hbit
                  clear hL2 hown
                  go_wp2_with fail
                  exact ⟨⟨k + 1, l2, y, by omega, (fun h => by omega), by go_num, HOWN.out, HF.out, fun j hj => HY.out j (by omega), HT.out, HWQ.out⟩, by simp [intOf]; omega⟩
              · have hk16 : k = 16 := by omega
                subst hk16
                clear hown hL2
                rcases HT.out with ⟨rfl, hy0⟩ | ⟨rfl, hy0⟩
                · have hl2 := HF.out.2.2.2 hy0
                  subst hl2
                  clear HT HY HF
                  go_wp2_with fail
                  refine (load_ok _ rm L a0 a1 wr (by have := HRM.out; omega) HLR.out HLW.out (reads_of_owns HOWN.out HWF2.out) (F0.out.later HWQ.out)).mono ?_
                  rintro e w8 ⟨M3, g3, ring3, R3, f3, rfl, -, -, hb8, -⟩
                  have HB8 := hid (chain HWQ.out hb8)
                  clear hb8
                  go_wp2_with fail
                  refine (awake47 a0 a1 w8 (F0.out.later HB8.out).one).mono ?_
                  rintro e w9 ⟨rfl, hb9⟩
                  have hB9 := chain HB8.out hb9
                  go_wp2
                  go_ret
                  exact ⟨rfl, hB9⟩
                · have HBAD := hid (load_bad _ l2 (logB rm L).length wr (by rw [HF.out.1]; have := HN0.out; have := HN2.out; omega) (reads_of_owns HOWN.out HF.out.2.1) (F0.out.later HWQ.out).1 (flip_bad _ _ HSE.out HF.out hy0))
                  clear HT HY HF hy0
                  go_wp2_with fail
                  refine HBAD.out.mono ?_
                  rintro e w8 ⟨rfl, hb8⟩
                  have HB8 := hid (chain HWQ.out hb8)
                  clear hb8
                  go_wp2_with fail
                  refine (awake47 a0 a1 w8 (F0.out.later HB8.out).one).mono ?_
                  rintro e w9 ⟨rfl, hb9⟩
                  have hB9 := chain HB8.out hb9
                  go_wp2
                  go_ret
                  exact ⟨rfl, hB9⟩
        · have hcr' : (rm : Int) < c1 := by omega
          rw [HLL.out.2 (by omega)]
          go_wp2_with fail
          clear hcr hcr'
          obtain ⟨X, rfl⟩ : ∃ X : Nat, X0 = (X : Int) := ⟨X0.toNat, by have := BX.out; omega⟩
          go_loopw [16, 17] (fun t i wr => ∃ (k : Nat) (l2 : List Int) (y : BitVec 16), k ≤ 16 ∧ (T < 0 → k = 0) ∧ i = .int .i64 k ∧ wr.ownsRow BS 5 1 (.slice (some ⟨gb, 0, none⟩) n cap) n (vU8 l2) ∧ FlipOK (logL rm L) l2 y (8 * (n : Int) - T).toNat ∧ (∀ j, j < 16 - k → y.getLsbD j = false) ∧ (t = .bool false ∧ y = 0#16 ∨ t = .bool true ∧ y ≠ 0#16) ∧ Below w.heap.size w wr) (fun _ i _ => 16 - (intOf i).toNat)
          case atStart => exact ⟨0, logL rm L, 0#16, by omega, fun _ => rfl, rfl, HOWN7.out, ⟨rfl, HWF2.out, by rw [it_zero, BitVec.xor_zero], fun _ => rfl⟩, by simp, .inl ⟨rfl, rfl⟩, HB7.out⟩
          case round =>
            obtain ⟨k, l2, y, hk, hk0, rfl, hown, hF, hy, ht, hwq⟩ := hrel
            have HF := hid hF
            have HY := hid hy
            have HT := hid ht
            have HWQ := hid hwq
            have HOWN := hid hown
            clear hF hy ht hwq
            have hL2 : l2.length = n := by rw [HF.out.1, HN0.out]
            by_cases hTn : T < 0
            · have hlt' : (k : Int) < 16 := by have := hk0 hTn; omega
              clear hown hL2 hk0
              rcases HT.out with ⟨rfl, hy0⟩ | ⟨rfl, hy0⟩
              · have hl2 := HF.out.2.2.2 hy0
                subst hl2
                clear HT HY HF
                go_wp2_with fail
                refine (load_ok _ rm L a0 a1 wr (by have := HRM.out; omega) HLR.out HLW.out (reads_of_owns HOWN.out HWF2.out) (F0.out.later HWQ.out)).mono ?_
                rintro e w8 ⟨M3, g3, ring3, R3, f3, rfl, -, -, hb8, -⟩
                have HB8 := hid (chain HWQ.out hb8)
                clear hb8
                go_wp2_with fail
                refine (awake47 a0 a1 w8 (F0.out.later HB8.out).one).mono ?_
                rintro e w9 ⟨rfl, hb9⟩
                have hB9 := chain HB8.out hb9
                go_wp2
                go_ret
                exact ⟨rfl, hB9⟩
              · have HBAD := hid (load_bad _ l2 (logB rm L).length wr (by rw [HF.out.1]; have := HN0.out; have := HN2.out; omega) (reads_of_owns HOWN.out HF.out.2.1) (F0.out.later HWQ.out).1 (flip_bad _ _ HSE.out HF.out hy0))
                clear HT HY HF hy0
                go_wp2_with fail
                refine HBAD.out.mono ?_
                rintro e w8 ⟨rfl, hb8⟩
                have HB8 := hid (chain HWQ.out hb8)
                clear hb8
                go_wp2_with fail
                refine (awake47 a0 a1 w8 (F0.out.later HB8.out).one).mono ?_
                rintro e w9 ⟨rfl, hb9⟩
                have hB9 := chain HB8.out hb9
                go_wp2
                go_ret
                exact ⟨rfl, hB9⟩
            · clear hk0
              obtain ⟨Tn, rfl⟩ : ∃ Tn : Nat, T = (Tn : Int) := ⟨T.toNat, by omega⟩
              by_cases hlt : k < 16
              · have hlt' : (k : Int) < 16 := by omega
                have hbit : bits .and .u16 ((X : Int) / 2 ^ k) 1 = ((X / 2 ^ k % 2 : Nat) : Int) := bit_of X k (by have := BX.out; omega)
                by_cases c1 : X / 2 ^ k % 2 = 1
                · rw [c1] at hbit
                  by_cases c2 : (Tn : Int) + (k : Int) ≤ 9223372036854775807
                  · by_cases c3 : (Tn + k) / 8 < n
                    · have hc0 := hown.cellAt ((Tn + k) / 8) (by omega)
                      have hf := hown.frozenAt ((Tn + k) / 8)
                      have hx0 := bd_u8 (HF.out.2.1 (l2[(Tn + k) / 8]'(by omega)) (List.getElem_mem (by omega)))
                      obtain ⟨x, hx⟩ : ∃ x : Nat, l2[(Tn + k) / 8]'(by omega) = (x : Int) := ⟨(l2[(Tn + k) / 8]'(by omega)).toNat, by omega⟩
                      have hc : wr.cell? ⟨gb, (Tn + k) / 8, none⟩ = some (.int .u8 (x : Int)) := by
                        rw [hc0, vU8, List.getElem?_map, List.getElem?_eq_getElem (by omega), hx]; rfl
                      have hx' : x < 256 := by omega
                      have FM := hid (flip_more (T := (Tn : Int)) (k := k) (q := (Tn + k) / 8) (r := (Tn + k) % 8) (x := x) (by rw [← HN0.out]; exact HF.out) HY.out hlt (by rw [← HN0.out]; exact c3) (by omega) (by omega) (by rw [List.getElem?_eq_getElem (by omega), hx]) hx')
                      rw [← HN0.out] at FM
                      clear hc0 hx hx0 hL2 hown
                      go_wp2_with fail
                      rw [flip_val x _ hx']
                      have st := (HOWN.out.stored ((Tn + k) / 8) (.int .u8 ((x ^^^ (128 >>> ((Tn + k) % 8)) : Nat) : Int))).1
                      refine ⟨⟨k + 1, l2.set ((Tn + k) / 8) ((x ^^^ (128 >>> ((Tn + k) % 8)) : Nat) : Int), y ^^^ BitVec.ofNat 16 (32768 >>> k), by omega, (fun h => by omega), by go_num, ?_, FM.out.1, FM.out.2, .inr ⟨rfl, flip_ne hlt HY.out⟩, HWQ.out.setCell (p := ⟨gb, (Tn + k) / 8, none⟩) hgb _⟩, by simp [intOf]; omega⟩
                      simpa [vU8, List.map_set] using st
                    · clear hL2 hown
                      go_wp2_with fail
                      exact ⟨⟨k + 1, l2, y, by omega, (fun h => by omega), by go_num, HOWN.out, HF.out, fun j hj => HY.out j (by omega), HT.out, HWQ.out⟩, by simp [intOf]; omega⟩
                  · obtain ⟨K, e2, hK⟩ : ∃ K : Int, wrap64 ((Tn : Int) + (k : Int)) = K ∧ K < Tn := ⟨_, rfl, by have := BT.out; unfold wrap64; omega⟩
                    have HXX := hid hbit
                    clear hL2 hown c2
                    go_wp2_with fail
                    clear e2 hK
                    exact ⟨⟨k + 1, l2, y, by omega, (fun h => by omega), by go_num, HOWN.out, HF.out, fun j hj => HY.out j (by omega), HT.out, HWQ.out⟩, by simp [intOf]; omega⟩
                · rw [show X / 2 ^ k % 2 = 0 by omega] at hbit
                  clear hL2 hown
                  go_wp2_with fail
                  exact ⟨⟨k + 1, l2, y, by omega, (fun h => by omega), by go_num, HOWN.out, HF.out, fun j hj => HY.out j (by omega), HT.out, HWQ.out⟩, by simp [intOf]; omega⟩
              · have hk16 : k = 16 := by omega
                subst hk16
                clear hown hL2
                rcases HT.out with ⟨rfl, hy0⟩ | ⟨rfl, hy0⟩
                · have hl2 := HF.out.2.2.2 hy0
                  subst hl2
                  clear HT HY HF
                  go_wp2_with fail
                  refine (load_ok _ rm L a0 a1 wr (by have := HRM.out; omega) HLR.out HLW.out (reads_of_owns HOWN.out HWF2.out) (F0.out.later HWQ.out)).mono ?_
                  rintro e w8 ⟨M3, g3, ring3, R3, f3, rfl, -, -, hb8, -⟩
                  have HB8 := hid (chain HWQ.out hb8)
                  clear hb8
                  go_wp2_with fail
                  refine (awake47 a0 a1 w8 (F0.out.later HB8.out).one).mono ?_
                  rintro e w9 ⟨rfl, hb9⟩
                  have hB9 := chain HB8.out hb9
                  go_wp2
                  go_ret
                  exact ⟨rfl, hB9⟩
                · have HBAD := hid (load_bad _ l2 (logB rm L).length wr (by rw [HF.out.1]; have := HN0.out; have := HN2.out; omega) (reads_of_owns HOWN.out HF.out.2.1) (F0.out.later HWQ.out).1 (flip_bad _ _ HSE.out HF.out hy0))
                  clear HT HY HF hy0
                  go_wp2_with fail
                  refine HBAD.out.mono ?_
                  rintro e w8 ⟨rfl, hb8⟩
                  have HB8 := hid (chain HWQ.out hb8)
                  clear hb8
                  go_wp2_with fail
                  refine (awake47 a0 a1 w8 (F0.out.later HB8.out).one).mono ?_
                  rintro e w9 ⟨rfl, hb9⟩
                  have hB9 := chain HB8.out hb9
                  go_wp2
                  go_ret
                  exact ⟨rfl, hB9⟩
  · have AW := hid (awake47 a0 a1 w F0.out.one)
    go_enter Tryd.func19, Tryd.ntmps19
    by_cases g1 : 40 < N
    · have g1' : (40 : Int) < N := by omega
      clear hgd
      go_wp2_with fail
      refine AW.out.mono ?_
      rintro e w2 ⟨rfl, hb2⟩
      go_wp2
      go_ret
      exact ⟨rfl, hb2⟩
    · have g1' : ¬ (40 : Int) < N := by omega
      by_cases g2 : room < 1
      · clear hgd
        go_wp2_with fail
        refine AW.out.mono ?_
        rintro e w2 ⟨rfl, hb2⟩
        go_wp2
        go_ret
        exact ⟨rfl, hb2⟩
      · have g3 : 40 < room := by omega
        clear hgd
        go_wp2_with fail
        refine AW.out.mono ?_
        rintro e w2 ⟨rfl, hb2⟩
        go_wp2
        go_ret
        exact ⟨rfl, hb2⟩
end Go.Proofs.YtecbfegohdllbaaDoor
