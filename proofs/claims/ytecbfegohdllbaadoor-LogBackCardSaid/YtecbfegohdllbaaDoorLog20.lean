/- The walk of LogLast: a log has just the last reports. -/
import Derived.Test.YtecbfegohdllbaaDoorPackD
namespace Go.Proofs.YtecbfegohdllbaaDoor
open Go.RowKit
set_option linter.unusedVariables false
set_option linter.unusedSimpArgs false
/-- those that a frame can carry -/
noncomputable def rightsL (l : List (List Int)) : List (List Int) := l.filter (fun Z => @decide (RightL Z) (Classical.propDecidable _))
theorem rightsL_snoc (l : List (List Int)) (Z : List Int) : (RightL Z → rightsL (l ++ [Z]) = rightsL l ++ [Z]) ∧ (¬ RightL Z → rightsL (l ++ [Z]) = rightsL l) := by
  refine ⟨fun h => ?_, fun h => ?_⟩ <;> simp [rightsL, List.filter_append, h]
theorem rightsL_mem {l : List (List Int)} {Z : List Int} (h : Z ∈ rightsL l) : Z ∈ l ∧ RightL Z := by
  have := List.mem_filter.1 h
  exact ⟨this.1, by simpa using this.2⟩
theorem rightsL_len (l : List (List Int)) : (rightsL l).length ≤ l.length := List.length_filter_le _ _
/-- the last of a list -/
def lastL (n : Nat) (X : List (List Int)) : List (List Int) := X.drop (X.length - n)
theorem lastL_add {room : Nat} (h : 1 ≤ room) (X : List (List Int)) (Z : List Int) : addL room (lastL room X) Z = lastL room (X ++ [Z]) := by
  unfold lastL
  by_cases hc : X.length < room
  · rw [addL_more (by simp; omega), show X.length - room = 0 by omega, show (X ++ [Z]).length - room = 0 by simp; omega]
    rfl
  · rw [addL_over (by simp; omega), List.drop_drop, show (X ++ [Z]).length - room = X.length - room + 1 by simp; omega, List.drop_append_of_le_length (by omega)]
theorem LG.grown {M g room f : Nat} {ring : Value} {R : List (List Int)} {A B : World} {row : Option Nat} (h : LG M g room ring R f A) (hg : A.grownBy B row) (h1 : row ≠ some g) (h2 : ∀ j, ring.ownBlock = some j → row ≠ some j) : LG M g room ring R f B := by
  obtain ⟨q0, q1, q2, q3, q4⟩ := h
  refine ⟨(hg.block g (lt_of_row q0) (by first | exact h1 | exact fun e => h1 e.symm)).trans q0, q1.kept hg ?_, q2, Nat.le_trans q3 hg.size, q4⟩
  rcases hr : ring.ownBlock with _ | j
  · exact .inl rfl
  · exact .inr (fun e => h2 j hr (by first | exact e | exact e.symm))
theorem Kept.row {g : Nat} {r : Option Nat} {A B : World} {base e size n : Nat} {v : Value} {xs : List Value} (h : Kept g r A B) (ho : A.ownsRow base e size v n xs) (h1 : v.ownBlock ≠ some g) (h2 : ∀ j, r = some j → v.ownBlock ≠ some j) : B.ownsRow base e size v n xs := by
  obtain ⟨h0, ⟨rfl, h3⟩ | ⟨k, cap, cur, rfl, h4, h5, h6⟩⟩ := ho
  · exact ⟨h0, .inl ⟨rfl, h3⟩⟩
  · refine ⟨h0, .inr ⟨k, cap, cur, rfl, h4, (h.block k (lt_of_row h5) (fun e => h1 (by rw [e]; rfl)) (fun e => h2 k e rfl)).trans h5, h6⟩⟩
theorem rrow_drop {W : World} {base c g n : Nat} {X : List (List Int)} (h : Rows' base W (.slice (some ⟨g, 0, none⟩) X.length c) X) (hl : ∀ Z ∈ X, Z.length = 11) (hn : n ≤ X.length) : RRow W (.slice (some ⟨g, n * 11, none⟩) (X.length - n) (c - n)) (X.drop n) := by
  have hr := rrow_of_rows h hl
  have hc : X.length ≤ c := by
    rcases h.2 with ⟨h1, -⟩ | ⟨_, _, _, h1, -, -, h2, -⟩
    · cases h1
    · obtain ⟨-, -, rfl⟩ := Value.slice.inj h1; exact h2
  refine ⟨_, _, by rw [List.length_drop], by rw [List.length_drop]; omega, (fun e => by cases e), fun b e i Z hi j x hj => ?_⟩
  obtain rfl := Option.some.inj e
  rw [List.getElem?_drop] at hi
  rw [add_plain]
  exact rrow_cells hr hi j x hj _ (by omega)
/-- what stands between two rounds -/
def LI (w : World) (M g room : Nat) (al : Value) (X : List (List Int)) (W : World) : Prop :=
  ∃ ring R f, Below w.heap.size w W ∧ LG M g room ring R f W ∧ Rows' M W al X ∧ (∀ j, ring.ownBlock = some j → al.ownBlock ≠ some j) ∧ ringL R f = lastL room X ∧ (∀ Z ∈ X, RepWf Z ∧ RightL Z) ∧ w.heap.size ≤ g ∧ w.heap.size ≤ M
theorem LI.below {w A B : World} {M g room : Nat} {al : Value} {X : List (List Int)} (h : LI w M g room al X A) (hb : Below A.heap.size A B) : LI w M g room al X B := by
  obtain ⟨ring, R, f, h1, h2, h3, h4⟩ := h
  exact ⟨ring, R, f, chain h1 hb, h2.below hb, ownsRow_below h3 hb, h4⟩
set_option maxRecDepth 100000 in
set_option maxHeartbeats 4000000 in
theorem LogLast_walk (room : Int) (v : Value) (l : List (List Int)) (w : World) (hroom : (Lit.int .i64 room).wf = true) (hM : RRow w v l ∧ ∀ Z ∈ l, RepWf Z) (h4 : Four w) (a0 : Addr) (hE : ErrR w a0) : Calls Tryd.prog 18 #[.int .i64 room, v] w fun e w' => e = .returned (.bool true) ∧ Below w.heap.size w w' := by
  have F0 := hid (show FE a0 a0 w from ⟨h4, hE⟩)
  have HM := hid (fun W (hW : Below w.heap.size w W) => rrow_later hM.1 hW)
  have HWF := hid hM.2
  obtain ⟨a, c, rfl, a1', hc⟩ := rrow_at hM.1 (fun Z hZ => (hM.2 Z hZ).1)
  obtain ⟨N, hN⟩ : ∃ N, N = l.length := ⟨_, rfl⟩
  have HN := hid hN
  rw [← hN] at a1' hc HM ⊢
  obtain ⟨rb1, rb2⟩ := bd_i64 hroom
  clear hM h4 hE hN hroom
  by_cases hgd : N ≤ 40 ∧ 1 ≤ room ∧ room ≤ 40
  · obtain ⟨h40, hr1, hr2⟩ := hgd
    have h40' : (N : Int) ≤ 40 := by omega
    obtain ⟨rm, rfl⟩ : ∃ rm : Nat, room = rm := ⟨room.toNat, by omega⟩
    go_enter Tryd.func18, Tryd.ntmps18
    go_wp2_with fail
    refine (lnew_any (rm : Int) w ⟨by omega, by omega⟩).mono ?_
    rintro e w1 ⟨rfl, hl1, hb1⟩
    rw [show ((rm : Int)).toNat = rm from Int.toNat_natCast rm] at hl1
    have TS0 := hid (show LI w w1.heap.size w.heap.size rm (.slice none 0 0) (rightsL (l.take 0)) w1 from ⟨_, _, _, hb1, hl1, World.ownsRow_nil _ _ _ _, (fun j e => by cases e), by simp [ringL, lastL, rightsL], (fun Z hZ => by cases hZ), Nat.le_refl _, hb1.size⟩)
    have HRM := hid (show 1 ≤ rm ∧ rm ≤ 40 by omega)
    obtain ⟨g, hg⟩ : ∃ g, g = w.heap.size := ⟨_, rfl⟩
    rw [← hg] at TS0
    rw [← hg]
    clear hl1 hb1 hg
    generalize w1.heap.size = M at *
    go_wp2_with fail
    go_loopw [7, 8] (fun al i wr => ∃ k : Nat, k ≤ N ∧ i = .int .i64 k ∧ LI w M g rm al (rightsL (l.take k)) wr) (fun _ i _ => N - (intOf i).toNat)
    case atStart => exact ⟨0, by omega, rfl, TS0.out⟩
    case round =>
      obtain ⟨k, hk, rfl, hli⟩ := hrel
      have HLI := hid hli
      have HB := hid (show Below w.heap.size w wr from by obtain ⟨_, _, _, h, -⟩ := hli; exact h)
      clear hli
      by_cases hlt : k < N
      · have hlt' : (k : Int) < N := by omega
        obtain ⟨b, off, rfl⟩ := a1' (by omega)
        have l1 : k < l.length := by have := HN.out; omega
        have z1 : l[k]? = some l[k] := by simp [l1]
        have HTK := hid (show l.take (k + 1) = l.take k ++ [l[k]] from List.take_succ_eq_append_getElem l1)
        have HZW := hid (HWF.out _ (List.getElem_mem l1))
        generalize l[k] = Z at *
        have HZL := hid HZW.out.1
        have CA := hid (fun W (hW : Below w.heap.size w W) => rrow_cells (HM.out W hW) z1)
        have HXN := hid (show (rightsL (l.take k)).length ≤ 1000 by have := rightsL_len (l.take k); rw [List.length_take] at this; omega)
        clear z1 l1
        by_cases hR : RightL Z
        · have HR := hid hR
          have RY := hid (fun W => rright_yes Z HZW.out hR W)
          have HX1 := hid (show rightsL (l.take (k + 1)) = rightsL (l.take k) ++ [Z] by rw [HTK.out]; exact (rightsL_snoc _ _).1 hR)
          clear hR
          go_wp2_with ((with_reducible refine at_op (.load 50 (.tmp 39)) ?_); refine wpR_load_part rfl (.tmp 39) rfl ⟨b, off + k * 11, none⟩ rfl Z HZL.out ?_ ?_; (intro j x hj; rw [add_plain]; exact CA.out _ HB.out j x hj _ (by omega)))
          refine (RY.out wr).mono ?_
          rintro e w2 ⟨rfl, hb2⟩
          have HLI2 := hid (HLI.out.below hb2)
          clear hb2 HLI
          obtain ⟨ring, R, f, i1, i2, i3, i4, i5, i6, i7, i8⟩ := HLI2.out
          have J1 := hid i1
          have J2 := hid i2
          have J3 := hid i3
          have J4 := hid i4
          have J5 := hid i5
          have J6 := hid i6
          have J7 := hid (show w.heap.size ≤ g ∧ w.heap.size ≤ M from ⟨i7, i8⟩)
          have J8 := hid (show M ≤ w2.heap.size from i2.2.2.2.1)
          have J9 := hid (show g < M from i2.2.2.1)
          clear i1 i2 i3 i4 i5 i6 i7 i8 HLI2
          go_wp2_with (first | ((with_reducible refine at_op (.load 50 (.tmp 45)) ?_); refine wpR_load_part rfl (.tmp 45) rfl ⟨b, off + k * 11, none⟩ rfl Z HZL.out ?_ ?_; (intro j x hj; rw [add_plain]; exact CA.out _ J1.out j x hj _ (by omega))) | ((with_reducible refine at_op (.buildSlice 60 1 #[(0, .tmp 46)]) ?_); refine wpList_plain rfl (fun K hK => ?_); refine wp_slice1_rep (.tmp 46) rfl Z HZL.out rfl ?_; intro g3 w3 hg3 hR3 hb3; clear hg3; refine hK _ _ ?_; (have JO3 := hid (ownsRow_below J3.out hb3)); (have JP3 := hid (part_one (c := 1) hR3)); (have JB3 := hid (chain J1.out hb3)); (have JL3 := hid (J2.out.below hb3)); (have JS3 := hid (Nat.le_trans J8.out hb3.size)); (clear hb3 hR3)) | ((with_reducible refine at_op (.call { callee := .builtin .append, args := #[.tmp 42, .tmp 47], argTypes := #[60, 60] }) ?_); refine wpList_append_part rfl (.tmp 42) (.tmp 47) rfl M u7 _ (rightsL (l.take k)) [Z] rfl JO3.out rfl JP3.out (by intro Y hY; rw [List.mem_singleton.1 hY]; exact HZL.out) ?_ JS3.out ?_; (have := HXN.out; simp; omega); intro v4 w4 hown4 hg4 hl4; (have JO4 := hid hown4); (have JB4 := hid (JB3.out.grown hg4 JB3.out.size (fun j e => by have := (JO3.out.lt j e).1; have := J7.out.2; omega))); (have JL4 := hid (JL3.out.grown hg4 (fun e => by have := (JO3.out.lt g e).1; have := J9.out; omega) (fun j e => J4.out j e))); (have JD4 := hid (show ∀ j, ring.ownBlock = some j → v4.ownBlock ≠ some j from fun j e => by (rcases hl4 with h | h); (rw [h]; exact J4.out j e); (rw [h]; intro e2; have := Option.some.inj e2; have := (JL3.out.block j e).2; omega))); (clear hown4 hg4 hl4)) | ((with_reducible refine at_op (.load 50 (.tmp 52)) ?_); refine wpR_load_part rfl (.tmp 52) rfl ⟨b, off + k * 11, none⟩ rfl Z HZL.out ?_ ?_; (intro j x hj; rw [add_plain]; exact CA.out _ JB4.out j x hj _ (by omega))))
          refine (ladd_right Z a0 a0 w4 JL4.out HZW.out HR.out (F0.out.later JB4.out)).mono ?_
          rintro e w5 ⟨rfl, ring5, R5, f5, hl5, hr5, hk5, ho5⟩
          have FIN := hid (show LI w M g rm v4 (rightsL (l.take (k + 1))) w5 from by
            refine ⟨ring5, R5, f5, JB4.out.trans (hk5.below JB4.out.size J7.out.1 (fun j e => by have := (JL4.out.block j e).1; have := J7.out.2; omega)), hl5, ?_, ?_, ?_, ?_, J7.out.1, J7.out.2⟩
            · rw [HX1.out]
              exact hk5.row JO4.out (fun e => by have := (JO4.out.lt g e).1; have := J9.out; omega) (fun j e => JD4.out j e)
            · intro j e
              rcases ho5 with h | ⟨j', h, hj'⟩
              · exact JD4.out j (by rw [← h]; exact e)
              · rw [h] at e
                obtain rfl := Option.some.inj e
                intro e2
                have := (JO4.out.lt j' e2).2
                omega
            · rw [hr5, J5.out, HX1.out, lastL_add HRM.out.1]
            · rw [HX1.out]
              intro Y hY
              rcases List.mem_append.1 hY with h | h
              · exact J6.out Y h
              · rw [List.mem_singleton.1 h]; exact ⟨HZW.out, HR.out⟩)
          clear hl5 hr5 hk5 ho5
          go_wp2_with fail
          go_roundw
          case rel => exact ⟨k + 1, by omega, by go_num, FIN.out⟩
          case measure => simp [intOf]; omega
        · have HR := hid hR
          have RN := hid (fun W => rright_no Z HZW.out hR W)
          have HX1 := hid (show rightsL (l.take (k + 1)) = rightsL (l.take k) by rw [HTK.out]; exact (rightsL_snoc _ _).2 hR)
          clear hR
          go_wp2_with ((with_reducible refine at_op (.load 50 (.tmp 39)) ?_); refine wpR_load_part rfl (.tmp 39) rfl ⟨b, off + k * 11, none⟩ rfl Z HZL.out ?_ ?_; (intro j x hj; rw [add_plain]; exact CA.out _ HB.out j x hj _ (by omega)))
          refine (RN.out wr).mono ?_
          rintro e w2 ⟨rfl, hb2⟩
          have HLI2 := hid (HLI.out.below hb2)
          have HB2 := hid (chain HB.out hb2)
          clear hb2 HLI
          obtain ⟨ring, R, f, i1, i2, i3, i4, i5, i6, i7, i8⟩ := HLI2.out
          have J2 := hid i2
          clear i1 i2 i3 i4 i5 i6 i7 i8
          go_wp2_with ((with_reducible refine at_op (.load 50 (.tmp 52)) ?_); refine wpR_load_part rfl (.tmp 52) rfl ⟨b, off + k * 11, none⟩ rfl Z HZL.out ?_ ?_; (intro j x hj; rw [add_plain]; exact CA.out _ HB2.out j x hj _ (by omega)))
          refine (ladd_wrong Z a0 a0 w2 J2.out HZW.out HR.out (F0.out.later HB2.out)).mono ?_
          rintro e w5 ⟨rfl, hb5⟩
          have FIN := hid (show LI w M g rm u7 (rightsL (l.take (k + 1))) w5 from by rw [HX1.out]; exact HLI2.out.below hb5)
          clear hb5
          go_wp2_with fail
          go_roundw
          case rel => exact ⟨k + 1, by omega, by go_num, FIN.out⟩
          case measure => simp [intOf]; omega
      · obtain rfl : k = N := by omega
        have hall : l.take k = l := List.take_of_length_le (by have := HN.out; omega)
        rw [hall] at HLI
        have HXN := hid (rightsL_len l)
        have hXN : (rightsL l).length ≤ 40 := by have := HXN.out; have := HN.out; omega
        clear hall
        generalize rightsL l = X at *
        obtain ⟨ring, R, f, i1, i2, i3, i4, i5, i6, i7, i8⟩ := HLI.out
        have hX11 : ∀ Z ∈ X, Z.length = 11 := fun Z hZ => (i6 Z hZ).1.1
        have HX11 := hid hX11
        have HXW := hid i6
        have HL := hid i2
        have HRL := hid i5
        obtain ⟨xa, xc, rfl⟩ := own_slice i3
        have HO := hid i3
        clear i1 i2 i3 i4 i5 i6 i7 i8 hX11 HLI
        obtain ⟨m, hm⟩ : ∃ m, m = X.length := ⟨_, rfl⟩
        have HMX := hid hm
        rw [← hm] at hXN HO ⊢
        have hm40 : (m : Int) ≤ 40 := by omega
        clear hm
        have LB := hid (fun n (hn : n = m - rm) => (show lastL rm X = X.drop n by unfold lastL; rw [← HMX.out, hn]))
        have HLN := hid (show (ringL R f).length ≤ 40 by rw [HRL.out]; unfold lastL; rw [List.length_drop]; have := HMX.out; omega)
        have HLB := hid (lbytes_any a0 a0 wr HL.out (F0.out.later HB.out))
        have HLWF := hid (show ∀ Z ∈ ringL R f, Z.length = 11 from fun Z hZ => HX11.out Z (by rw [HRL.out] at hZ; exact List.mem_of_mem_drop hZ))
        have HR1 := hid (show rm ≤ 1000 by have := HRM.out; omega)
        by_cases hmr : m ≤ rm
        · have hmr' : (m : Int) - rm ≤ 0 := by omega
          have HLX := hid (show lastL rm X = X from by rw [LB.out 0 (by omega)]; rfl)
          rcases xa with _ | ⟨gx, xo, xs⟩
          · obtain ⟨hm0, hxc0⟩ : m = 0 ∧ xc = 0 := by
              rcases HO.out.2 with ⟨h1, -⟩ | ⟨_, _, _, h1, -⟩
              · obtain ⟨-, h2, h3⟩ := Value.slice.inj h1; exact ⟨h2, h3⟩
              · cases h1
            subst hm0
            subst hxc0
            have HSV := hid (fun W (hW : Below wr.heap.size wr W) => (show RRow W (.slice none 0 0) X from by
              have hx0 : X = [] := List.eq_nil_of_length_eq_zero HMX.out.symm
              rw [hx0]; exact ⟨none, 0, rfl, Nat.le_refl _, fun _ => rfl, fun b e => by cases e⟩))
            go_wp2_with fail
            refine HLB.out.mono ?_
            rintro e w2 ⟨v2, rfl, hb2, hown2⟩
            have hr2 := reads_of_owns hown2 (logL_wf HLWF.out HR1.out (by have := HLN.out; omega))
            have HSEAL := hid (show logL rm (ringL R f) = sealL ((logL rm (ringL R f)).take (logB rm (ringL R f)).length) from by unfold logL sealL; rw [List.take_left' rfl])
            have HLEN := hid (show (logL rm (ringL R f)).length = (logB rm (ringL R f)).length + 2 from by unfold logL sealL; rw [List.length_append]; rfl)
            have HBL := hid (logB_len (room := rm) HLWF.out)
            have HB2 := hid (chain HB.out hb2)
            have HL2 := hid (HL.out.below hb2)
            have HS2 := hid hb2
            clear hown2 hb2 HLB
            go_wp2_with fail
            refine (ropen_ok _ _ _ HLEN.out w2 hr2 (by have := HLEN.out; have := HBL.out; have := HLN.out; omega) HSEAL.out).mono ?_
            rintro e w3 ⟨v3, rfl, hb3, -⟩
            have HB3 := hid (chain HB2.out hb3)
            have HL3 := hid (HL2.out.below hb3)
            have HS3 := hid (chain HS2.out hb3)
            clear hb3 hr2 HL2 HB2
            go_wp2_with fail
            refine wp_region_F' (B := w3.heap.size) (n := 14) (l := #[false, false, false, false, false, false, false, false, false, false, false, false, false, false]) (by kernel_rfl) (by kernel_rfl) (by kernel_rfl) ?_
            refine wpAnyF_take (i := 0) (v := ?vp_0_1) (some 66) rfl rfl (by kernel_rfl) (by kernel_rfl) (by kernel_rfl) (fun _ _ _ h => h) (by rfl) ?hvp_0_1 ?restp_0_1
            case hvp_0_1 => (intro w' hb; go_simp; try with_reducible rfl)
            simp only [Act.put, List.setIfInBounds_toArray, List.set_cons_zero, List.set_cons_succ]
            refine wpAnyF_take (i := 2) (v := ?vp_2_2) (some 68) rfl rfl (by kernel_rfl) (by kernel_rfl) (by kernel_rfl) (fun _ _ _ h => h) (by rfl) ?hvp_2_2 ?restp_2_2
            case hvp_2_2 => (intro w' hb; go_simp; try with_reducible rfl)
            simp only [Act.put, List.setIfInBounds_toArray, List.set_cons_zero, List.set_cons_succ]
            refine wpAnyF_take (i := 3) (v := ?vp_3_3) (some 69) rfl rfl (by kernel_rfl) (by kernel_rfl) (by kernel_rfl) (fun _ _ _ h => h) (by rfl) ?hvp_3_3 ?restp_3_3
            case hvp_3_3 => (intro w' hb; go_simp; try with_reducible rfl)
            simp only [Act.put, List.setIfInBounds_toArray, List.set_cons_zero, List.set_cons_succ]
            refine wpAnyF_take (i := 4) (v := ?vp_4_4) (some 70) rfl rfl (by kernel_rfl) (by kernel_rfl) (by kernel_rfl) (fun _ _ _ h => h) (by rfl) ?hvp_4_4 ?restp_4_4
            case hvp_4_4 => (intro w' hb; go_simp; try with_reducible rfl)
            simp only [Act.put, List.setIfInBounds_toArray, List.set_cons_zero, List.set_cons_succ]
            refine wpAnyF_alone (i := 1) rfl (by kernel_rfl) (by rfl) (fun K hK => ?_)
            go_simp
            refine (lall_any w3.drew (HL3.out.below ((Below.refl _ w3).drew))).mono ?_
            rintro e w12 ⟨u12, rfl, hb12, hrow12⟩
            have hb : Below w3.heap.size w3.drew w12 := hb12.mono (by simp)
            have hB12 := chain HB3.out (Below.drewl hb)
            have hS12 := chain HS3.out (Below.drewl hb)
            have HR12 := hid (rrow_of_rows hrow12 HLWF.out)
            rw [HRL.out, HLX.out] at HR12
            refine hK.out _ _ hb ?_
            clear hK K
            simp only [List.setIfInBounds_toArray, List.set_cons_zero, List.set_cons_succ]
            refine wpAnyF_alone (i := 5) rfl (by kernel_rfl) (by rfl) (fun K hK => ?_)
            go_simp
            refine (same_arm _ _ X w12 HR12.out (HSV.out w12 hS12) (fun Z hZ => HX11.out Z (hZ)) (by have := HMX.out; omega)).mono ?_
            rintro e w13 ⟨rfl, hb13⟩
            have hb : Below w3.heap.size w12 w13 := hb13.mono (by have := hb12.size; simpa using this)
            have hB13 := chain hB12 hb13
            refine hK.out _ _ hb ?_
            clear hK K
            simp only [List.setIfInBounds_toArray, List.set_cons_zero, List.set_cons_succ]
            refine wpAnyF_take (i := 6) (v := ?vp_6_5) (some 72) rfl rfl (by kernel_rfl) (by kernel_rfl) (by kernel_rfl) (fun _ _ _ h => h) (by rfl) ?hvp_6_5 ?restp_6_5
            case hvp_6_5 => (intro w' hb; go_simp; try with_reducible rfl)
            simp only [Act.put, List.setIfInBounds_toArray, List.set_cons_zero, List.set_cons_succ]
            refine wpAnyF_take (i := 7) (v := ?vp_7_6) (some 73) rfl rfl (by kernel_rfl) (by kernel_rfl) (by kernel_rfl) (fun _ _ _ h => h) (by rfl) ?hvp_7_6 ?restp_7_6
            case hvp_7_6 => (intro w' hb; go_simp; try with_reducible rfl)
            simp only [Act.put, List.setIfInBounds_toArray, List.set_cons_zero, List.set_cons_succ]
            refine wpAnyF_take (i := 8) (v := ?vp_8_7) (some 74) rfl rfl (by kernel_rfl) (by kernel_rfl) (by kernel_rfl) (fun _ _ _ h => h) (by rfl) ?hvp_8_7 ?restp_8_7
            case hvp_8_7 => (intro w' hb; go_simp; try with_reducible rfl)
            simp only [Act.put, List.setIfInBounds_toArray, List.set_cons_zero, List.set_cons_succ]
            refine wpAnyF_take (i := 9) (v := ?vp_9_8) (some 75) rfl rfl (by kernel_rfl) (by kernel_rfl) (by kernel_rfl) (fun _ _ _ h => h) (by rfl) ?hvp_9_8 ?restp_9_8
            case hvp_9_8 => (intro w' hb; go_simp; try with_reducible rfl)
            simp only [Act.put, List.setIfInBounds_toArray, List.set_cons_zero, List.set_cons_succ]
            refine wpAnyF_take (i := 10) (v := ?vp_10_9) (some 76) rfl rfl (by kernel_rfl) (by kernel_rfl) (by kernel_rfl) (fun _ _ _ h => h) (by rfl) ?hvp_10_9 ?restp_10_9
            case hvp_10_9 => (intro w' hb; go_simp; try with_reducible rfl)
            simp only [Act.put, List.setIfInBounds_toArray, List.set_cons_zero, List.set_cons_succ]
            refine wpAnyF_alone (i := 11) rfl (by kernel_rfl) (by rfl) (fun K hK => ?_)
            go_simp
            refine (awake47 a0 a0 w13 (F0.out.later hB13)).mono ?_
            rintro e w14 ⟨rfl, hb14⟩
            have hb : Below w3.heap.size w13 w14 := hb14.mono (by have := hb12.size; have := hb13.size; simp at *; omega)
            have hB14 := chain hB13 hb14
            refine hK.out _ _ hb ?_
            clear hK K
            simp only [List.setIfInBounds_toArray, List.set_cons_zero, List.set_cons_succ]
            refine wpAnyF_take (i := 12) (v := ?vp_12_10) (some 78) rfl rfl (by kernel_rfl) (by kernel_rfl) (by kernel_rfl) (fun _ _ _ h => h) (by rfl) ?hvp_12_10 ?restp_12_10
            case hvp_12_10 => (intro w' hb; go_simp; try with_reducible rfl)
            simp only [Act.put, List.setIfInBounds_toArray, List.set_cons_zero, List.set_cons_succ]
            refine wpAnyF_take (i := 13) (v := ?vp_13_11) (some 4) rfl rfl (by kernel_rfl) (by kernel_rfl) (by kernel_rfl) (fun _ _ _ h => h) (by rfl) ?hvp_13_11 ?restp_13_11
            case hvp_13_11 => (intro w' hb; go_simp; try with_reducible rfl)
            simp only [Act.put, List.setIfInBounds_toArray, List.set_cons_zero, List.set_cons_succ]
            refine wpAnyF_done (by kernel_rfl) ?_ _
            go_wp2
            go_ret
            exact ⟨by simp, hB14⟩
          · obtain ⟨hxo, hxs, hxc⟩ : xo = 0 ∧ xs = none ∧ m ≤ xc := by
              rcases HO.out.2 with ⟨h1, -⟩ | ⟨_, _, _, h1, -, -, h2, -⟩
              · cases h1
              · obtain ⟨h3, h4, rfl⟩ := Value.slice.inj h1
                injection h3 with h3; injection h3 with h5 h6 h7
                exact ⟨h6, h7, by omega⟩
            subst hxo
            subst hxs
            have hxc' : (m : Int) ≤ xc := by omega
            have HSV := hid (fun W (hW : Below wr.heap.size wr W) => (show RRow W (.slice (some ⟨gx, 0, none⟩) m xc) X from by
              have h := rrow_later (rrow_of_rows (base := M) (u := .slice (some ⟨gx, 0, none⟩) m xc) (l := X) (by have := HO.out; exact this) HX11.out) hW
              exact h))
            go_wp2_with fail
            refine HLB.out.mono ?_
            rintro e w2 ⟨v2, rfl, hb2, hown2⟩
            have hr2 := reads_of_owns hown2 (logL_wf HLWF.out HR1.out (by have := HLN.out; omega))
            have HSEAL := hid (show logL rm (ringL R f) = sealL ((logL rm (ringL R f)).take (logB rm (ringL R f)).length) from by unfold logL sealL; rw [List.take_left' rfl])
            have HLEN := hid (show (logL rm (ringL R f)).length = (logB rm (ringL R f)).length + 2 from by unfold logL sealL; rw [List.length_append]; rfl)
            have HBL := hid (logB_len (room := rm) HLWF.out)
            have HB2 := hid (chain HB.out hb2)
            have HL2 := hid (HL.out.below hb2)
            have HS2 := hid hb2
            clear hown2 hb2 HLB
            go_wp2_with fail
            refine (ropen_ok _ _ _ HLEN.out w2 hr2 (by have := HLEN.out; have := HBL.out; have := HLN.out; omega) HSEAL.out).mono ?_
            rintro e w3 ⟨v3, rfl, hb3, -⟩
            have HB3 := hid (chain HB2.out hb3)
            have HL3 := hid (HL2.out.below hb3)
            have HS3 := hid (chain HS2.out hb3)
            clear hb3 hr2 HL2 HB2
            go_wp2_with fail
            refine wp_region_F' (B := w3.heap.size) (n := 14) (l := #[false, false, false, false, false, false, false, false, false, false, false, false, false, false]) (by kernel_rfl) (by kernel_rfl) (by kernel_rfl) ?_
            refine wpAnyF_take (i := 0) (v := ?vq_c_0_1) (some 66) rfl rfl (by kernel_rfl) (by kernel_rfl) (by kernel_rfl) (fun _ _ _ h => h) (by rfl) ?hvq_c_0_1 ?restq_c_0_1
            case hvq_c_0_1 => (intro w' hb; go_simp; try with_reducible rfl)
            simp only [Act.put, List.setIfInBounds_toArray, List.set_cons_zero, List.set_cons_succ]
            refine wpAnyF_take (i := 2) (v := ?vq_c_2_2) (some 68) rfl rfl (by kernel_rfl) (by kernel_rfl) (by kernel_rfl) (fun _ _ _ h => h) (by rfl) ?hvq_c_2_2 ?restq_c_2_2
            case hvq_c_2_2 => (intro w' hb; go_simp; try with_reducible rfl)
            simp only [Act.put, List.setIfInBounds_toArray, List.set_cons_zero, List.set_cons_succ]
            refine wpAnyF_take (i := 3) (v := ?vq_c_3_3) (some 69) rfl rfl (by kernel_rfl) (by kernel_rfl) (by kernel_rfl) (fun _ _ _ h => h) (by rfl) ?hvq_c_3_3 ?restq_c_3_3
            case hvq_c_3_3 => (intro w' hb; go_simp; try with_reducible rfl)
            simp only [Act.put, List.setIfInBounds_toArray, List.set_cons_zero, List.set_cons_succ]
            refine wpAnyF_take (i := 4) (v := ?vq_c_4_4) (some 70) rfl rfl (by kernel_rfl) (by kernel_rfl) (by kernel_rfl) (fun _ _ _ h => h) (by rfl) ?hvq_c_4_4 ?restq_c_4_4
            case hvq_c_4_4 => (intro w' hb; go_simp; try with_reducible rfl)
            simp only [Act.put, List.setIfInBounds_toArray, List.set_cons_zero, List.set_cons_succ]
            refine wpAnyF_alone (i := 1) rfl (by kernel_rfl) (by rfl) (fun K hK => ?_)
            go_simp
            refine (lall_any w3.drew (HL3.out.below ((Below.refl _ w3).drew))).mono ?_
            rintro e w12 ⟨u12, rfl, hb12, hrow12⟩
            have hb : Below w3.heap.size w3.drew w12 := hb12.mono (by simp)
            have hB12 := chain HB3.out (Below.drewl hb)
            have hS12 := chain HS3.out (Below.drewl hb)
            have HR12 := hid (rrow_of_rows hrow12 HLWF.out)
            rw [HRL.out, HLX.out] at HR12
            refine hK.out _ _ hb ?_
            clear hK K
            simp only [List.setIfInBounds_toArray, List.set_cons_zero, List.set_cons_succ]
            refine wpAnyF_alone (i := 5) rfl (by kernel_rfl) (by rfl) (fun K hK => ?_)
            go_simp
            refine (same_arm _ _ X w12 HR12.out (HSV.out w12 hS12) (fun Z hZ => HX11.out Z (hZ)) (by have := HMX.out; omega)).mono ?_
            rintro e w13 ⟨rfl, hb13⟩
            have hb : Below w3.heap.size w12 w13 := hb13.mono (by have := hb12.size; simpa using this)
            have hB13 := chain hB12 hb13
            refine hK.out _ _ hb ?_
            clear hK K
            simp only [List.setIfInBounds_toArray, List.set_cons_zero, List.set_cons_succ]
            refine wpAnyF_take (i := 6) (v := ?vq_c_6_5) (some 72) rfl rfl (by kernel_rfl) (by kernel_rfl) (by kernel_rfl) (fun _ _ _ h => h) (by rfl) ?hvq_c_6_5 ?restq_c_6_5
            case hvq_c_6_5 => (intro w' hb; go_simp; try with_reducible rfl)
            simp only [Act.put, List.setIfInBounds_toArray, List.set_cons_zero, List.set_cons_succ]
            refine wpAnyF_take (i := 7) (v := ?vq_c_7_6) (some 73) rfl rfl (by kernel_rfl) (by kernel_rfl) (by kernel_rfl) (fun _ _ _ h => h) (by rfl) ?hvq_c_7_6 ?restq_c_7_6
            case hvq_c_7_6 => (intro w' hb; go_simp; try with_reducible rfl)
            simp only [Act.put, List.setIfInBounds_toArray, List.set_cons_zero, List.set_cons_succ]
            refine wpAnyF_take (i := 8) (v := ?vq_c_8_7) (some 74) rfl rfl (by kernel_rfl) (by kernel_rfl) (by kernel_rfl) (fun _ _ _ h => h) (by rfl) ?hvq_c_8_7 ?restq_c_8_7
            case hvq_c_8_7 => (intro w' hb; go_simp; try with_reducible rfl)
            simp only [Act.put, List.setIfInBounds_toArray, List.set_cons_zero, List.set_cons_succ]
            refine wpAnyF_take (i := 9) (v := ?vq_c_9_8) (some 75) rfl rfl (by kernel_rfl) (by kernel_rfl) (by kernel_rfl) (fun _ _ _ h => h) (by rfl) ?hvq_c_9_8 ?restq_c_9_8
            case hvq_c_9_8 => (intro w' hb; go_simp; try with_reducible rfl)
            simp only [Act.put, List.setIfInBounds_toArray, List.set_cons_zero, List.set_cons_succ]
            refine wpAnyF_take (i := 10) (v := ?vq_c_10_9) (some 76) rfl rfl (by kernel_rfl) (by kernel_rfl) (by kernel_rfl) (fun _ _ _ h => h) (by rfl) ?hvq_c_10_9 ?restq_c_10_9
            case hvq_c_10_9 => (intro w' hb; go_simp; try with_reducible rfl)
            simp only [Act.put, List.setIfInBounds_toArray, List.set_cons_zero, List.set_cons_succ]
            refine wpAnyF_alone (i := 11) rfl (by kernel_rfl) (by rfl) (fun K hK => ?_)
            go_simp
            refine (awake47 a0 a0 w13 (F0.out.later hB13)).mono ?_
            rintro e w14 ⟨rfl, hb14⟩
            have hb : Below w3.heap.size w13 w14 := hb14.mono (by have := hb12.size; have := hb13.size; simp at *; omega)
            have hB14 := chain hB13 hb14
            refine hK.out _ _ hb ?_
            clear hK K
            simp only [List.setIfInBounds_toArray, List.set_cons_zero, List.set_cons_succ]
            refine wpAnyF_take (i := 12) (v := ?vq_c_12_10) (some 78) rfl rfl (by kernel_rfl) (by kernel_rfl) (by kernel_rfl) (fun _ _ _ h => h) (by rfl) ?hvq_c_12_10 ?restq_c_12_10
            case hvq_c_12_10 => (intro w' hb; go_simp; try with_reducible rfl)
            simp only [Act.put, List.setIfInBounds_toArray, List.set_cons_zero, List.set_cons_succ]
            refine wpAnyF_take (i := 13) (v := ?vq_c_13_11) (some 4) rfl rfl (by kernel_rfl) (by kernel_rfl) (by kernel_rfl) (fun _ _ _ h => h) (by rfl) ?hvq_c_13_11 ?restq_c_13_11
            case hvq_c_13_11 => (intro w' hb; go_simp; try with_reducible rfl)
            simp only [Act.put, List.setIfInBounds_toArray, List.set_cons_zero, List.set_cons_succ]
            refine wpAnyF_done (by kernel_rfl) ?_ _
            go_wp2
            go_ret
            exact ⟨by simp, hB14⟩
        · obtain ⟨n, hn⟩ : ∃ n, n = m - rm := ⟨_, rfl⟩
          have hmr' : (m : Int) - rm = n := by omega
          have hn0 : (0 : Int) < n := by omega
          have hnm : (n : Int) < m := by omega
          have hnm' : n < m := by have := HRM.out; omega
          have HLX := hid (show lastL rm X = X.drop n from LB.out n hn)
          rcases xa with _ | ⟨gx, xo, xs⟩
          · exfalso
            rcases HO.out.2 with ⟨h1, -⟩ | ⟨_, _, _, h1, -⟩
            · obtain ⟨-, h2, h3⟩ := Value.slice.inj h1; omega
            · cases h1
          · obtain ⟨hxo, hxs, hxc⟩ : xo = 0 ∧ xs = none ∧ m ≤ xc := by
              rcases HO.out.2 with ⟨h1, -⟩ | ⟨_, _, _, h1, -, -, h2, -⟩
              · cases h1
              · obtain ⟨h3, h4, rfl⟩ := Value.slice.inj h1
                injection h3 with h3; injection h3 with h5 h6 h7
                exact ⟨h6, h7, by omega⟩
            subst hxo
            subst hxs
            have hxn : ¬ xc = n := by omega
            have hxn' : ¬ (xc : Int) = n := by omega
            have HSV := hid (fun W (hW : Below wr.heap.size wr W) => (show RRow W (.slice (some ⟨gx, n * 11, none⟩) (m - n) (xc - n)) (X.drop n) from by
              have h0 : Rows' M wr (.slice (some ⟨gx, 0, none⟩) X.length xc) X := by rw [← HMX.out]; exact HO.out
              have h := rrow_later (rrow_drop (n := n) h0 HX11.out (by have := HMX.out; omega)) hW
              rw [← HMX.out] at h
              exact h))
            clear hn
            go_wp2_with fail
            refine HLB.out.mono ?_
            rintro e w2 ⟨v2, rfl, hb2, hown2⟩
            have hr2 := reads_of_owns hown2 (logL_wf HLWF.out HR1.out (by have := HLN.out; omega))
            have HSEAL := hid (show logL rm (ringL R f) = sealL ((logL rm (ringL R f)).take (logB rm (ringL R f)).length) from by unfold logL sealL; rw [List.take_left' rfl])
            have HLEN := hid (show (logL rm (ringL R f)).length = (logB rm (ringL R f)).length + 2 from by unfold logL sealL; rw [List.length_append]; rfl)
            have HBL := hid (logB_len (room := rm) HLWF.out)
            have HB2 := hid (chain HB.out hb2)
            have HL2 := hid (HL.out.below hb2)
            have HS2 := hid hb2
            clear hown2 hb2 HLB
            go_wp2_with fail
            refine (ropen_ok _ _ _ HLEN.out w2 hr2 (by have := HLEN.out; have := HBL.out; have := HLN.out; omega) HSEAL.out).mono ?_
            rintro e w3 ⟨v3, rfl, hb3, -⟩
            have HB3 := hid (chain HB2.out hb3)
            have HL3 := hid (HL2.out.below hb3)
            have HS3 := hid (chain HS2.out hb3)
            clear hb3 hr2 HL2 HB2
            go_wp2_with fail
            refine wp_region_F' (B := w3.heap.size) (n := 14) (l := #[false, false, false, false, false, false, false, false, false, false, false, false, false, false]) (by kernel_rfl) (by kernel_rfl) (by kernel_rfl) ?_
            refine wpAnyF_take (i := 0) (v := ?vo_d_0_1) (some 66) rfl rfl (by kernel_rfl) (by kernel_rfl) (by kernel_rfl) (fun _ _ _ h => h) (by rfl) ?hvo_d_0_1 ?resto_d_0_1
            case hvo_d_0_1 => (intro w' hb; go_simp; try with_reducible rfl)
            simp only [Act.put, List.setIfInBounds_toArray, List.set_cons_zero, List.set_cons_succ]
            refine wpAnyF_take (i := 2) (v := ?vo_d_2_2) (some 68) rfl rfl (by kernel_rfl) (by kernel_rfl) (by kernel_rfl) (fun _ _ _ h => h) (by rfl) ?hvo_d_2_2 ?resto_d_2_2
            case hvo_d_2_2 => (intro w' hb; go_simp; try with_reducible rfl)
            simp only [Act.put, List.setIfInBounds_toArray, List.set_cons_zero, List.set_cons_succ]
            refine wpAnyF_take (i := 3) (v := ?vo_d_3_3) (some 69) rfl rfl (by kernel_rfl) (by kernel_rfl) (by kernel_rfl) (fun _ _ _ h => h) (by rfl) ?hvo_d_3_3 ?resto_d_3_3
            case hvo_d_3_3 => (intro w' hb; go_simp; try with_reducible rfl)
            simp only [Act.put, List.setIfInBounds_toArray, List.set_cons_zero, List.set_cons_succ]
            refine wpAnyF_take (i := 4) (v := ?vo_d_4_4) (some 70) rfl rfl (by kernel_rfl) (by kernel_rfl) (by kernel_rfl) (fun _ _ _ h => h) (by rfl) ?hvo_d_4_4 ?resto_d_4_4
            case hvo_d_4_4 => (intro w' hb; go_simp; first | (with_reducible rfl) | (rw [if_pos (Nat.le_of_lt hnm')]))
            simp only [Act.put, List.setIfInBounds_toArray, List.set_cons_zero, List.set_cons_succ]
            refine wpAnyF_alone (i := 1) rfl (by kernel_rfl) (by rfl) (fun K hK => ?_)
            go_simp
            refine (lall_any w3.drew (HL3.out.below ((Below.refl _ w3).drew))).mono ?_
            rintro e w12 ⟨u12, rfl, hb12, hrow12⟩
            have hb : Below w3.heap.size w3.drew w12 := hb12.mono (by simp)
            have hB12 := chain HB3.out (Below.drewl hb)
            have hS12 := chain HS3.out (Below.drewl hb)
            have HR12 := hid (rrow_of_rows hrow12 HLWF.out)
            rw [HRL.out, HLX.out] at HR12
            refine hK.out _ _ hb ?_
            clear hK K
            simp only [List.setIfInBounds_toArray, List.set_cons_zero, List.set_cons_succ]
            refine wpAnyF_alone (i := 5) rfl (by kernel_rfl) (by rfl) (fun K hK => ?_)
            go_simp
            refine (same_arm _ _ (X.drop n) w12 HR12.out (HSV.out w12 hS12) (fun Z hZ => HX11.out Z (List.mem_of_mem_drop hZ)) (by have := HMX.out; rw [List.length_drop]; omega)).mono ?_
            rintro e w13 ⟨rfl, hb13⟩
            have hb : Below w3.heap.size w12 w13 := hb13.mono (by have := hb12.size; simpa using this)
            have hB13 := chain hB12 hb13
            refine hK.out _ _ hb ?_
            clear hK K
            simp only [List.setIfInBounds_toArray, List.set_cons_zero, List.set_cons_succ]
            refine wpAnyF_take (i := 6) (v := ?vo_d_6_5) (some 72) rfl rfl (by kernel_rfl) (by kernel_rfl) (by kernel_rfl) (fun _ _ _ h => h) (by rfl) ?hvo_d_6_5 ?resto_d_6_5
            case hvo_d_6_5 => (intro w' hb; go_simp; try with_reducible rfl)
            simp only [Act.put, List.setIfInBounds_toArray, List.set_cons_zero, List.set_cons_succ]
            refine wpAnyF_take (i := 7) (v := ?vo_d_7_6) (some 73) rfl rfl (by kernel_rfl) (by kernel_rfl) (by kernel_rfl) (fun _ _ _ h => h) (by rfl) ?hvo_d_7_6 ?resto_d_7_6
            case hvo_d_7_6 => (intro w' hb; go_simp; try with_reducible rfl)
            simp only [Act.put, List.setIfInBounds_toArray, List.set_cons_zero, List.set_cons_succ]
            refine wpAnyF_take (i := 8) (v := ?vo_d_8_7) (some 74) rfl rfl (by kernel_rfl) (by kernel_rfl) (by kernel_rfl) (fun _ _ _ h => h) (by rfl) ?hvo_d_8_7 ?resto_d_8_7
            case hvo_d_8_7 => (intro w' hb; go_simp; try with_reducible rfl)
            simp only [Act.put, List.setIfInBounds_toArray, List.set_cons_zero, List.set_cons_succ]
            refine wpAnyF_take (i := 9) (v := ?vo_d_9_8) (some 75) rfl rfl (by kernel_rfl) (by kernel_rfl) (by kernel_rfl) (fun _ _ _ h => h) (by rfl) ?hvo_d_9_8 ?resto_d_9_8
            case hvo_d_9_8 => (intro w' hb; go_simp; try with_reducible rfl)
            simp only [Act.put, List.setIfInBounds_toArray, List.set_cons_zero, List.set_cons_succ]
            refine wpAnyF_take (i := 10) (v := ?vo_d_10_9) (some 76) rfl rfl (by kernel_rfl) (by kernel_rfl) (by kernel_rfl) (fun _ _ _ h => h) (by rfl) ?hvo_d_10_9 ?resto_d_10_9
            case hvo_d_10_9 => (intro w' hb; go_simp; try with_reducible rfl)
            simp only [Act.put, List.setIfInBounds_toArray, List.set_cons_zero, List.set_cons_succ]
            refine wpAnyF_alone (i := 11) rfl (by kernel_rfl) (by rfl) (fun K hK => ?_)
            go_simp
            refine (awake47 a0 a0 w13 (F0.out.later hB13)).mono ?_
            rintro e w14 ⟨rfl, hb14⟩
            have hb : Below w3.heap.size w13 w14 := hb14.mono (by have := hb12.size; have := hb13.size; simp at *; omega)
            have hB14 := chain hB13 hb14
            refine hK.out _ _ hb ?_
            clear hK K
            simp only [List.setIfInBounds_toArray, List.set_cons_zero, List.set_cons_succ]
            refine wpAnyF_take (i := 12) (v := ?vo_d_12_10) (some 78) rfl rfl (by kernel_rfl) (by kernel_rfl) (by kernel_rfl) (fun _ _ _ h => h) (by rfl) ?hvo_d_12_10 ?resto_d_12_10
            case hvo_d_12_10 => (intro w' hb; go_simp; try with_reducible rfl)
            simp only [Act.put, List.setIfInBounds_toArray, List.set_cons_zero, List.set_cons_succ]
            refine wpAnyF_take (i := 13) (v := ?vo_d_13_11) (some 4) rfl rfl (by kernel_rfl) (by kernel_rfl) (by kernel_rfl) (fun _ _ _ h => h) (by rfl) ?hvo_d_13_11 ?resto_d_13_11
            case hvo_d_13_11 => (intro w' hb; go_simp; try with_reducible rfl)
            simp only [Act.put, List.setIfInBounds_toArray, List.set_cons_zero, List.set_cons_succ]
            refine wpAnyF_done (by kernel_rfl) ?_ _
            go_wp2
            go_ret
            exact ⟨by simp, hB14⟩
  · have AW := hid (awake47 a0 a0 w F0.out)
    go_enter Tryd.func18, Tryd.ntmps18
    by_cases g1 : 40 < N
    · have g1' : (40 : Int) < N := by omega
      clear hgd
      go_wp2_with fail
      refine AW.out.mono ?_
      rintro e w2 ⟨rfl, hb2⟩
      go_wp2
      go_ret
      exact ⟨rfl, hb2⟩
    · have g1' : ¬ (40 : Int) < N := by omega
      by_cases g2 : room < 1
      · clear hgd
        go_wp2_with fail
        refine AW.out.mono ?_
        rintro e w2 ⟨rfl, hb2⟩
        go_wp2
        go_ret
        exact ⟨rfl, hb2⟩
      · have g3 : 40 < room := by omega
        clear hgd
        go_wp2_with fail
        refine AW.out.mono ?_
        rintro e w2 ⟨rfl, hb2⟩
        go_wp2
        go_ret
        exact ⟨rfl, hb2⟩
end Go.Proofs.YtecbfegohdllbaaDoor
