/- Texts of this proof, merged: Burst Span Flip. -/
import Derived.Test.YtecbfegohdllbaaDoorPackE
import Derived.Test.YtecbfegohdllbaaDoorPackA
section
/- The reference of layer 12 (burst), as far as the layers above use it: bit, Places, Span, Flip. -/
namespace Go.Proofs.YtecbfegohdllbaaDoor
open Go.RowKit
set_option linter.unusedVariables false
set_option linter.unusedSimpArgs false
/-- bit k of bytes, the highest first -/
def bitL (L : List Int) (k : Nat) : Int := L.getD (k / 8) 0 / 2 ^ (7 - k % 8) % 2
set_option maxRecDepth 20000 in
theorem rbit_any (v : Value) (L : List Int) (k : Nat) (w : World) (hr : Reads .u8 w v L) (hk : k < 8 * L.length) (hL : L.length ≤ 1000000) :
    Calls Tryd.prog 69 #[v, .int .i64 k] w fun e w' => e = .returned (.int .i64 (bitL L k)) ∧ w = w' := by
  have hq : k / 8 < L.length := by omega
  have hwf := bd_u8 (Reads.wf hr (L[k / 8]) (List.getElem_mem _))
  obtain ⟨b, off, c, rfl, h1, h2, hlt, hcell⟩ := hr.plain (by omega)
  have hc : w.cell? ⟨b, off + k / 8, none⟩ = some (.int .u8 L[k / 8]) := hcell _ hq
  obtain ⟨q, hqq⟩ : ∃ q, q = k / 8 := ⟨_, rfl⟩
  have e0 : bitL L k = L[k / 8] / 2 ^ (7 - k % 8) % 2 := by unfold bitL; rw [List.getD_eq_getElem?_getD, List.getElem?_eq_getElem hq]; rfl
  rw [e0]
  clear hcell e0 hr
  have hq' : (q : Int) < (L.length : Int) := by omega
  generalize L[k / 8] = B at *
  rw [← hqq] at hc hq
  obtain ⟨r, hrr⟩ : ∃ r, r = k % 8 := ⟨_, rfl⟩
  have hr8 : r < 8 := by omega
  have e1 : (k : Int) / 8 = (q : Int) := by omega
  have e2 : (k : Int) % 8 = (r : Int) := by omega
  have e3 : wrap64 (q : Int) = (q : Int) := by unfold wrap64; omega
  rw [← hrr]
  generalize L.length = n at *
  have HN := hid hL
  have H1 := hid h1
  have H2 := hid h2
  clear hL h1 h2 hqq hrr
  go_enter Tryd.func69, Tryd.ntmps69
  go_wp2_with fail
  go_loopw [5, 6] (fun x i wr => ∃ j : Nat, r ≤ j ∧ j ≤ 7 ∧ i = .int .i64 j ∧ x = .int .i64 (B / 2 ^ (j - r)) ∧ wr = w) (fun _ i _ => 7 - (intOf i).toNat)
  case atStart => exact ⟨r, Nat.le_refl _, by omega, by rw [e2], by rw [Nat.sub_self]; simp, rfl⟩
  case round =>
    obtain ⟨j, hj1, hj2, rfl, rfl, rfl⟩ := hrel
    by_cases hlt7 : j < 7
    · have hj' : (j : Int) < 7 := by omega
      have hx : 0 ≤ B / 2 ^ (j - r) ∧ B / 2 ^ (j - r) ≤ 255 := by
        have h0 := Int.ediv_nonneg hwf.1 (show (0 : Int) ≤ 2 ^ (j - r) from Int.pow_nonneg (by decide))
        have h1 := Int.ediv_le_self (2 ^ (j - r)) hwf.1
        omega
      have hn : B / 2 ^ (j + 1 - r) = B / 2 ^ (j - r) / 2 := by
        rw [show j + 1 - r = (j - r) + 1 by omega, Int.pow_succ, Int.ediv_ediv_of_nonneg (Int.pow_nonneg (by decide))]
      generalize B / 2 ^ (j - r) = x at *
      go_wp2_with fail
      exact ⟨⟨j + 1, by omega, by omega, by go_num, by rw [hn], trivial⟩, by simp [intOf]; omega⟩
    · obtain rfl : j = 7 := by omega
      have et : (B / 2 ^ (7 - r)).tmod 2 = B / 2 ^ (7 - r) % 2 := Int.tmod_eq_emod_of_nonneg (Int.ediv_nonneg hwf.1 (Int.pow_nonneg (by decide)))
      go_wp2_with fail
      go_ret
      exact ⟨rfl, rfl⟩
theorem bitL_bd (L : List Int) (k : Nat) : 0 ≤ bitL L k ∧ bitL L k ≤ 1 := by unfold bitL; omega
/-- the places below i where two texts differ -/
def PlacesOK (A B : List Int) (i : Nat) (M : List Int) : Prop := (M = [] ↔ ∀ j, j < i → bitL A j = bitL B j) ∧ ∀ x ∈ M, M.headD 0 ≤ x ∧ 0 ≤ M.headD 0 ∧ x < (i : Int)
theorem places_same {A B M : List Int} {i : Nat} (h : PlacesOK A B i M) (e : bitL A i = bitL B i) : PlacesOK A B (i + 1) M := by
  refine ⟨⟨fun hM j hj => ?_, fun hj => h.1.2 fun j h1 => hj j (by omega)⟩, fun x hx => ?_⟩
  · by_cases h1 : j = i
    · subst h1; exact e
    · exact h.1.1 hM j (by omega)
  · have := h.2 x hx; omega
theorem places_more {A B M : List Int} {i : Nat} (h : PlacesOK A B i M) (e : bitL A i ≠ bitL B i) : PlacesOK A B (i + 1) (M ++ [(i : Int)]) := by
  refine ⟨⟨fun hM => absurd hM (by simp), fun hj => absurd (hj i (by omega)) e⟩, fun x hx => ?_⟩
  rcases M with _ | ⟨m, M⟩
  · simp at hx; subst hx; simp; omega
  · have h0 := h.2 m (by simp)
    simp only [List.headD_cons] at h0
    simp only [List.cons_append, List.headD_cons]
    rcases List.mem_append.1 (show x ∈ (m :: M) ++ [(i : Int)] from hx) with hx | hx
    · have := h.2 x hx; simp only [List.headD_cons] at this; omega
    · simp at hx; subst hx; omega
theorem Tryd.infoInt : (Tryd.prog.info? 3).map (fun i => (i.zero, i.size, i.bytes)) = some (some (.int .i64 0), 1, 8) := by kernel_rfl
set_option maxRecDepth 20000 in
theorem rplaces_any (va vb : Value) (A B : List Int) (w : World) (ra : Reads .u8 w va A) (rb : Reads .u8 w vb B) (hlen : A.length = B.length) (hL : A.length ≤ 1000000) :
    Calls Tryd.prog 70 #[va, vb] w fun e w' => ∃ v M, e = .returned v ∧ Below w.heap.size w w' ∧ w'.ownsRow w.heap.size 3 1 v M.length (M.map (Value.int .i64)) ∧ PlacesOK A B (8 * A.length) M ∧ M.length ≤ 8 * A.length := by
  obtain ⟨i0, hi, hz0, hz1, hz2⟩ := info_parts Tryd.infoInt
  have BA := hid (fun (k : Nat) (hk : k < 8 * A.length) (w1 : World) (hb : Below w.heap.size w w1) => rbit_any va A k w1 (ra.later hb) hk hL)
  have BB := hid (fun (k : Nat) (hk : k < 8 * A.length) (w1 : World) (hb : Below w.heap.size w w1) => rbit_any vb B k w1 (rb.later hb) (by omega) (by omega))
  obtain ⟨aa, ca, rfl, _⟩ := id ra
  obtain ⟨ab, cb, rfl, _⟩ := id rb
  rw [← hlen] at BB ⊢
  clear ra rb hlen
  have HL := hid hL
  clear hL
  obtain ⟨n, hn⟩ : ∃ n, n = A.length := ⟨_, rfl⟩
  rw [← hn] at BA BB HL ⊢
  clear hn
  have e8 : wrap64 (8 * (n : Int)) = 8 * (n : Int) := by have := HL.out; unfold wrap64; omega
  go_enter Tryd.func70, Tryd.ntmps70
  go_wp2_with fail
  go_loopw [5, 6] (fun v i wr => ∃ (j : Nat) (M : List Int), j ≤ 8 * n ∧ i = .int .i64 j ∧ wr.ownsRow w.heap.size 3 1 v M.length (M.map (Value.int .i64)) ∧ PlacesOK A B j M ∧ M.length ≤ j ∧ Below w.heap.size w wr) (fun _ i _ => 8 * n - (intOf i).toNat)
  case atStart => exact ⟨0, [], by omega, rfl, World.ownsRow_nil _ _ _ _, ⟨by simp, by simp⟩, Nat.le_refl _, Below.refl _ _⟩
  case round =>
    obtain ⟨j, M, hj, rfl, hown, hPO, hM, hwr⟩ := hrel
    by_cases hlt : j < 8 * n
    · have hlt' : (j : Int) < 8 * (n : Int) := by omega
      have HP := hid hPO
      have HM := hid hM
      have e9 : wrap64 ((j : Int) + 1) = (j : Int) + 1 := by have := HL.out; unfold wrap64; omega
      clear hPO hM
      go_wp2_with fail
      refine (BA.out j hlt _ hwr).mono ?_
      rintro e w2 ⟨rfl, rfl⟩
      have hbA := bitL_bd A j
      have hbB := bitL_bd B j
      go_wp2_with fail
      refine (BB.out j hlt _ hwr).mono ?_
      rintro e w2 ⟨rfl, rfl⟩
      by_cases he : bitL A j = bitL B j
      · have HS := hid (places_same HP.out he)
        rw [he]
        go_wp2_with fail
        rw [e9]
        clear e8 e9
        exact ⟨⟨j + 1, M, by omega, by go_num, hown, HS.out, by have := HM.out; omega, hwr⟩, by simp [intOf]; omega⟩
      · have HS := hid (places_more HP.out he)
        go_wp2_with (at_builtin; refine wpList_append_own _ rfl _ _ 98 rfl w.heap.size 3 i0 (.int .i64 0) 1 8 Tryd.underlying98 hi hz0 hz1 hz2 rfl (by decide) _ _ _ rfl (hown.alloc _) ⟨wr.heap.size, 0, none⟩ 1 1 [.int .i64 (j : Int)] rfl rfl ?c1 ?c2 ?c3 ?c4 ?c5 ?_)
        case c1 =>
          intro i u hi
          rcases i with _ | i <;> simp at hi
          subst hi
          simp [add_plain]
        case c2 => simp [Value.oneCell']
        case c3 => clear e8 e9; have := HM.out; have := HL.out; simp [maxLen]; omega
        case c4 => clear e8 e9; have := HM.out; have := HL.out; omega
        case c5 => clear e8 e9; simp; have := hwr.size; omega
        intro v' w5 hown5 hg5 _
        have hb5 : Below w.heap.size w w5 := (hwr.alloc hwr.size _).grown hg5 (by clear e8 e9; simp; have := hwr.size; omega) (fun k e => (hown.lt k e).1)
        go_wp2_with fail
        rw [e9]
        clear e8 e9
        exact ⟨⟨j + 1, M ++ [(j : Int)], by omega, by go_num, by simpa using hown5, HS.out, by have := HM.out; simp; omega, hb5⟩, by simp [intOf]; omega⟩
    · obtain rfl : j = 8 * n := by omega
      have HP := hid hPO
      have HM := hid hM
      clear hPO hM
      go_wp2_with fail
      go_ret
      exact ⟨_, M, rfl, hwr, hown, HP.out, HM.out⟩
end Go.Proofs.YtecbfegohdllbaaDoor
end
section
/- The reference's Span (layer 12): 0 exactly where two texts are one. -/
namespace Go.Proofs.YtecbfegohdllbaaDoor
open Go.RowKit
set_option linter.unusedVariables false
set_option linter.unusedSimpArgs false
theorem byte_bits (x y : Int) (hx : 0 ≤ x ∧ x ≤ 255) (hy : 0 ≤ y ∧ y ≤ 255) (h : ∀ r : Nat, r < 8 → x / 2 ^ (7 - r) % 2 = y / 2 ^ (7 - r) % 2) : x = y := by
  have h0 := h 0 (by decide)
  have h1 := h 1 (by decide)
  have h2 := h 2 (by decide)
  have h3 := h 3 (by decide)
  have h4 := h 4 (by decide)
  have h5 := h 5 (by decide)
  have h6 := h 6 (by decide)
  have h7 := h 7 (by decide)
  simp only [Nat.sub_zero, Nat.reduceSub, Int.reducePow] at h0 h1 h2 h3 h4 h5 h6 h7
  omega
theorem bits_same {A B : List Int} (hl : A.length = B.length) (ha : ∀ x ∈ A, 0 ≤ x ∧ x ≤ 255) (hb : ∀ x ∈ B, 0 ≤ x ∧ x ≤ 255) (h : ∀ j, j < 8 * A.length → bitL A j = bitL B j) : A = B := by
  refine List.ext_getElem hl fun i h1 h2 => ?_
  refine byte_bits _ _ (ha _ (List.getElem_mem h1)) (hb _ (List.getElem_mem h2)) fun r hr => ?_
  have := h (8 * i + r) (by omega)
  unfold bitL at this
  rw [show (8 * i + r) / 8 = i by omega, show (8 * i + r) % 8 = r by omega] at this
  simpa [List.getD_eq_getElem?_getD, List.getElem?_eq_getElem h1, List.getElem?_eq_getElem h2] using this
theorem i64_wf {x : Int} (h : -9223372036854775808 ≤ x ∧ x ≤ 9223372036854775807) : (Lit.int .i64 x).wf = true := by
  simp [Lit.wf, IntKind.min, IntKind.max, IntKind.signed, IntKind.bits]; omega
set_option maxRecDepth 20000 in
set_option maxHeartbeats 1000000 in
theorem rspan_any (va vb : Value) (A B : List Int) (w : World) (ra : Reads .u8 w va A) (rb : Reads .u8 w vb B) (hlen : A.length = B.length) (hL : A.length ≤ 1000000) :
    Calls Tryd.prog 35 #[va, vb] w fun e w' => ∃ s : Int, e = .returned (.int .i64 s) ∧ (s = 0 ↔ A = B) ∧ Below w.heap.size w w' := by
  have SM := hid (fun h => bits_same hlen (fun x hx => bd_u8 (Reads.wf ra x hx)) (fun x hx => bd_u8 (Reads.wf rb x hx)) h)
  have PL := hid (rplaces_any va vb A B w ra rb hlen hL)
  obtain ⟨aa, ca, rfl, _⟩ := id ra
  obtain ⟨ab, cb, rfl, _⟩ := id rb
  rw [← hlen] at PL ⊢
  clear ra rb hlen
  have HL := hid hL
  clear hL
  obtain ⟨n, hn⟩ : ∃ n, n = A.length := ⟨_, rfl⟩
  rw [← hn] at PL HL SM ⊢
  clear hn
  go_enter Tryd.func35, Tryd.ntmps35
  go_wp2_with fail
  refine PL.out.mono ?_
  rintro e w2 ⟨v, M, rfl, hb2, hown, hPO, hM⟩
  have HS : Hid (M = [] ↔ A = B) := hid ⟨fun h => SM.out (hPO.1.1 h), fun h => hPO.1.2 (by rw [h]; simp)⟩
  by_cases h0 : M = []
  · have HAB := hid (HS.out.1 h0)
    subst h0
    obtain ⟨ap, cp, rfl⟩ : ∃ a cp, v = .slice a 0 cp := by
      obtain ⟨_, ⟨h, _⟩ | ⟨g, cap, cur, h, _⟩⟩ := id hown
      · exact ⟨_, _, h⟩
      · exact ⟨_, _, h⟩
    clear hown hPO hM HS
    go_wp2_with fail
    go_ret
    exact ⟨0, rfl, ⟨fun _ => HAB.out, fun _ => rfl⟩, hb2⟩
  · have hM0 : 0 < M.length := List.length_pos_iff.2 h0
    have bnd : ∀ x ∈ M, M.headD 0 ≤ x ∧ 0 ≤ M.headD 0 ∧ x < 8000000 := fun x hx => by have := hPO.2 x hx; have := HL.out; omega
    have hr := reads_of_owns hown (fun x hx => i64_wf (by have := bnd x hx; omega))
    obtain ⟨g, off, c, rfl, h1, h2, hlt, hcell⟩ := hr.plain hM0
    have HN : Hid (A ≠ B) := hid (fun h => h0 (HS.out.2 h))
    have cl : w2.cell? ⟨g, off + (M.length - 1), none⟩ = some (.int .i64 (M[M.length - 1]'(by omega))) := hcell _ (by omega)
    have cf : w2.cell? ⟨g, off, none⟩ = some (.int .i64 (M.headD 0)) := by
      have := hcell 0 hM0
      rw [Nat.add_zero] at this
      rw [this]; cases M with
      | nil => exact absurd rfl h0
      | cons m M => rfl
    have hb := bnd _ (List.getElem_mem (show M.length - 1 < M.length by omega))
    clear hcell hr hown bnd HS SM hPO
    generalize M.headD 0 = f at *
    generalize M[M.length - 1]'(by omega) = l at *
    obtain ⟨m, hm⟩ : ∃ m, M.length = m + 1 := ⟨M.length - 1, by omega⟩
    rw [hm, Nat.add_sub_cancel] at cl
    rw [hm]
    rw [hm] at h1 hM
    clear hM0 h0
    have e1 : IntKind.i64.wrap (((m + 1 : Nat) : Int) - 1) = (m : Int) := by have := HL.out; rw [IntWalk.i64_in _ (by omega)]; omega
    have e0 : IntKind.i64.wrap (m : Int) = (m : Int) := by have := HL.out; rw [IntWalk.i64_in _ (by omega)]
    have hlm : (m : Int) < (m : Int) + 1 := by omega
    have e2 : IntKind.i64.wrap (1 + l) = 1 + l := by rw [IntWalk.i64_in _ (by omega)]
    have e3 : IntKind.i64.wrap (1 + l - f) = 1 + l - f := by rw [IntWalk.i64_in _ (by omega)]
    have hne : ¬ (m : Int) + 1 = 0 := by omega
    have H1 := hid hb
    have H2 := hid hM
    have H3 := hid h1
    have H4 := hid h2
    clear hb hM h1 h2 hm M
    go_wp2_with fail
    refine wp_region_F' (B := w2.heap.size) (n := 12) (l := #[false, false, false, false, false, false, false, false, false, false, false, false]) (by kernel_rfl) (by kernel_rfl) (by kernel_rfl) ?_
    refine wpAnyF_take (i := 0) (v := ?vr0_1) (some 17) rfl rfl (by kernel_rfl) (by kernel_rfl) (by kernel_rfl) (fun _ _ _ h => h) (by rfl) ?hvr0_1 ?restr0_1
    case hvr0_1 => (intro w' hb; go_simp; try with_reducible rfl)
    simp only [Act.put, List.setIfInBounds_toArray, List.set_cons_zero, List.set_cons_succ]
    refine wpAnyF_take (i := 1) (v := ?vr1_2) (some 18) rfl rfl (by kernel_rfl) (by kernel_rfl) (by kernel_rfl) (fun _ _ _ h => h) (by rfl) ?hvr1_2 ?restr1_2
    case hvr1_2 => (intro w' hb; go_simp; try with_reducible rfl)
    simp only [Act.put, List.setIfInBounds_toArray, List.set_cons_zero, List.set_cons_succ]
    refine wpAnyF_take (i := 2) (v := ?vr2_3) (some 19) rfl rfl (by kernel_rfl) (by kernel_rfl) (by kernel_rfl) (fun _ _ _ h => h) (by rfl) ?hvr2_3 ?restr2_3
    case hvr2_3 => (intro w' hb; go_simp; try with_reducible rfl)
    simp only [Act.put, List.setIfInBounds_toArray, List.set_cons_zero, List.set_cons_succ]
    refine wpAnyF_take (i := 3) (v := ?vr3_4) (some 20) rfl rfl (by kernel_rfl) (by kernel_rfl) (by kernel_rfl) (fun _ _ _ h => h) (by rfl) ?hvr3_4 ?restr3_4
    case hvr3_4 => (intro w' hb; go_simp; try with_reducible rfl)
    simp only [Act.put, List.setIfInBounds_toArray, List.set_cons_zero, List.set_cons_succ]
    refine wpAnyF_take (i := 4) (v := ?vr4_5) (some 21) rfl rfl (by kernel_rfl) (by kernel_rfl) (by kernel_rfl) (fun _ _ _ h => h) (by rfl) ?hvr4_5 ?restr4_5
    case hvr4_5 => (intro w' hb; go_simp; try with_reducible rfl)
    simp only [Act.put, List.setIfInBounds_toArray, List.set_cons_zero, List.set_cons_succ]
    refine wpAnyF_take (i := 5) (v := ?vr5_6) (some 22) rfl rfl (by kernel_rfl) (by kernel_rfl) (by kernel_rfl) (fun _ _ _ h => h) (by rfl) ?hvr5_6 ?restr5_6
    case hvr5_6 => (intro w' hb; (have hcw := ((((Below.refl _ w2).drew).trans hb).cell (p := ⟨g, off + m, none⟩) hlt).trans cl; go_simp; try with_reducible rfl))
    simp only [Act.put, List.setIfInBounds_toArray, List.set_cons_zero, List.set_cons_succ]
    refine wpAnyF_take (i := 6) (v := ?vr6_7) (some 23) rfl rfl (by kernel_rfl) (by kernel_rfl) (by kernel_rfl) (fun _ _ _ h => h) (by rfl) ?hvr6_7 ?restr6_7
    case hvr6_7 => (intro w' hb; go_simp; try with_reducible rfl)
    simp only [Act.put, List.setIfInBounds_toArray, List.set_cons_zero, List.set_cons_succ]
    refine wpAnyF_take (i := 7) (v := ?vr7_8) (some 24) rfl rfl (by kernel_rfl) (by kernel_rfl) (by kernel_rfl) (fun _ _ _ h => h) (by rfl) ?hvr7_8 ?restr7_8
    case hvr7_8 => (intro w' hb; go_simp; try with_reducible rfl)
    simp only [Act.put, List.setIfInBounds_toArray, List.set_cons_zero, List.set_cons_succ]
    refine wpAnyF_take (i := 8) (v := ?vr8_9) (some 25) rfl rfl (by kernel_rfl) (by kernel_rfl) (by kernel_rfl) (fun _ _ _ h => h) (by rfl) ?hvr8_9 ?restr8_9
    case hvr8_9 => (intro w' hb; go_simp; try with_reducible rfl)
    simp only [Act.put, List.setIfInBounds_toArray, List.set_cons_zero, List.set_cons_succ]
    refine wpAnyF_take (i := 9) (v := ?vr9_10) (some 26) rfl rfl (by kernel_rfl) (by kernel_rfl) (by kernel_rfl) (fun _ _ _ h => h) (by rfl) ?hvr9_10 ?restr9_10
    case hvr9_10 => (intro w' hb; (have hcw := ((((Below.refl _ w2).drew).trans hb).cell (p := ⟨g, off, none⟩) hlt).trans cf; go_simp; try with_reducible rfl))
    simp only [Act.put, List.setIfInBounds_toArray, List.set_cons_zero, List.set_cons_succ]
    refine wpAnyF_take (i := 10) (v := ?vr10_11) (some 27) rfl rfl (by kernel_rfl) (by kernel_rfl) (by kernel_rfl) (fun _ _ _ h => h) (by rfl) ?hvr10_11 ?restr10_11
    case hvr10_11 => (intro w' hb; go_simp; try with_reducible rfl)
    simp only [Act.put, List.setIfInBounds_toArray, List.set_cons_zero, List.set_cons_succ]
    refine wpAnyF_take (i := 11) (v := ?vr11_12) (some 4) rfl rfl (by kernel_rfl) (by kernel_rfl) (by kernel_rfl) (fun _ _ _ h => h) (by rfl) ?hvr11_12 ?restr11_12
    case hvr11_12 => (intro w' hb; go_simp; try with_reducible rfl)
    simp only [Act.put, List.setIfInBounds_toArray, List.set_cons_zero, List.set_cons_succ]
    refine wpAnyF_done (by kernel_rfl) ?_ _
    go_wp2
    go_ret
    exact ⟨1 + l - f, rfl, ⟨fun h => absurd h (by have := H1.out; omega), fun h => absurd h HN.out⟩, hb2.drew⟩
end Go.Proofs.YtecbfegohdllbaaDoor
end
section
/- The reference's Flip (layer 12): what a burst makes of the sum of layer 11. -/
namespace Go.Proofs.YtecbfegohdllbaaDoor
open Go.RowKit
set_option linter.unusedVariables false
set_option linter.unusedSimpArgs false
theorem flip_bit : ∀ x : Fin 256, ∀ r : Fin 8, (x.val / 2 ^ (7 - r.val) % 2 = 1 → 2 ^ (7 - r.val) ≤ x.val ∧ x.val - 2 ^ (7 - r.val) = x.val ^^^ (128 >>> r.val)) ∧ (x.val / 2 ^ (7 - r.val) % 2 ≠ 1 → x.val + 2 ^ (7 - r.val) = x.val ^^^ (128 >>> r.val)) ∧ x.val ^^^ (128 >>> r.val) < 256 := by decide +kernel
/-- what a burst leaves: the numbers, and what they say of the sum -/
def FlipOK (L l : List Int) (y : BitVec 16) (N : Nat) : Prop := l.length = L.length ∧ (∀ x ∈ l, (Lit.int .u8 x).wf = true) ∧ crcOf l = crcOf L ^^^ it N y ∧ (y = 0#16 → l = L)
theorem flip_more {L l : List Int} {y : BitVec 16} {T : Int} {k q r : Nat} {x : Nat} (h : FlipOK L l y (8 * (L.length : Int) - T).toNat) (hlow : ∀ j, j < 16 - k → y.getLsbD j = false) (hk : k < 16)
    (hq : q < L.length) (hr : r < 8) (hT : T + (k : Int) = ((8 * q + r : Nat) : Int)) (hx : l[q]? = some (x : Int)) (hx' : x < 256) :
    FlipOK L (l.set q ((x ^^^ (128 >>> r) : Nat) : Int)) (y ^^^ BitVec.ofNat 16 (32768 >>> k)) (8 * (L.length : Int) - T).toNat ∧ (∀ j, j < 16 - (k + 1) → (y ^^^ BitVec.ofNat 16 (32768 >>> k)).getLsbD j = false) := by
  obtain ⟨h1, h2, h3, h4⟩ := h
  have hb := ((flip_bit ⟨x, hx'⟩ ⟨r, hr⟩).2).2
  simp only at hb
  have hql : q < l.length := by omega
  refine ⟨⟨by simpa using h1, ?_, ?_, ?_⟩, ?_⟩
  · intro z hz
    rcases List.mem_or_eq_of_mem_set hz with hz | rfl
    · exact h2 z hz
    · apply u8_wf <;> omega
  · show crcFrom 65535#16 _ = _
    rw [crc_flip 65535#16 l q r hql hr x (by rw [List.getElem?_eq_getElem hql] at hx; exact Option.some.inj hx), show crcFrom 65535#16 l = crcOf l from rfl, h3, it_xor, BitVec.xor_assoc]
    congr 2
    rw [h1, show (8 * (L.length : Int) - T).toNat = (8 * L.length - (8 * q + r)) + k by omega, it_add, win_bit ⟨k, hk⟩]
  · intro e0
    have hyt : (y ^^^ BitVec.ofNat 16 (32768 >>> k)).getLsbD (15 - k) = true := by
      rw [BitVec.getLsbD_xor, hlow (15 - k) (by omega), win_top ⟨k, hk⟩]; rfl
    rw [e0] at hyt
    simp at hyt
  · intro j hj
    rw [BitVec.getLsbD_xor, hlow j (by omega), win_low ⟨k, hk⟩ ⟨j, by omega⟩ (by show j < 15 - k; omega)]; rfl
set_option maxRecDepth 20000 in
set_option maxHeartbeats 1000000 in
theorem rflip_any (v : Value) (L : List Int) (T X : Int) (w : World) (hr : Reads .u8 w v L) (h0 : 0 < L.length) (hL : L.length ≤ 1000000) (hT : -9223372036854775808 ≤ T ∧ T ≤ 9223372036854775807) (hX : 0 ≤ X ∧ X ≤ 65535) :
    Calls Tryd.prog 34 #[v, .int .i64 T, .int .u16 X] w fun e w' => ∃ v' l y, e = .returned v' ∧ Below w.heap.size w w' ∧ w'.ownsRow w.heap.size 5 1 v' L.length (vU8 l) ∧ FlipOK L l y (8 * (L.length : Int) - T).toNat := by
  obtain ⟨i0, hi, hz0, hz1, hz2⟩ := info_parts Tryd.infoU8
  have WF := hid (Reads.wf hr)
  have R := hid hr
  obtain ⟨a, c, rfl, -, hm, -⟩ := id hr
  have HL := hid hL
  have H0 := hid h0
  clear hr hL hm h0
  obtain ⟨n, hn⟩ : ∃ n, n = L.length := ⟨_, rfl⟩
  have HN := hid hn
  rw [← hn] at HL H0 ⊢
  clear hn
  have e8 : wrap64 (8 * (n : Int)) = 8 * (n : Int) := by have := HL.out; unfold wrap64; omega
  go_enter Tryd.func34, Tryd.ntmps34
  go_wp2_with (at_builtin; refine wpList_append_reads rfl _ _ 22 rfl w.heap.size 5 i0 (.int .u8 0) .u8 1 Tryd.underlying22 hi hz0 hz1 hz2 rfl _ _ _ rfl (ownsRow_nil _ _ _) (.slice a n c) L rfl ?c1 ?c2 ?c3 ?c4 ?_)
  case c1 => have := R.out; rw [← HN.out] at this; exact this
  case c2 => clear e8; have := HL.out; have := HN.out; simp [maxLen]; omega
  case c3 => clear e8; have := HL.out; have := HN.out; omega
  case c4 => exact Nat.le_refl _
  intro v1 w1 hown1 hg1
  have hb1 : Below w.heap.size w w1 := (Below.refl w.heap.size w).grown hg1 (Nat.le_refl _) (fun k e => by simp [Value.ownBlock] at e)
  clear hg1
  rw [← HN.out] at hown1
  obtain ⟨gb, cap, hgb, rfl, hcap⟩ : ∃ gb cap, w.heap.size ≤ gb ∧ v1 = .slice (some ⟨gb, 0, none⟩) n cap ∧ n ≤ cap := by
    obtain ⟨_, h⟩ := id hown1
    rcases h with ⟨_, h⟩ | ⟨g, cap, cur, h1, h2, h3, h4, _⟩
    · have := H0.out; omega
    · exact ⟨g, cap, h2, h1, h4⟩
  go_wp2_with fail
  go_loopw [8, 9] (fun x i wr => ∃ (k : Nat) (l : List Int) (y : BitVec 16) (xv : Int), k ≤ 16 ∧ i = .int .i64 k ∧ x = .int .i64 xv ∧ 0 ≤ xv ∧ xv ≤ 65535 ∧ wr.ownsRow w.heap.size 5 1 (.slice (some ⟨gb, 0, none⟩) n cap) n (vU8 l) ∧
    FlipOK L l y (8 * (n : Int) - T).toNat ∧ (∀ j, j < 16 - k → y.getLsbD j = false) ∧ Below w.heap.size w wr) (fun _ i _ => 16 - (intOf i).toNat)
  case atStart => exact ⟨0, L, 0#16, X, by omega, rfl, rfl, hX.1, hX.2, hown1, ⟨rfl, WF.out, by rw [it_zero, BitVec.xor_zero], fun _ => rfl⟩, by simp, hb1⟩
  case round =>
    obtain ⟨k, l, y, xv, hk, rfl, rfl, hx0, hx1, hown, hF, hy, hwr⟩ := hrel
    have HF := hid hF
    have HY := hid hy
    clear hF hy hown1 hb1
    by_cases hlt : k < 16
    · have hlt' : (k : Int) < 16 := by omega
      have x1 : wrap64 (2 * xv) = 2 * xv := by unfold wrap64; omega
      have x2 : (2 * xv).tmod 65536 = (2 * xv) % 65536 := Int.tmod_eq_emod_of_nonneg (by omega)
      have x3 : 0 ≤ (2 * xv) % 65536 ∧ (2 * xv) % 65536 ≤ 65535 := by omega
      generalize (2 * xv) % 65536 = xn at *
      obtain ⟨x4, x5⟩ := x3
      have X4 := hid x4
      have X5 := hid x5
      clear x4 x5 hx1
      by_cases c1 : 8 * (n : Int) < T
      · go_wp2_with fail
        clear x1 e8; exact ⟨⟨k + 1, l, y, xn, by omega, by go_num, rfl, X4.out, X5.out, hown, HF.out, fun j hj => HY.out j (by omega), hwr⟩, by simp [intOf]; omega⟩
      by_cases c2 : T < -16
      · go_wp2_with fail
        clear x1 e8; exact ⟨⟨k + 1, l, y, xn, by omega, by go_num, rfl, X4.out, X5.out, hown, HF.out, fun j hj => HY.out j (by omega), hwr⟩, by simp [intOf]; omega⟩
      have e9 : wrap64 (T + (k : Int)) = T + (k : Int) := by clear e8 x1; have := HL.out; unfold wrap64; omega
      by_cases c3 : 32768 ≤ xv
      case neg =>
        go_wp2_with fail
        clear e9
        clear x1 e8; exact ⟨⟨k + 1, l, y, xn, by omega, by go_num, rfl, X4.out, X5.out, hown, HF.out, fun j hj => HY.out j (by omega), hwr⟩, by simp [intOf]; omega⟩
      by_cases c4 : T + (k : Int) < 0
      · go_wp2_with fail
        clear e9
        clear x1 e8; exact ⟨⟨k + 1, l, y, xn, by omega, by go_num, rfl, X4.out, X5.out, hown, HF.out, fun j hj => HY.out j (by omega), hwr⟩, by simp [intOf]; omega⟩
      by_cases c5 : 8 * (n : Int) ≤ T + (k : Int)
      · go_wp2_with fail
        clear e9
        clear x1 e8; exact ⟨⟨k + 1, l, y, xn, by omega, by go_num, rfl, X4.out, X5.out, hown, HF.out, fun j hj => HY.out j (by omega), hwr⟩, by simp [intOf]; omega⟩
      obtain ⟨K, hK⟩ : ∃ K : Nat, T + (k : Int) = (K : Int) := by clear e8 e9 x1; exact ⟨(T + (k : Int)).toNat, by omega⟩
      have hKn : K < 8 * n := by clear e8 e9 x1; omega
      obtain ⟨q, hq⟩ : ∃ q, q = K / 8 := ⟨_, rfl⟩
      obtain ⟨r, hr⟩ : ∃ r, r = K % 8 := ⟨_, rfl⟩
      have hqn : q < n := by clear e8 e9 x1; omega
      have hr8 : r < 8 := by clear e8 e9 x1; omega
      have hTK := hid (show T + (k : Int) = ((8 * q + r : Nat) : Int) by clear e8 e9 x1; omega)
      have q2 : (T + (k : Int)) % 8 = (r : Int) := by clear e8 e9 x1; omega
      have q2' : (T + (k : Int)).tmod 8 = (r : Int) := by rw [Int.tmod_eq_emod_of_nonneg (by clear e8 e9 x1; omega)]; exact q2
      have HK := hid hK
      have HQ := hid hq
      have HR := hid hr
      clear hK hq hr
      go_wp2_with fail
      clear x1 e8
      go_loopw [12, 13] (fun m i wq => ∃ j : Nat, r ≤ j ∧ j ≤ 7 ∧ i = .int .i64 j ∧ m = .int .u8 (2 ^ (j - r) : Nat) ∧ wq = wr) (fun _ i _ => 7 - (intOf i).toNat)
      case atStart => exact ⟨r, Nat.le_refl _, by omega, rfl, by rw [Nat.sub_self]; rfl, rfl⟩
      case round =>
        obtain ⟨j, hj1, hj2, rfl, rfl, rfl⟩ := hrel
        by_cases hlt7 : j < 7
        · have hj' : (j : Int) < 7 := by omega
          have hp : 2 ^ (j - r) ≤ 64 := Nat.le_trans (Nat.pow_le_pow_right (by decide) (show j - r ≤ 6 by omega)) (by decide)
          have hn : 2 ^ (j + 1 - r) = 2 * 2 ^ (j - r) := by rw [show j + 1 - r = (j - r) + 1 by omega, Nat.pow_succ, Nat.mul_comm]
          have HN2 := hid hn
          clear hn
          generalize 2 ^ (j - r) = m at *
          have hm : IntKind.u8.wrap (2 * (m : Int)) = 2 * (m : Int) := by rw [IntKind.wrap_u8']; omega
          go_wp2_with fail
          exact ⟨⟨j + 1, by omega, by omega, by go_num, by rw [HN2.out]; simp, trivial⟩, by simp [intOf]; omega⟩
        · obtain rfl : j = 7 := by omega
          have hFF := HF.out
          have hll : l.length = n := by rw [hFF.1, HN.out]
          have hql : q < l.length := by omega
          have hx0 := bd_u8 (hFF.2.1 (l[q]'hql) (List.getElem_mem hql))
          obtain ⟨x, hx⟩ : ∃ x : Nat, l[q]'hql = (x : Int) := ⟨(l[q]'hql).toNat, by omega⟩
          have hx' : x < 256 := by omega
          have hlx : l[q]? = some (x : Int) := by rw [List.getElem?_eq_getElem hql, hx]
          have FM := hid (flip_more (T := T) (k := k) (q := q) (r := r) (x := x) (by rw [← HN.out]; exact hFF) HY.out hlt (by rw [← HN.out]; exact hqn) hr8 hTK.out hlx hx')
          rw [← HN.out] at FM
          have BT := hid (rbit_any (.slice (some ⟨gb, 0, none⟩) n cap) l K wr (reads_of_owns hown hFF.2.1) (by rw [hll]; exact hKn) (by rw [hll]; exact HL.out))
          have hbl : bitL l K = ((x / 2 ^ (7 - r) % 2 : Nat) : Int) := by
            unfold bitL
            rw [← HQ.out, ← HR.out, List.getD_eq_getElem?_getD, hlx]
            simp
          rw [hbl] at BT
          have hc : wr.cell? ⟨gb, q, none⟩ = some (.int .u8 (x : Int)) := by
            rw [hown.cellAt q (by omega), vU8, List.getElem?_map, hlx]; rfl
          have hf := hown.frozenAt q
          have q1 : (K : Int) / 8 = (q : Int) := by have := HQ.out; omega
          have q3 : wrap64 (q : Int) = (q : Int) := by have := HL.out; unfold wrap64; omega
          have hqn' : (q : Int) < (n : Int) := by clear q3; omega
          have FB := flip_bit ⟨x, hx'⟩ ⟨r, hr8⟩
          simp only at FB
          clear hx0 hx hlx hql hll hFF
          go_wp2_with fail
          rw [HK.out]
          clear e9
          refine BT.out.mono ?_
          rintro e w2 ⟨rfl, rfl⟩
          clear BT
          by_cases hbit : x / 2 ^ (7 - r) % 2 = 1
          · rw [hbit]
            have hfl : IntKind.u8.wrap ((x : Int) - (2 ^ (7 - r) : Nat)) = ((x ^^^ (128 >>> r) : Nat) : Int) := by
              clear q3
              have h1 := FB.1 hbit
              rw [IntKind.wrap_u8', ← h1.2]; omega
            clear FB hbit
            generalize 2 ^ (7 - r) = m at *
            go_wp2_with fail
            have st := (hown.stored q (.int .u8 ((x ^^^ (128 >>> r) : Nat) : Int))).1
            clear q3
            exact ⟨⟨k + 1, l.set q ((x ^^^ (128 >>> r) : Nat) : Int), _, xn, by omega, by go_num, rfl, X4.out, X5.out, by simpa [vU8, List.map_set] using st, FM.out.1, FM.out.2, hwr.setCell (p := ⟨gb, q, none⟩) hgb _⟩, by simp [intOf]; omega⟩
          · rw [show x / 2 ^ (7 - r) % 2 = 0 by omega]
            have hfl : IntKind.u8.wrap ((x : Int) + (2 ^ (7 - r) : Nat)) = ((x ^^^ (128 >>> r) : Nat) : Int) := by
              clear q3
              have h1 := FB.2.1 hbit
              have h2 := FB.2.2
              rw [IntKind.wrap_u8', ← h1]; omega
            clear FB hbit
            generalize 2 ^ (7 - r) = m at *
            go_wp2_with fail
            have st := (hown.stored q (.int .u8 ((x ^^^ (128 >>> r) : Nat) : Int))).1
            clear q3
            exact ⟨⟨k + 1, l.set q ((x ^^^ (128 >>> r) : Nat) : Int), _, xn, by omega, by go_num, rfl, X4.out, X5.out, by simpa [vU8, List.map_set] using st, FM.out.1, FM.out.2, hwr.setCell (p := ⟨gb, q, none⟩) hgb _⟩, by simp [intOf]; omega⟩
    · obtain rfl : k = 16 := by omega
      go_wp2_with fail
      go_ret
      exact ⟨_, l, y, rfl, hwr, hown, HF.out⟩
end Go.Proofs.YtecbfegohdllbaaDoor
end
