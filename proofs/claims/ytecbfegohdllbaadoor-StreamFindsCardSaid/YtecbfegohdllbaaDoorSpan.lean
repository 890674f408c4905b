/- The reference's Span (layer 12): 0 exactly where two texts are one. -/
import Derived.Test.YtecbfegohdllbaaDoorBurst
import Derived.Test.YtecbfegohdllbaaDoorPackA
namespace Go.Proofs.YtecbfegohdllbaaDoor
open Go.RowKit
set_option linter.unusedVariables false
set_option linter.unusedSimpArgs false
theorem byte_bits (x y : Int) (hx : 0 ≤ x ∧ x ≤ 255) (hy : 0 ≤ y ∧ y ≤ 255) (h : ∀ r : Nat, r < 8 → x / 2 ^ (7 - r) % 2 = y / 2 ^ (7 - r) % 2) : x = y := by
  have h0 := h 0 (by decide)
  have h1 := h 1 (by decide)
  have h2 := h 2 (by decide)
  have h3 := h 3 (by decide)
  have h4 := h 4 (by decide)
  have h5 := h 5 (by decide)
  have h6 := h 6 (by decide)
  have h7 := h 7 (by decide)
  simp only [Nat.sub_zero, Nat.reduceSub, Int.reducePow] at h0 h1 h2 h3 h4 h5 h6 h7
  omega
theorem bits_same {A B : List Int} (hl : A.length = B.length) (ha : ∀ x ∈ A, 0 ≤ x ∧ x ≤ 255) (hb : ∀ x ∈ B, 0 ≤ x ∧ x ≤ 255) (h : ∀ j, j < 8 * A.length → bitL A j = bitL B j) : A = B := by
  refine List.ext_getElem hl fun i h1 h2 => ?_
  refine byte_bits _ _ (ha _ (List.getElem_mem h1)) (hb _ (List.getElem_mem h2)) fun r hr => ?_
  have := h (8 * i + r) (by omega)
  unfold bitL at this
  rw [show (8 * i + r) / 8 = i by omega, show (8 * i + r) % 8 = r by omega] at this
  simpa [List.getD_eq_getElem?_getD, List.getElem?_eq_getElem h1, List.getElem?_eq_getElem h2] using this
theorem i64_wf {x : Int} (h : -9223372036854775808 ≤ x ∧ x ≤ 9223372036854775807) : (Lit.int .i64 x).wf = true := by
  simp [Lit.wf, IntKind.min, IntKind.max, IntKind.signed, IntKind.bits]; omega
set_option maxRecDepth 20000 in
set_option maxHeartbeats 1000000 in
theorem rspan_any (va vb : Value) (A B : List Int) (w : World) (ra : Reads .u8 w va A) (rb : Reads .u8 w vb B) (hlen : A.length = B.length) (hL : A.length ≤ 1000000) :
    Calls Tryd.prog 35 #[va, vb] w fun e w' => ∃ s : Int, e = .returned (.int .i64 s) ∧ (s = 0 ↔ A = B) ∧ Below w.heap.size w w' := by
  have SM := hid (fun h => bits_same hlen (fun x hx => bd_u8 (Reads.wf ra x hx)) (fun x hx => bd_u8 (Reads.wf rb x hx)) h)
  have PL := hid (rplaces_any va vb A B w ra rb hlen hL)
  obtain ⟨aa, ca, rfl, _⟩ := id ra
  obtain ⟨ab, cb, rfl, _⟩ := id rb
  rw [← hlen] at PL ⊢
  clear ra rb hlen
  have HL := hid hL
  clear hL
  obtain ⟨n, hn⟩ : ∃ n, n = A.length := ⟨_, rfl⟩
  rw [← hn] at PL HL SM ⊢
  clear hn
  go_enter Tryd.func35, Tryd.ntmps35
  go_wp2_with fail
  refine PL.out.mono ?_
  rintro e w2 ⟨v, M, rfl, hb2, hown, hPO, hM⟩
  have HS : Hid (M = [] ↔ A = B) := hid ⟨fun h => SM.out (hPO.1.1 h), fun h => hPO.1.2 (by rw [h]; simp)⟩
  by_cases h0 : M = []
  · have HAB := hid (HS.out.1 h0)
    subst h0
    obtain ⟨ap, cp, rfl⟩ : ∃ a cp, v = .slice a 0 cp := by
      obtain ⟨_, ⟨h, _⟩ | ⟨g, cap, cur, h, _⟩⟩ := id hown
      · exact ⟨_, _, h⟩
      · exact ⟨_, _, h⟩
    clear hown hPO hM HS
    go_wp2_with fail
    go_ret
    exact ⟨0, rfl, ⟨fun _ => HAB.out, fun _ => rfl⟩, hb2⟩
  · have hM0 : 0 < M.length := List.length_pos_iff.2 h0
    have bnd : ∀ x ∈ M, M.headD 0 ≤ x ∧ 0 ≤ M.headD 0 ∧ x < 8000000 := fun x hx => by have := hPO.2 x hx; have := HL.out; omega
    have hr := reads_of_owns hown (fun x hx => i64_wf (by have := bnd x hx; omega))
    obtain ⟨g, off, c, rfl, h1, h2, hlt, hcell⟩ := hr.plain hM0
    have HN : Hid (A ≠ B) := hid (fun h => h0 (HS.out.2 h))
    have cl : w2.cell? ⟨g, off + (M.length - 1), none⟩ = some (.int .i64 (M[M.length - 1]'(by omega))) := hcell _ (by omega)
    have cf : w2.cell? ⟨g, off, none⟩ = some (.int .i64 (M.headD 0)) := by
      have := hcell 0 hM0
      rw [Nat.add_zero] at this
      rw [this]; cases M with
      | nil => exact absurd rfl h0
      | cons m M => rfl
    have hb := bnd _ (List.getElem_mem (show M.length - 1 < M.length by omega))
    clear hcell hr hown bnd HS SM hPO
    generalize M.headD 0 = f at *
    generalize M[M.length - 1]'(by omega) = l at *
    obtain ⟨m, hm⟩ : ∃ m, M.length = m + 1 := ⟨M.length - 1, by omega⟩
    rw [hm, Nat.add_sub_cancel] at cl
    rw [hm]
    rw [hm] at h1 hM
    clear hM0 h0
    have e1 : IntKind.i64.wrap (((m + 1 : Nat) : Int) - 1) = (m : Int) := by have := HL.out; rw [IntWalk.i64_in _ (by omega)]; omega
    have e0 : IntKind.i64.wrap (m : Int) = (m : Int) := by have := HL.out; rw [IntWalk.i64_in _ (by omega)]
    have hlm : (m : Int) < (m : Int) + 1 := by omega
    have e2 : IntKind.i64.wrap (1 + l) = 1 + l := by rw [IntWalk.i64_in _ (by omega)]
    have e3 : IntKind.i64.wrap (1 + l - f) = 1 + l - f := by rw [IntWalk.i64_in _ (by omega)]
    have hne : ¬ (m : Int) + 1 = 0 := by omega
    have H1 := hid hb
    have H2 := hid hM
    have H3 := hid h1
    have H4 := hid h2
    clear hb hM h1 h2 hm M
    go_wp2_with fail
    refine wp_region_F' (B := w2.heap.size) (n := 12) (l := #[false, false, false, false, false, false, false, false, false, false, false, false]) (by kernel_rfl) (by kernel_rfl) (by kernel_rfl) ?_
    refine wpAnyF_take (i := 0) (v := ?vr0_1) (some 17) rfl rfl (by kernel_rfl) (by kernel_rfl) (by kernel_rfl) (fun _ _ _ h => h) (by rfl) ?hvr0_1 ?restr0_1
    case hvr0_1 => (intro w' hb; go_simp; try with_reducible rfl)
    simp only [Act.put, List.setIfInBounds_toArray, List.set_cons_zero, List.set_cons_succ]
    refine wpAnyF_take (i := 1) (v := ?vr1_2) (some 18) rfl rfl (by kernel_rfl) (by kernel_rfl) (by kernel_rfl) (fun _ _ _ h => h) (by rfl) ?hvr1_2 ?restr1_2
    case hvr1_2 => (intro w' hb; go_simp; try with_reducible rfl)
    simp only [Act.put, List.setIfInBounds_toArray, List.set_cons_zero, List.set_cons_succ]
    refine wpAnyF_take (i := 2) (v := ?vr2_3) (some 19) rfl rfl (by kernel_rfl) (by kernel_rfl) (by kernel_rfl) (fun _ _ _ h => h) (by rfl) ?hvr2_3 ?restr2_3
    case hvr2_3 => (intro w' hb; go_simp; try with_reducible rfl)
    simp only [Act.put, List.setIfInBounds_toArray, List.set_cons_zero, List.set_cons_succ]
    refine wpAnyF_take (i := 3) (v := ?vr3_4) (some 20) rfl rfl (by kernel_rfl) (by kernel_rfl) (by kernel_rfl) (fun _ _ _ h => h) (by rfl) ?hvr3_4 ?restr3_4
    case hvr3_4 => (intro w' hb; go_simp; try with_reducible rfl)
    simp only [Act.put, List.setIfInBounds_toArray, List.set_cons_zero, List.set_cons_succ]
    refine wpAnyF_take (i := 4) (v := ?vr4_5) (some 21) rfl rfl (by kernel_rfl) (by kernel_rfl) (by kernel_rfl) (fun _ _ _ h => h) (by rfl) ?hvr4_5 ?restr4_5
    case hvr4_5 => (intro w' hb; go_simp; try with_reducible rfl)
    simp only [Act.put, List.setIfInBounds_toArray, List.set_cons_zero, List.set_cons_succ]
    refine wpAnyF_take (i := 5) (v := ?vr5_6) (some 22) rfl rfl (by kernel_rfl) (by kernel_rfl) (by kernel_rfl) (fun _ _ _ h => h) (by rfl) ?hvr5_6 ?restr5_6
    case hvr5_6 => (intro w' hb; (have hcw := ((((Below.refl _ w2).drew).trans hb).cell (p := ⟨g, off + m, none⟩) hlt).trans cl; go_simp; try with_reducible rfl))
    simp only [Act.put, List.setIfInBounds_toArray, List.set_cons_zero, List.set_cons_succ]
    refine wpAnyF_take (i := 6) (v := ?vr6_7) (some 23) rfl rfl (by kernel_rfl) (by kernel_rfl) (by kernel_rfl) (fun _ _ _ h => h) (by rfl) ?hvr6_7 ?restr6_7
    case hvr6_7 => (intro w' hb; go_simp; try with_reducible rfl)
    simp only [Act.put, List.setIfInBounds_toArray, List.set_cons_zero, List.set_cons_succ]
    refine wpAnyF_take (i := 7) (v := ?vr7_8) (some 24) rfl rfl (by kernel_rfl) (by kernel_rfl) (by kernel_rfl) (fun _ _ _ h => h) (by rfl) ?hvr7_8 ?restr7_8
    case hvr7_8 => (intro w' hb; go_simp; try with_reducible rfl)
    simp only [Act.put, List.setIfInBounds_toArray, List.set_cons_zero, List.set_cons_succ]
    refine wpAnyF_take (i := 8) (v := ?vr8_9) (some 25) rfl rfl (by kernel_rfl) (by kernel_rfl) (by kernel_rfl) (fun _ _ _ h => h) (by rfl) ?hvr8_9 ?restr8_9
    case hvr8_9 => (intro w' hb; go_simp; try with_reducible rfl)
    simp only [Act.put, List.setIfInBounds_toArray, List.set_cons_zero, List.set_cons_succ]
    refine wpAnyF_take (i := 9) (v := ?vr9_10) (some 26) rfl rfl (by kernel_rfl) (by kernel_rfl) (by kernel_rfl) (fun _ _ _ h => h) (by rfl) ?hvr9_10 ?restr9_10
    case hvr9_10 => (intro w' hb; (have hcw := ((((Below.refl _ w2).drew).trans hb).cell (p := ⟨g, off, none⟩) hlt).trans cf; go_simp; try with_reducible rfl))
    simp only [Act.put, List.setIfInBounds_toArray, List.set_cons_zero, List.set_cons_succ]
    refine wpAnyF_take (i := 10) (v := ?vr10_11) (some 27) rfl rfl (by kernel_rfl) (by kernel_rfl) (by kernel_rfl) (fun _ _ _ h => h) (by rfl) ?hvr10_11 ?restr10_11
    case hvr10_11 => (intro w' hb; go_simp; try with_reducible rfl)
    simp only [Act.put, List.setIfInBounds_toArray, List.set_cons_zero, List.set_cons_succ]
    refine wpAnyF_take (i := 11) (v := ?vr11_12) (some 4) rfl rfl (by kernel_rfl) (by kernel_rfl) (by kernel_rfl) (fun _ _ _ h => h) (by rfl) ?hvr11_12 ?restr11_12
    case hvr11_12 => (intro w' hb; go_simp; try with_reducible rfl)
    simp only [Act.put, List.setIfInBounds_toArray, List.set_cons_zero, List.set_cons_succ]
    refine wpAnyF_done (by kernel_rfl) ?_ _
    go_wp2
    go_ret
    exact ⟨1 + l - f, rfl, ⟨fun h => absurd h (by have := H1.out; omega), fun h => absurd h HN.out⟩, hb2.drew⟩
end Go.Proofs.YtecbfegohdllbaaDoor
