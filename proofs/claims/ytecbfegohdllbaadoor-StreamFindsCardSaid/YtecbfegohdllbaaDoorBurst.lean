/- The reference of layer 12 (burst), as far as the layers above use it: bit, Places, Span, Flip. -/
import Derived.Test.YtecbfegohdllbaaDoorCrcBursts
import Derived.Test.YtecbfegohdllbaaDoorCrcTells
import Derived.Test.YtecbfegohdllbaaDoorPackA
namespace Go.Proofs.YtecbfegohdllbaaDoor
open Go.RowKit
set_option linter.unusedVariables false
set_option linter.unusedSimpArgs false
/-- bit k of bytes, the highest first -/
def bitL (L : List Int) (k : Nat) : Int := L.getD (k / 8) 0 / 2 ^ (7 - k % 8) % 2
set_option maxRecDepth 20000 in
theorem rbit_any (v : Value) (L : List Int) (k : Nat) (w : World) (hr : Reads .u8 w v L) (hk : k < 8 * L.length) (hL : L.length ≤ 1000000) :
    Calls Tryd.prog 69 #[v, .int .i64 k] w fun e w' => e = .returned (.int .i64 (bitL L k)) ∧ w = w' := by
  have hq : k / 8 < L.length := by omega
  have hwf := bd_u8 (Reads.wf hr (L[k / 8]) (List.getElem_mem _))
  obtain ⟨b, off, c, rfl, h1, h2, hlt, hcell⟩ := hr.plain (by omega)
  have hc : w.cell? ⟨b, off + k / 8, none⟩ = some (.int .u8 L[k / 8]) := hcell _ hq
  obtain ⟨q, hqq⟩ : ∃ q, q = k / 8 := ⟨_, rfl⟩
  have e0 : bitL L k = L[k / 8] / 2 ^ (7 - k % 8) % 2 := by unfold bitL; rw [List.getD_eq_getElem?_getD, List.getElem?_eq_getElem hq]; rfl
  rw [e0]
  clear hcell e0 hr
  have hq' : (q : Int) < (L.length : Int) := by omega
  generalize L[k / 8] = B at *
  rw [← hqq] at hc hq
  obtain ⟨r, hrr⟩ : ∃ r, r = k % 8 := ⟨_, rfl⟩
  have hr8 : r < 8 := by omega
  have e1 : (k : Int) / 8 = (q : Int) := by omega
  have e2 : (k : Int) % 8 = (r : Int) := by omega
  have e3 : wrap64 (q : Int) = (q : Int) := by unfold wrap64; omega
  rw [← hrr]
  generalize L.length = n at *
  have HN := hid hL
  have H1 := hid h1
  have H2 := hid h2
  clear hL h1 h2 hqq hrr
  go_enter Tryd.func69, Tryd.ntmps69
  go_wp2_with fail
  go_loopw [5, 6] (fun x i wr => ∃ j : Nat, r ≤ j ∧ j ≤ 7 ∧ i = .int .i64 j ∧ x = .int .i64 (B / 2 ^ (j - r)) ∧ wr = w) (fun _ i _ => 7 - (intOf i).toNat)
  case atStart => exact ⟨r, Nat.le_refl _, by omega, by rw [e2], by rw [Nat.sub_self]; simp, rfl⟩
  case round =>
    obtain ⟨j, hj1, hj2, rfl, rfl, rfl⟩ := hrel
    by_cases hlt7 : j < 7
    · have hj' : (j : Int) < 7 := by omega
      have hx : 0 ≤ B / 2 ^ (j - r) ∧ B / 2 ^ (j - r) ≤ 255 := by
        have h0 := Int.ediv_nonneg hwf.1 (show (0 : Int) ≤ 2 ^ (j - r) from Int.pow_nonneg (by decide))
        have h1 := Int.ediv_le_self (2 ^ (j - r)) hwf.1
        omega
      have hn : B / 2 ^ (j + 1 - r) = B / 2 ^ (j - r) / 2 := by
        rw [show j + 1 - r = (j - r) + 1 by omega, Int.pow_succ, Int.ediv_ediv_of_nonneg (Int.pow_nonneg (by decide))]
      generalize B / 2 ^ (j - r) = x at *
      go_wp2_with fail
      exact ⟨⟨j + 1, by omega, by omega, by go_num, by rw [hn], trivial⟩, by simp [intOf]; omega⟩
    · obtain rfl : j = 7 := by omega
      have et : (B / 2 ^ (7 - r)).tmod 2 = B / 2 ^ (7 - r) % 2 := Int.tmod_eq_emod_of_nonneg (Int.ediv_nonneg hwf.1 (Int.pow_nonneg (by decide)))
      go_wp2_with fail
      go_ret
      exact ⟨rfl, rfl⟩
theorem bitL_bd (L : List Int) (k : Nat) : 0 ≤ bitL L k ∧ bitL L k ≤ 1 := by unfold bitL; omega
/-- the places below i where two texts differ -/
def PlacesOK (A B : List Int) (i : Nat) (M : List Int) : Prop := (M = [] ↔ ∀ j, j < i → bitL A j = bitL B j) ∧ ∀ x ∈ M, M.headD 0 ≤ x ∧ 0 ≤ M.headD 0 ∧ x < (i : Int)
theorem places_same {A B M : List Int} {i : Nat} (h : PlacesOK A B i M) (e : bitL A i = bitL B i) : PlacesOK A B (i + 1) M := by
  refine ⟨⟨fun hM j hj => ?_, fun hj => h.1.2 fun j h1 => hj j (by omega)⟩, fun x hx => ?_⟩
  · by_cases h1 : j = i
    · subst h1; exact e
    · exact h.1.1 hM j (by omega)
  · have := h.2 x hx; omega
theorem places_more {A B M : List Int} {i : Nat} (h : PlacesOK A B i M) (e : bitL A i ≠ bitL B i) : PlacesOK A B (i + 1) (M ++ [(i : Int)]) := by
  refine ⟨⟨fun hM => absurd hM (by simp), fun hj => absurd (hj i (by omega)) e⟩, fun x hx => ?_⟩
  rcases M with _ | ⟨m, M⟩
  · simp at hx; subst hx; simp; omega
  · have h0 := h.2 m (by simp)
    simp only [List.headD_cons] at h0
    simp only [List.cons_append, List.headD_cons]
    rcases List.mem_append.1 (show x ∈ (m :: M) ++ [(i : Int)] from hx) with hx | hx
    · have := h.2 x hx; simp only [List.headD_cons] at this; omega
    · simp at hx; subst hx; omega
theorem Tryd.infoInt : (Tryd.prog.info? 3).map (fun i => (i.zero, i.size, i.bytes)) = some (some (.int .i64 0), 1, 8) := by kernel_rfl
set_option maxRecDepth 20000 in
theorem rplaces_any (va vb : Value) (A B : List Int) (w : World) (ra : Reads .u8 w va A) (rb : Reads .u8 w vb B) (hlen : A.length = B.length) (hL : A.length ≤ 1000000) :
    Calls Tryd.prog 70 #[va, vb] w fun e w' => ∃ v M, e = .returned v ∧ Below w.heap.size w w' ∧ w'.ownsRow w.heap.size 3 1 v M.length (M.map (Value.int .i64)) ∧ PlacesOK A B (8 * A.length) M ∧ M.length ≤ 8 * A.length := by
  obtain ⟨i0, hi, hz0, hz1, hz2⟩ := info_parts Tryd.infoInt
  have BA := hid (fun (k : Nat) (hk : k < 8 * A.length) (w1 : World) (hb : Below w.heap.size w w1) => rbit_any va A k w1 (ra.later hb) hk hL)
  have BB := hid (fun (k : Nat) (hk : k < 8 * A.length) (w1 : World) (hb : Below w.heap.size w w1) => rbit_any vb B k w1 (rb.later hb) (by omega) (by omega))
  obtain ⟨aa, ca, rfl, _⟩ := id ra
  obtain ⟨ab, cb, rfl, _⟩ := id rb
  rw [← hlen] at BB ⊢
  clear ra rb hlen
  have HL := hid hL
  clear hL
  obtain ⟨n, hn⟩ : ∃ n, n = A.length := ⟨_, rfl⟩
  rw [← hn] at BA BB HL ⊢
  clear hn
  have e8 : wrap64 (8 * (n : Int)) = 8 * (n : Int) := by have := HL.out; unfold wrap64; omega
  go_enter Tryd.func70, Tryd.ntmps70
  go_wp2_with fail
  go_loopw [5, 6] (fun v i wr => ∃ (j : Nat) (M : List Int), j ≤ 8 * n ∧ i = .int .i64 j ∧ wr.ownsRow w.heap.size 3 1 v M.length (M.map (Value.int .i64)) ∧ PlacesOK A B j M ∧ M.length ≤ j ∧ Below w.heap.size w wr) (fun _ i _ => 8 * n - (intOf i).toNat)
  case atStart => exact ⟨0, [], by omega, rfl, World.ownsRow_nil _ _ _ _, ⟨by simp, by simp⟩, Nat.le_refl _, Below.refl _ _⟩
  case round =>
    obtain ⟨j, M, hj, rfl, hown, hPO, hM, hwr⟩ := hrel
    by_cases hlt : j < 8 * n
    · have hlt' : (j : Int) < 8 * (n : Int) := by omega
      have HP := hid hPO
      have HM := hid hM
      have e9 : wrap64 ((j : Int) + 1) = (j : Int) + 1 := by have := HL.out; unfold wrap64; omega
      clear hPO hM
      go_wp2_with fail
      refine (BA.out j hlt _ hwr).mono ?_
      rintro e w2 ⟨rfl, rfl⟩
      have hbA := bitL_bd A j
      have hbB := bitL_bd B j
      go_wp2_with fail
      refine (BB.out j hlt _ hwr).mono ?_
      rintro e w2 ⟨rfl, rfl⟩
      by_cases he : bitL A j = bitL B j
      · have HS := hid (places_same HP.out he)
        rw [he]
        go_wp2_with fail
        rw [e9]
        clear e8 e9
        exact ⟨⟨j + 1, M, by omega, by go_num, hown, HS.out, by have := HM.out; omega, hwr⟩, by simp [intOf]; omega⟩
      · have HS := hid (places_more HP.out he)
        go_wp2_with (at_builtin; refine wpList_append_own _ rfl _ _ 98 rfl w.heap.size 3 i0 (.int .i64 0) 1 8 Tryd.underlying98 hi hz0 hz1 hz2 rfl (by decide) _ _ _ rfl (hown.alloc _) ⟨wr.heap.size, 0, none⟩ 1 1 [.int .i64 (j : Int)] rfl rfl ?c1 ?c2 ?c3 ?c4 ?c5 ?_)
        case c1 =>
          intro i u hi
          rcases i with _ | i <;> simp at hi
          subst hi
          simp [add_plain]
        case c2 => simp [Value.oneCell']
        case c3 => clear e8 e9; have := HM.out; have := HL.out; simp [maxLen]; omega
        case c4 => clear e8 e9; have := HM.out; have := HL.out; omega
        case c5 => clear e8 e9; simp; have := hwr.size; omega
        intro v' w5 hown5 hg5 _
        have hb5 : Below w.heap.size w w5 := (hwr.alloc hwr.size _).grown hg5 (by clear e8 e9; simp; have := hwr.size; omega) (fun k e => (hown.lt k e).1)
        go_wp2_with fail
        rw [e9]
        clear e8 e9
        exact ⟨⟨j + 1, M ++ [(j : Int)], by omega, by go_num, by simpa using hown5, HS.out, by have := HM.out; simp; omega, hb5⟩, by simp [intOf]; omega⟩
    · obtain rfl : j = 8 * n := by omega
      have HP := hid hPO
      have HM := hid hM
      clear hPO hM
      go_wp2_with fail
      go_ret
      exact ⟨_, M, rfl, hwr, hown, HP.out, HM.out⟩
end Go.Proofs.YtecbfegohdllbaaDoor
