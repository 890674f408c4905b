/- Layer 36 (frame): the closure of Put: a contract. -/
import Derived.Test.YtecbfegohdllbaaDoorFrameCheck
import Derived.Test.YtecbfegohdllbaaDoorPackA
namespace Go.Proofs.YtecbfegohdllbaaDoor
open Go.RowKit
set_option linter.unusedVariables false
set_option linter.unusedSimpArgs false
/-- a number's two lowest bytes -/
def b2 (x : Int) : List Int := [x / 256 % 256, x % 256]
/-- a frame under way: the report's box, the text's box and its row -/
def FrI (C : Array Value) (h B : Nat) (w : World) (l : List Int) (W : World) : Prop :=
  W.heap[h]? = some (.cells C 50 (0, 0)) ∧ h < B ∧ (∃ v, W.heap[B]? = some (.cells #[v] 22 (0, 0)) ∧ W.ownsRow (h + 1) 5 1 v l.length (vU8 l)) ∧ Below h w W
theorem row_not {w : World} {base n g : Nat} {e t : TypeId} {v u : Value} {xs : List Value} {fr : Nat × Nat} {cs : Array Value} (h : w.ownsRow base e 1 v n xs) (hg : w.heap[g]? = some (.cells cs t fr)) (hne : t ≠ e) : v.ownBlock ≠ some g := by
  obtain ⟨_, ⟨rfl, _⟩ | ⟨g', cap, cur, rfl, _, hc, _⟩⟩ := h
  · intro h; cases h
  · intro h
    have hh : g' = g := by simpa [Value.ownBlock] using h
    subst hh
    rw [hg] at hc
    exact hne (by injection hc with hc; injection hc)
theorem own_set_other {w : World} {base n g off : Nat} {e : TypeId} {v u : Value} {xs : List Value} (h : w.ownsRow base e 1 v n xs) (hne : v.ownBlock ≠ some g) : (w.setCell ⟨g, off, none⟩ u).ownsRow base e 1 v n xs := by
  obtain ⟨h0, ⟨rfl, h1⟩ | ⟨g', cap, cur, rfl, h1, hc, h2⟩⟩ := h
  · exact ⟨h0, .inl ⟨rfl, h1⟩⟩
  · exact ⟨h0, .inr ⟨g', cap, cur, rfl, h1, (Below.heap_setCell _ _ _ g' (fun e => hne (by simp [Value.ownBlock]; exact e))).trans hc, h2⟩⟩
theorem frI_step {C : Array Value} {h B : Nat} {w W w4 w5 : World} {v v' : Value} {l : List Int} {x : Int} (p0 : W.heap[h]? = some (.cells C 50 (0, 0))) (hhB : h < B) (hbw : Below h w W) (hb4 : Below W.heap.size W w4) (hb : Below (h + 1) w4 w5)
    (pB5 : w5.heap[B]? = some (.cells #[v] 22 (0, 0))) (hown5 : w5.ownsRow (h + 1) 5 1 v' (l.length + 2) (vU8 l ++ [.int .u8 (x / 256 % 256), .int .u8 (x % 256)])) : FrI C h B w (l ++ b2 x) (w5.setCell ⟨B, 0, none⟩ v') := by
  have h0 := lt_of_row p0
  refine ⟨(Below.heap_setCell _ _ _ h (by simp; omega)).trans ((hb.block h (by omega)).trans ((hb4.block h h0).trans p0)), hhB, ⟨v', ?_, ?_⟩, ?_⟩
  · simp [World.setCell, Array.getElem?_modify, pB5]
  · have := own_set_other (off := 0) (u := v') hown5 (row_not (u := v) hown5 pB5 (by decide))
    simpa [vU8, b2] using this
  · exact ((hbw.trans (hb4.mono (by omega))).trans (hb.mono (by omega))).setCell (p := ⟨B, 0, none⟩) (by simp; omega) _
set_option maxRecDepth 100000 in
set_option maxHeartbeats 1000000 in
theorem two_any (C : Array Value) (h B : Nat) (x : Int) (l : List Int) (w W : World) (H : FrI C h B w l W) (hl : l.length ≤ 1000) :
    Calls Tryd.prog 73 #[.int .i32 x, .pointer (some ⟨B, 0, none⟩)] W fun e W' => (∃ v, e = .returned v) ∧ FrI C h B w (l ++ b2 x) W' := by
  obtain ⟨i0, hi, hz0, hz1, hz2⟩ := info_parts Tryd.infoU8
  obtain ⟨p0, hhB, ⟨v, pB, hown⟩, hbw⟩ := H
  have HL := hid hl
  clear hl
  have hBl := lt_of_row pB
  have cB : W.drew.cell? ⟨B, 0, none⟩ = some v := (cell_of_row W B 0 _ _ _ pB).trans rfl
  go_enter Tryd.func73, Tryd.ntmps73
  go_wp2_with fail
  refine wp_region_F' (B := h + 1) (n := 6) (l := #[false, false, false, false, false, false]) (by kernel_rfl) (by kernel_rfl) (by kernel_rfl) ?_
  refine wpAnyF_take (i := 1) (v := ?vr1_1) (some 4) rfl rfl (by kernel_rfl) (by kernel_rfl) (by kernel_rfl) (fun _ _ _ h => h) (by rfl) ?hvr1_1 ?restr1_1
  case hvr1_1 => (intro w' hb; go_simp; try with_reducible rfl)
  simp only [Act.put, List.setIfInBounds_toArray, List.set_cons_zero, List.set_cons_succ]
  refine wpAnyF_two (i := 0) (j := 2) (by kernel_rfl) rfl (by rfl) rfl (by rfl) (fun K hK => ?_) (fun K hK => ?_)
  · go_simp
    refine hK.out _ _ ⟨(Below.refl _ _), ?_⟩
    clear hK K
    simp only [List.setIfInBounds_toArray, List.set_cons_zero, List.set_cons_succ]
    refine wpAnyF_alone (i := 2) rfl (by kernel_rfl) (by rfl) (fun K hK => ?_)
    go_simp
    refine (bytes4_any x _).mono ?_
    rintro e w4 ⟨b, c, rfl, hb, hc4, hcm, hbb, hbl, k0, k1, k2, k3⟩
    have cB4 : w4.cell? ⟨B, 0, none⟩ = some v := (hb.cell (p := ⟨B, 0, none⟩) (by simpa using hBl)).trans cB
    have hc2 : ¬ c = 2 := by omega
    have hc2' : (2 : Int) ≤ c := by omega
    have hown4 : w4.ownsRow (h + 1) 5 1 v l.length (vU8 l) := ownsRow_below (hown.drew) (by simpa using hb)
    have hb4 : Below W.heap.size W w4 := ((Below.refl _ W).drew).trans (by simpa using hb)
    refine hK.out _ _ (hb.mono (by simp; omega)) ?_
    clear hK K
    simp only [List.setIfInBounds_toArray, List.set_cons_zero, List.set_cons_succ]
    refine wpAnyF_take (i := 3) (v := ?vr3_2) (some 6) rfl rfl (by kernel_rfl) (by kernel_rfl) (by kernel_rfl) (fun _ _ _ h => h) (by rfl) ?hvr3_2 ?restr3_2
    case hvr3_2 => (intro w' hb; go_simp; try with_reducible rfl)
    simp only [Act.put, List.setIfInBounds_toArray, List.set_cons_zero, List.set_cons_succ]
    refine wpAnyF_alone (i := 4) rfl (by kernel_rfl) (by rfl) (fun K hK => ?_)
    refine wp_append_own _ (.tmp 3) (.tmp 6) 22 rfl (h + 1) 5 i0 (.int .u8 0) 1 1 Tryd.underlying22 hi hz0 hz1 hz2 rfl (by decide) v _ _ rfl hown4 ⟨b, 2, none⟩ 2 (c - 2) [.int .u8 (x / 256 % 256), .int .u8 (x % 256)] rfl rfl ?_ ?_ ?_ ?_ ?_ ?_
    · intro q t hq
      rcases q with _ | _ | q <;> simp at hq
      · subst hq; simpa [add_plain] using k2
      · subst hq; simpa [add_plain] using k3
    · simp [Value.oneCell']
    · have := HL.out; simp [maxLen]; omega
    · have := HL.out; omega
    · have := hb4.size; omega
    intro v' w5 hown5 hg5 _
    have hr : ∀ k, v.ownBlock = some k → h + 1 ≤ k := fun k e => (hown4.lt k e).1
    have hb : Below (h + 1) w4 w5 := (Below.refl _ _).grown hg5 (by have := hb4.size; omega) hr
    have pB4 : w4.heap[B]? = some (.cells #[v] 22 (0, 0)) := (hb4.block _ hBl).trans pB
    have pB5 : w5.heap[B]? = some (.cells #[v] 22 (0, 0)) := (hg5.block B (lt_of_row pB4) (fun e => row_not (u := v) hown4 pB4 (by decide) e.symm)).trans pB4
    have cB5 := (cell_of_row w5 B 0 _ _ _ pB5).trans rfl
    have fB5 := frozen_of_row w5 B 0 _ _ pB5
    refine hK.out _ _ hb ?_
    clear hK K
    simp only [List.setIfInBounds_toArray, List.set_cons_zero, List.set_cons_succ]
    refine wpAnyF_alone (i := 5) rfl (by kernel_rfl) (by rfl) (fun K hK => ?_)
    obtain ⟨sa, sn, sc, rfl⟩ : ∃ a n c, v' = .slice a n c := by
      obtain ⟨_, ⟨h, _⟩ | ⟨g, cap, cur, h, _⟩⟩ := id hown5
      · exact ⟨_, _, _, h⟩
      · exact ⟨_, _, _, h⟩
    go_simp
    have FS := frI_step (w := w) p0 hhB hbw hb4 hb pB5 hown5
    refine hK.out _ _ ((Below.refl _ w5).setCell (p := ⟨B, 0, none⟩) (by simp; omega) _) ?_
    clear hK K
    simp only [List.setIfInBounds_toArray, List.set_cons_zero, List.set_cons_succ]
    refine wpAnyF_done (by kernel_rfl) ?_ _
    exact bodyPost_end (v := .tuple #[]) (by simp [results, Tryd.results73]) rfl ⟨⟨_, rfl⟩, FS⟩
  · go_simp
    refine (bytes4_any x _).mono ?_
    rintro e w4 ⟨b, c, rfl, hb, hc4, hcm, hbb, hbl, k0, k1, k2, k3⟩
    have cB4 : w4.cell? ⟨B, 0, none⟩ = some v := (hb.cell (p := ⟨B, 0, none⟩) (by simpa using hBl)).trans cB
    have hc2 : ¬ c = 2 := by omega
    have hc2' : (2 : Int) ≤ c := by omega
    have hown4 : w4.ownsRow (h + 1) 5 1 v l.length (vU8 l) := ownsRow_below (hown.drew) (by simpa using hb)
    have hb4 : Below W.heap.size W w4 := ((Below.refl _ W).drew).trans (by simpa using hb)
    refine hK.out _ _ ⟨(hb.mono (by simp; omega)), ?_⟩
    clear hK K
    simp only [List.setIfInBounds_toArray, List.set_cons_zero, List.set_cons_succ]
    refine wpAnyF_take (i := 3) (v := ?vr3_3) (some 6) rfl rfl (by kernel_rfl) (by kernel_rfl) (by kernel_rfl) (fun _ _ _ h => h) (by rfl) ?hvr3_3 ?restr3_3
    case hvr3_3 => (intro w' hb; go_simp; try with_reducible rfl)
    simp only [Act.put, List.setIfInBounds_toArray, List.set_cons_zero, List.set_cons_succ]
    refine wpAnyF_alone (i := 0) rfl (by kernel_rfl) (by rfl) (fun K hK => ?_)
    go_simp
    refine hK.out _ _ (Below.refl _ _) ?_
    clear hK K
    simp only [List.setIfInBounds_toArray, List.set_cons_zero, List.set_cons_succ]
    refine wpAnyF_alone (i := 4) rfl (by kernel_rfl) (by rfl) (fun K hK => ?_)
    refine wp_append_own _ (.tmp 3) (.tmp 6) 22 rfl (h + 1) 5 i0 (.int .u8 0) 1 1 Tryd.underlying22 hi hz0 hz1 hz2 rfl (by decide) v _ _ rfl hown4 ⟨b, 2, none⟩ 2 (c - 2) [.int .u8 (x / 256 % 256), .int .u8 (x % 256)] rfl rfl ?_ ?_ ?_ ?_ ?_ ?_
    · intro q t hq
      rcases q with _ | _ | q <;> simp at hq
      · subst hq; simpa [add_plain] using k2
      · subst hq; simpa [add_plain] using k3
    · simp [Value.oneCell']
    · have := HL.out; simp [maxLen]; omega
    · have := HL.out; omega
    · have := hb4.size; omega
    intro v' w5 hown5 hg5 _
    have hr : ∀ k, v.ownBlock = some k → h + 1 ≤ k := fun k e => (hown4.lt k e).1
    have hb : Below (h + 1) w4 w5 := (Below.refl _ _).grown hg5 (by have := hb4.size; omega) hr
    have pB4 : w4.heap[B]? = some (.cells #[v] 22 (0, 0)) := (hb4.block _ hBl).trans pB
    have pB5 : w5.heap[B]? = some (.cells #[v] 22 (0, 0)) := (hg5.block B (lt_of_row pB4) (fun e => row_not (u := v) hown4 pB4 (by decide) e.symm)).trans pB4
    have cB5 := (cell_of_row w5 B 0 _ _ _ pB5).trans rfl
    have fB5 := frozen_of_row w5 B 0 _ _ pB5
    refine hK.out _ _ hb ?_
    clear hK K
    simp only [List.setIfInBounds_toArray, List.set_cons_zero, List.set_cons_succ]
    refine wpAnyF_alone (i := 5) rfl (by kernel_rfl) (by rfl) (fun K hK => ?_)
    obtain ⟨sa, sn, sc, rfl⟩ : ∃ a n c, v' = .slice a n c := by
      obtain ⟨_, ⟨h, _⟩ | ⟨g, cap, cur, h, _⟩⟩ := id hown5
      · exact ⟨_, _, _, h⟩
      · exact ⟨_, _, _, h⟩
    go_simp
    have FS := frI_step (w := w) p0 hhB hbw hb4 hb pB5 hown5
    refine hK.out _ _ ((Below.refl _ w5).setCell (p := ⟨B, 0, none⟩) (by simp; omega) _) ?_
    clear hK K
    simp only [List.setIfInBounds_toArray, List.set_cons_zero, List.set_cons_succ]
    refine wpAnyF_done (by kernel_rfl) ?_ _
    exact bodyPost_end (v := .tuple #[]) (by simp [results, Tryd.results73]) rfl ⟨⟨_, rfl⟩, FS⟩
end Go.Proofs.YtecbfegohdllbaaDoor
