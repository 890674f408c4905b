/- Layer 36 (frame): Put: a contract. -/
import Derived.Test.YtecbfegohdllbaaDoorFrameTwo
namespace Go.Proofs.YtecbfegohdllbaaDoor
open Go.RowKit
set_option linter.unusedVariables false
set_option linter.unusedSimpArgs false
attribute [local go_sem] ix_A4int_0 ix_A4int_1 ix_A4int_2 ix_A4int_3 ix_A3int_0 ix_A3int_1 ix_A3int_2 ix_apiQuat_0 ix_apiQuat_1 ix_apiQuat_2 ix_apiQuat_3 ix_A3int32_0 ix_A3int32_1 ix_A3int32_2
theorem frI_start (C : Array Value) (w w2 : World) (h : Nat) (x y : Int) (hh : w2.heap[h]? = some (.cells C 50 (0, 0))) (hb : Below h w w2) :
    FrI C h (w2.heap.size + 1) w [x, y] ((w2.alloc (.cells #[.int .u8 x, .int .u8 y] 5)).alloc (.cells #[.slice (some ⟨w2.heap.size, 0, none⟩) 2 2] 22)) := by
  have hlt := lt_of_row hh
  refine ⟨((Below.heap_alloc _ _ _ (by simp; omega)).trans (Below.heap_alloc _ _ _ hlt)).trans hh, by omega, ⟨_, heap_alloc2_new w2 _ _, rfl, .inr ⟨w2.heap.size, 2, #[.int .u8 x, .int .u8 y], rfl, by omega, ?_, by simp, by decide, rfl, rfl⟩⟩, (hb.alloc (by omega) _).alloc (by simp; omega) _⟩
  exact (Below.heap_alloc _ _ _ (by simp)).trans (heap_alloc_new w2 _)
theorem FrI.lift {f s u g q0 q1 q2 q3 x0 x1 x2 : Int} {h B : Nat} {w W : World} {l : List Int} (H : FrI #[.int .i64 f, .int .i64 s, .int .i64 u, .int .i64 g, .int .i32 q0, .int .i32 q1, .int .i32 q2, .int .i32 q3, .int .i32 x0, .int .i32 x1, .int .i32 x2] h B w l W) :
    FrI #[.int .i64 f, .int .i64 s, .int .i64 u, .int .i64 g, .int .i32 q0, .int .i32 q1, .int .i32 q2, .int .i32 q3, .int .i32 x0, .int .i32 x1, .int .i32 x2] h B w l W ∧ W.cell? ⟨h, 1, none⟩ = some (.int .i64 s) ∧ W.cell? ⟨h, 2, none⟩ = some (.int .i64 u) ∧ W.cell? ⟨h, 3, none⟩ = some (.int .i64 g) :=
  ⟨H, (cell_of_row _ _ 1 _ _ _ H.1).trans rfl, (cell_of_row _ _ 2 _ _ _ H.1).trans rfl, (cell_of_row _ _ 3 _ _ _ H.1).trans rfl⟩
theorem FrI.tail {f s u g q0 q1 q2 q3 x0 x1 x2 : Int} {h B : Nat} {w W : World} {l : List Int} (H : FrI #[.int .i64 f, .int .i64 s, .int .i64 u, .int .i64 g, .int .i32 q0, .int .i32 q1, .int .i32 q2, .int .i32 q3, .int .i32 x0, .int .i32 x1, .int .i32 x2] h B w l W) :
    (W.cell? ⟨h, 4, none⟩ = some (.int .i32 q0) ∧ W.cell? ⟨h, 5, none⟩ = some (.int .i32 q1) ∧ W.cell? ⟨h, 6, none⟩ = some (.int .i32 q2) ∧ W.cell? ⟨h, 7, none⟩ = some (.int .i32 q3)) ∧ W.cell? ⟨h, 8, none⟩ = some (.int .i32 x0) ∧ W.cell? ⟨h, 9, none⟩ = some (.int .i32 x1) ∧ W.cell? ⟨h, 10, none⟩ = some (.int .i32 x2) :=
  ⟨⟨(cell_of_row _ _ 4 _ _ _ H.1).trans rfl, (cell_of_row _ _ 5 _ _ _ H.1).trans rfl, (cell_of_row _ _ 6 _ _ _ H.1).trans rfl, (cell_of_row _ _ 7 _ _ _ H.1).trans rfl⟩, (cell_of_row _ _ 8 _ _ _ H.1).trans rfl, (cell_of_row _ _ 9 _ _ _ H.1).trans rfl, (cell_of_row _ _ 10 _ _ _ H.1).trans rfl⟩
theorem frI_four {C : Array Value} {h B : Nat} {w W w4 w5 : World} {v v' : Value} {l : List Int} {x : Int} (p0 : W.heap[h]? = some (.cells C 50 (0, 0))) (hhB : h < B) (hbw : Below h w W) (hb4 : Below W.heap.size W w4) (hb : Below (h + 1) w4 w5)
    (pB5 : w5.heap[B]? = some (.cells #[v] 22 (0, 0))) (hown5 : w5.ownsRow (h + 1) 5 1 v' (l.length + 4) (vU8 l ++ [.int .u8 (x / 16777216 % 256), .int .u8 (x / 65536 % 256), .int .u8 (x / 256 % 256), .int .u8 (x % 256)])) : FrI C h B w (l ++ fourI x) (w5.setCell ⟨B, 0, none⟩ v') := by
  have h0 := lt_of_row p0
  refine ⟨(Below.heap_setCell _ _ _ h (by simp; omega)).trans ((hb.block h (by omega)).trans ((hb4.block h h0).trans p0)), hhB, ⟨v', ?_, ?_⟩, ?_⟩
  · simp [World.setCell, Array.getElem?_modify, pB5]
  · have := own_set_other (off := 0) (u := v') hown5 (row_not (u := v) hown5 pB5 (by decide))
    simpa [vU8, fourI] using this
  · exact ((hbw.trans (hb4.mono (by omega))).trans (hb.mono (by omega))).setCell (p := ⟨B, 0, none⟩) (by simp; omega) _
theorem b2_wf (x : Int) : ∀ y ∈ b2 x, (Lit.int .u8 y).wf = true := by
  intro y hy
  simp only [b2, List.mem_cons, List.not_mem_nil, or_false] at hy
  rcases hy with rfl | rfl <;> exact u8_wf (by omega) (by omega)
theorem fourI_wf (x : Int) : ∀ y ∈ fourI x, (Lit.int .u8 y).wf = true := by
  intro y hy
  simp only [fourI, List.mem_cons, List.not_mem_nil, or_false] at hy
  rcases hy with rfl | rfl | rfl | rfl <;> exact u8_wf (by omega) (by omega)
theorem app_wf {a b : List Int} (ha : ∀ y ∈ a, (Lit.int .u8 y).wf = true) (hb : ∀ y ∈ b, (Lit.int .u8 y).wf = true) : ∀ y ∈ a ++ b, (Lit.int .u8 y).wf = true := fun y hy => (List.mem_append.1 hy).elim (ha y) (hb y)
theorem frame_wf (f s u g q0 q1 q2 q3 x0 x1 x2 : Int) : ∀ y ∈ (((((((((([1, f % 256] ++ b2 (wrap32 s)) ++ b2 (wrap32 u)) ++ b2 (wrap32 g)) ++ fourI q0) ++ fourI q1) ++ fourI q2) ++ fourI q3) ++ b2 x0) ++ b2 x1) ++ b2 x2), (Lit.int .u8 y).wf = true := by
  refine app_wf (app_wf (app_wf (app_wf (app_wf (app_wf (app_wf (app_wf (app_wf (app_wf ?_ (b2_wf _)) (b2_wf _)) (b2_wf _)) (fourI_wf _)) (fourI_wf _)) (fourI_wf _)) (fourI_wf _)) (b2_wf _)) (b2_wf _)) (b2_wf _)
  intro y hy
  simp only [List.mem_cons, List.not_mem_nil, or_false] at hy
  rcases hy with rfl | rfl <;> exact u8_wf (by omega) (by omega)
set_option maxRecDepth 100000 in
set_option maxHeartbeats 1000000 in
theorem fput_ok (f s u g q0 q1 q2 q3 x0 x1 x2 : Int) (a0 a1 : Addr) (w : World) (hR : Right f s u g x0 x1 x2) (h4 : Four w)
    (CK : ∀ w1, Below w.heap.size w w1 → Calls Tryd.prog 72 #[.agg #[.int .i64 f, .int .i64 s, .int .i64 u, .int .i64 g, .int .i32 q0, .int .i32 q1, .int .i32 q2, .int .i32 q3, .int .i32 x0, .int .i32 x1, .int .i32 x2]] w1 (CheckPost (Right f s u g x0 x1 x2) a0 w1)) :
    Calls Tryd.prog 37 #[.agg #[.int .i64 f, .int .i64 s, .int .i64 u, .int .i64 g, .int .i32 q0, .int .i32 q1, .int .i32 q2, .int .i32 q3, .int .i32 x0, .int .i32 x1, .int .i32 x2]] w fun e w' => ∃ v, e = .returned (.tuple #[v, .int .i64 0]) ∧ Below w.heap.size w w' ∧ w'.ownsRow w.heap.size 5 1 v 32 (vU8 (sealL (((((((((([1, f % 256] ++ b2 (wrap32 s)) ++ b2 (wrap32 u)) ++ b2 (wrap32 g)) ++ fourI q0) ++ fourI q1) ++ fourI q2) ++ fourI q3) ++ b2 x0) ++ b2 x1) ++ b2 x2))) := by
  obtain ⟨i0, hi, hz0, hz1, hz2⟩ := info_parts Tryd.infoU8
  have F0 := hid h4
  clear h4
  go_enter Tryd.func37, Tryd.ntmps37
  go_wp2_with fail
  refine (CK _ ((Below.refl _ w).alloc (Nat.le_refl _) _)).mono ?_
  rintro e w2 ⟨hb2, ⟨_, rfl⟩ | ⟨hno, _⟩⟩
  case inr => exact absurd hR hno
  clear CK hR
  go_wp2_with fail
  refine (num_nil w2).mono ?_
  rintro e w3 ⟨rfl, rfl⟩
  have hrow := (hb2.block w.heap.size (by simp)).trans (heap_alloc_new w _)
  have c0 : w2.cell? ⟨w.heap.size, 0, none⟩ = some (.int .i64 f) := (cell_of_row _ _ 0 _ _ _ hrow).trans rfl
  have hq1 := FrI.lift (frI_start _ w w2 w.heap.size 1 (f % 256) hrow (((Below.refl _ w).alloc (Nat.le_refl _) _).trans (hb2.mono (by simp))))
  go_wp2_with ((with_reducible refine at_op (.load 3 (.tmp 24)) ?_); generalize ((w2.alloc (.cells #[.int .u8 1, .int .u8 (f % 256)] 5)).alloc (.cells #[.slice (some ⟨w2.heap.size, 0, none⟩) 2 2] 22)) = W0 at *; obtain ⟨H0, d1, d2, d3⟩ := hq1)
  clear hb2 hrow c0
  generalize w2.heap.size + 1 = B at *
  refine wp_loop_rounds 4 ?_
  rw [rounds_succ]
  go_wp2_with fail
  refine (two_any _ w.heap.size B _ _ w W0 H0 (by simp [b2, fourI])).mono ?_
  rintro e W1 ⟨⟨vv, rfl⟩, H1⟩
  clear H0
  go_wp2_with fail
  rw [rounds_succ]
  go_wp2_with fail
  refine (two_any _ w.heap.size B _ _ w W1 H1 (by simp [b2, fourI])).mono ?_
  rintro e W2 ⟨⟨vv, rfl⟩, H2⟩
  clear H1
  go_wp2_with fail
  rw [rounds_succ]
  go_wp2_with fail
  refine (two_any _ w.heap.size B _ _ w W2 H2 (by simp [b2, fourI])).mono ?_
  rintro e W3 ⟨⟨vv, rfl⟩, H3⟩
  clear H2
  obtain ⟨⟨d4, d5, d6, d7⟩, d8, d9, d10⟩ := FrI.tail H3
  clear d1 d2 d3
  go_wp2_with fail
  rw [rounds_succ]
  go_wp2_with fail
  obtain ⟨l, hl⟩ : ∃ l, l = ((([1, f % 256] ++ b2 (wrap32 s)) ++ b2 (wrap32 u)) ++ b2 (wrap32 g)) := ⟨_, rfl⟩
  have HL := hid (show l.length ≤ 900 by rw [hl]; simp [b2])
  rw [← hl] at H3
  have HLE := hid hl
  clear hl d4 d5 d6 d7
  go_loopw [41] (fun i wr => ∃ k : Nat, k ≤ 4 ∧ i = .int .i64 k ∧ FrI #[.int .i64 f, .int .i64 s, .int .i64 u, .int .i64 g, .int .i32 q0, .int .i32 q1, .int .i32 q2, .int .i32 q3, .int .i32 x0, .int .i32 x1, .int .i32 x2] w.heap.size B w (l ++ ([q0, q1, q2, q3].take k).flatMap fourI) wr) (fun i _ => 4 - (intOf i).toNat)
  case atStart => exact ⟨0, by omega, rfl, by simpa using H3⟩
  case round =>
    obtain ⟨k, hk, rfl, H⟩ := hrel
    by_cases hlt : k < 4
    · have hlt' : (k : Int) < 4 := by omega
      obtain ⟨x, hx⟩ : ∃ x, x = [q0, q1, q2, q3].getD k 0 := ⟨_, rfl⟩
      have ix := fun (w : World) => run_index_cells (P := Tryd.prog) w (t := 48) .i64 k #[.int .i32 q0, .int .i32 q1, .int .i32 q2, .int .i32 q3] (.int .i32 ([q0, q1, q2, q3][k]'hlt)) Tryd.underlying48 (by kernel_rfl) (by kernel_rfl) hlt (by rcases k with _ | _ | _ | _ | k <;> first | rfl | omega)
      have TK := hid (List.take_succ_eq_append_getElem (show k < [q0, q1, q2, q3].length from hlt))
      have TG := hid (show x = [q0, q1, q2, q3][k]'hlt by rw [hx, List.getD_eq_getElem?_getD, List.getElem?_eq_getElem (show k < [q0, q1, q2, q3].length from hlt)]; rfl)
      have LN := hid (show (l ++ ([q0, q1, q2, q3].take k).flatMap fourI).length ≤ 1000 by
        have h1 := HL.out
        have : (([q0, q1, q2, q3].take k).flatMap fourI).length ≤ 16 := by
          rcases k with _ | _ | _ | _ | k <;> first | (simp [fourI]) | omega
        simp only [List.length_append]; omega)
      clear hx
      obtain ⟨lk, hlk⟩ : ∃ lk, lk = l ++ ([q0, q1, q2, q3].take k).flatMap fourI := ⟨_, rfl⟩
      have HK := hid hlk
      rw [← hlk] at H LN
      clear hlk
      obtain ⟨p0, hhB, ⟨v, pB, hown⟩, hbw⟩ := H
      have hBl := lt_of_row pB
      have cB : wr.drew.cell? ⟨B, 0, none⟩ = some v := (cell_of_row wr B 0 _ _ _ pB).trans rfl
      have hsz := lt_of_row p0
      go_wp2_with fail
      rw [← TG.out]
      refine wp_region_F' (B := w.heap.size + 1) (n := 5) (l := #[false, false, false, false, false]) (by kernel_rfl) (by kernel_rfl) (by kernel_rfl) ?_
      refine wpAnyF_take (i := 1) (v := ?vr1_1) (some 45) rfl rfl (by kernel_rfl) (by kernel_rfl) (by kernel_rfl) (fun _ _ _ h => h) (by rfl) ?hvr1_1 ?restr1_1
      case hvr1_1 => (intro w' hb; go_simp; try with_reducible rfl)
      simp only [Act.put, List.setIfInBounds_toArray, List.set_cons_zero, List.set_cons_succ]
      refine wpAnyF_two (i := 0) (j := 2) (by kernel_rfl) rfl (by rfl) rfl (by rfl) (fun K hK => ?_) (fun K hK => ?_)
      · go_simp
        refine hK.out _ _ ⟨(Below.refl _ _), ?_⟩
        clear hK K
        simp only [List.setIfInBounds_toArray, List.set_cons_zero, List.set_cons_succ]
        refine wpAnyF_alone (i := 2) rfl (by kernel_rfl) (by rfl) (fun K hK => ?_)
        go_simp
        refine (bytes4_any x _).mono ?_
        rintro e w4 ⟨b, c, rfl, hb, hc4, hcm, hbb, hbl, k0, k1, k2, k3⟩
        have cB4 : w4.cell? ⟨B, 0, none⟩ = some v := (hb.cell (p := ⟨B, 0, none⟩) (by simpa using hBl)).trans cB
        have hown4 : w4.ownsRow (w.heap.size + 1) 5 1 v lk.length (vU8 lk) := ownsRow_below (hown.drew) (by simpa using hb)
        have hb4 : Below wr.heap.size wr w4 := ((Below.refl _ wr).drew).trans (by simpa using hb)
        refine hK.out _ _ (hb.mono (by simp; omega)) ?_
        clear hK K
        simp only [List.setIfInBounds_toArray, List.set_cons_zero, List.set_cons_succ]
        refine wpAnyF_alone (i := 3) rfl (by kernel_rfl) (by rfl) (fun K hK => ?_)
        refine wp_append_own _ (.tmp 44) (.tmp 46) 22 rfl (w.heap.size + 1) 5 i0 (.int .u8 0) 1 1 Tryd.underlying22 hi hz0 hz1 hz2 rfl (by decide) v _ _ rfl hown4 ⟨b, 0, none⟩ 4 c [.int .u8 (x / 16777216 % 256), .int .u8 (x / 65536 % 256), .int .u8 (x / 256 % 256), .int .u8 (x % 256)] rfl rfl ?_ ?_ ?_ ?_ ?_ ?_
        · intro q t hq
          rcases q with _ | _ | _ | _ | q <;> simp at hq
          · subst hq; simpa [add_plain] using k0
          · subst hq; simpa [add_plain] using k1
          · subst hq; simpa [add_plain] using k2
          · subst hq; simpa [add_plain] using k3
        · simp [Value.oneCell']
        · have := LN.out; simp [maxLen]; omega
        · have := LN.out; omega
        · have := hb4.size; omega
        intro v' w5 hown5 hg5 _
        have hr : ∀ k, v.ownBlock = some k → w.heap.size + 1 ≤ k := fun k e => (hown4.lt k e).1
        have hb : Below (w.heap.size + 1) w4 w5 := (Below.refl _ _).grown hg5 (by have := hb4.size; omega) hr
        have pB4 : w4.heap[B]? = some (.cells #[v] 22 (0, 0)) := (hb4.block _ hBl).trans pB
        have pB5 : w5.heap[B]? = some (.cells #[v] 22 (0, 0)) := (hg5.block B (lt_of_row pB4) (fun e => row_not (u := v) hown4 pB4 (by decide) e.symm)).trans pB4
        have cB5 := (cell_of_row w5 B 0 _ _ _ pB5).trans rfl
        have fB5 := frozen_of_row w5 B 0 _ _ pB5
        refine hK.out _ _ hb ?_
        clear hK K
        simp only [List.setIfInBounds_toArray, List.set_cons_zero, List.set_cons_succ]
        refine wpAnyF_alone (i := 4) rfl (by kernel_rfl) (by rfl) (fun K hK => ?_)
        obtain ⟨sa, sn, sc, rfl⟩ : ∃ a n c, v' = .slice a n c := by
          obtain ⟨_, ⟨h, _⟩ | ⟨g, cap, cur, h, _⟩⟩ := id hown5
          · exact ⟨_, _, _, h⟩
          · exact ⟨_, _, _, h⟩
        go_simp
        have FS := frI_four (w := w) p0 hhB hbw hb4 hb pB5 hown5
        refine hK.out _ _ ((Below.refl _ w5).setCell (p := ⟨B, 0, none⟩) (by simp; omega) _) ?_
        clear hK K
        simp only [List.setIfInBounds_toArray, List.set_cons_zero, List.set_cons_succ]
        refine wpAnyF_done (by kernel_rfl) ?_ _
        go_wp2_with fail
        go_roundw
        case rel =>
          refine ⟨k + 1, by omega, by go_num, ?_⟩
          rw [TK.out, List.flatMap_append, ← List.append_assoc, ← HK.out, ← TG.out]
          simpa using FS
        case measure => simp [intOf]; omega
      · go_simp
        refine (bytes4_any x _).mono ?_
        rintro e w4 ⟨b, c, rfl, hb, hc4, hcm, hbb, hbl, k0, k1, k2, k3⟩
        have cB4 : w4.cell? ⟨B, 0, none⟩ = some v := (hb.cell (p := ⟨B, 0, none⟩) (by simpa using hBl)).trans cB
        have hown4 : w4.ownsRow (w.heap.size + 1) 5 1 v lk.length (vU8 lk) := ownsRow_below (hown.drew) (by simpa using hb)
        have hb4 : Below wr.heap.size wr w4 := ((Below.refl _ wr).drew).trans (by simpa using hb)
        refine hK.out _ _ ⟨(hb.mono (by simp; omega)), ?_⟩
        clear hK K
        simp only [List.setIfInBounds_toArray, List.set_cons_zero, List.set_cons_succ]
        refine wpAnyF_alone (i := 0) rfl (by kernel_rfl) (by rfl) (fun K hK => ?_)
        go_simp
        refine hK.out _ _ (Below.refl _ _) ?_
        clear hK K
        simp only [List.setIfInBounds_toArray, List.set_cons_zero, List.set_cons_succ]
        refine wpAnyF_alone (i := 3) rfl (by kernel_rfl) (by rfl) (fun K hK => ?_)
        refine wp_append_own _ (.tmp 44) (.tmp 46) 22 rfl (w.heap.size + 1) 5 i0 (.int .u8 0) 1 1 Tryd.underlying22 hi hz0 hz1 hz2 rfl (by decide) v _ _ rfl hown4 ⟨b, 0, none⟩ 4 c [.int .u8 (x / 16777216 % 256), .int .u8 (x / 65536 % 256), .int .u8 (x / 256 % 256), .int .u8 (x % 256)] rfl rfl ?_ ?_ ?_ ?_ ?_ ?_
        · intro q t hq
          rcases q with _ | _ | _ | _ | q <;> simp at hq
          · subst hq; simpa [add_plain] using k0
          · subst hq; simpa [add_plain] using k1
          · subst hq; simpa [add_plain] using k2
          · subst hq; simpa [add_plain] using k3
        · simp [Value.oneCell']
        · have := LN.out; simp [maxLen]; omega
        · have := LN.out; omega
        · have := hb4.size; omega
        intro v' w5 hown5 hg5 _
        have hr : ∀ k, v.ownBlock = some k → w.heap.size + 1 ≤ k := fun k e => (hown4.lt k e).1
        have hb : Below (w.heap.size + 1) w4 w5 := (Below.refl _ _).grown hg5 (by have := hb4.size; omega) hr
        have pB4 : w4.heap[B]? = some (.cells #[v] 22 (0, 0)) := (hb4.block _ hBl).trans pB
        have pB5 : w5.heap[B]? = some (.cells #[v] 22 (0, 0)) := (hg5.block B (lt_of_row pB4) (fun e => row_not (u := v) hown4 pB4 (by decide) e.symm)).trans pB4
        have cB5 := (cell_of_row w5 B 0 _ _ _ pB5).trans rfl
        have fB5 := frozen_of_row w5 B 0 _ _ pB5
        refine hK.out _ _ hb ?_
        clear hK K
        simp only [List.setIfInBounds_toArray, List.set_cons_zero, List.set_cons_succ]
        refine wpAnyF_alone (i := 4) rfl (by kernel_rfl) (by rfl) (fun K hK => ?_)
        obtain ⟨sa, sn, sc, rfl⟩ : ∃ a n c, v' = .slice a n c := by
          obtain ⟨_, ⟨h, _⟩ | ⟨g, cap, cur, h, _⟩⟩ := id hown5
          · exact ⟨_, _, _, h⟩
          · exact ⟨_, _, _, h⟩
        go_simp
        have FS := frI_four (w := w) p0 hhB hbw hb4 hb pB5 hown5
        refine hK.out _ _ ((Below.refl _ w5).setCell (p := ⟨B, 0, none⟩) (by simp; omega) _) ?_
        clear hK K
        simp only [List.setIfInBounds_toArray, List.set_cons_zero, List.set_cons_succ]
        refine wpAnyF_done (by kernel_rfl) ?_ _
        go_wp2_with fail
        go_roundw
        case rel =>
          refine ⟨k + 1, by omega, by go_num, ?_⟩
          rw [TK.out, List.flatMap_append, ← List.append_assoc, ← HK.out, ← TG.out]
          simpa using FS
        case measure => simp [intOf]; omega
    · obtain rfl : k = 4 := by omega
      have hq : [q0, q1, q2, q3].take 4 = [q0, q1, q2, q3] := rfl
      rw [hq] at H
      have LE := hid (show l ++ [q0, q1, q2, q3].flatMap fourI = ((((((([1, f % 256] ++ b2 (wrap32 s)) ++ b2 (wrap32 u)) ++ b2 (wrap32 g)) ++ fourI q0) ++ fourI q1) ++ fourI q2) ++ fourI q3) by rw [HLE.out]; simp only [List.flatMap_cons, List.flatMap_nil, List.append_nil, List.append_assoc])
      rw [LE.out] at H
      obtain ⟨-, e8, e9, e10⟩ := FrI.tail H
      clear H3 d8 d9 d10 hq LE HLE HL
      go_wp2_with fail
      refine wp_loop_rounds 4 ?_
      rw [rounds_succ]
      go_wp2_with fail
      refine (two_any _ w.heap.size B _ _ w wr H (by simp [b2, fourI])).mono ?_
      rintro e W8 ⟨⟨vv8, rfl⟩, H8⟩
      clear H
      go_wp2_with fail
      rw [rounds_succ]
      go_wp2_with fail
      refine (two_any _ w.heap.size B _ _ w W8 H8 (by simp [b2, fourI])).mono ?_
      rintro e W9 ⟨⟨vv9, rfl⟩, H9⟩
      clear H8
      go_wp2_with fail
      rw [rounds_succ]
      go_wp2_with fail
      refine (two_any _ w.heap.size B _ _ w W9 H9 (by simp [b2, fourI])).mono ?_
      rintro e W10 ⟨⟨vv10, rfl⟩, H10⟩
      clear H9
      obtain ⟨p0, hhB, ⟨v, pB, hown⟩, hbw⟩ := H10
      have cB := (cell_of_row W10 B 0 _ _ _ pB).trans rfl
      have hr := reads_of_owns hown (fun x hx => frame_wf f s u g q0 q1 q2 q3 x0 x1 x2 x hx)
      have SE := hid (seal_any v _ W10 hr (F0.out.later hbw) (by simp [b2, fourI]))
      clear hown hr pB
      go_wp2_with fail
      rw [rounds_succ]
      go_wp2_with fail
      refine SE.out.mono ?_
      rintro e W11 ⟨v11, rfl, hb11, hown11⟩
      have hsz := hbw.size
      go_wp2_with fail
      go_ret2
      exact ⟨v11, rfl, chain hbw hb11, own_base hown11 hsz⟩
set_option maxRecDepth 100000 in
set_option maxHeartbeats 1000000 in
theorem fput_bad (f s u g q0 q1 q2 q3 x0 x1 x2 : Int) (a0 a1 : Addr) (w : World) (hR : ¬ Right f s u g x0 x1 x2) (E : ErrsAt w a0 a1)
    (CK : ∀ w1, Below w.heap.size w w1 → Calls Tryd.prog 72 #[.agg #[.int .i64 f, .int .i64 s, .int .i64 u, .int .i64 g, .int .i32 q0, .int .i32 q1, .int .i32 q2, .int .i32 q3, .int .i32 x0, .int .i32 x1, .int .i32 x2]] w1 (CheckPost (Right f s u g x0 x1 x2) a0 w1)) :
    Calls Tryd.prog 37 #[.agg #[.int .i64 f, .int .i64 s, .int .i64 u, .int .i64 g, .int .i32 q0, .int .i32 q1, .int .i32 q2, .int .i32 q3, .int .i32 x0, .int .i32 x1, .int .i32 x2]] w fun e w' => e = .returned (.tuple #[.slice none 0 0, .int .i64 6]) ∧ Below w.heap.size w w' := by
  have E0 := hid E
  clear E
  go_enter Tryd.func37, Tryd.ntmps37
  go_wp2_with fail
  refine (CK _ ((Below.refl _ w).alloc (Nat.le_refl _) _)).mono ?_
  rintro e w2 ⟨hb2, ⟨h, _⟩ | ⟨_, p, rfl, hp⟩⟩
  case inl => exact absurd h hR
  have hB : Below w.heap.size w w2 := ((Below.refl _ w).alloc (Nat.le_refl _) _).trans (hb2.mono (by simp))
  have NR := hid (num_range p a0 a1 w2 (E0.out.later hB) hp)
  clear CK hR hp hb2
  go_wp2_with fail
  refine NR.out.mono ?_
  rintro e w3 ⟨rfl, rfl⟩
  go_wp2
  go_ret2
  exact ⟨rfl, hB⟩
end Go.Proofs.YtecbfegohdllbaaDoor
