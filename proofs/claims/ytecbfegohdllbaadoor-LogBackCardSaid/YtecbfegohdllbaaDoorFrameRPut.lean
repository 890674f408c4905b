/- The reference of layer 36 (frame): Put: a contract. -/
import Derived.Test.YtecbfegohdllbaaDoorFrameRight
namespace Go.Proofs.YtecbfegohdllbaaDoor
open Go.RowKit
set_option linter.unusedVariables false
set_option linter.unusedSimpArgs false
/-- the text under way: the report's box, the text's row -/
def RfI (C : Array Value) (h : Nat) (w : World) (v : Value) (l : List Int) (W : World) : Prop :=
  W.heap[h]? = some (.cells C 50 (0, 0)) ∧ W.ownsRow (h + 1) 5 1 v l.length (vU8 l) ∧ Below h w W
theorem rfI_start (C : Array Value) (w w2 : World) (h : Nat) (x y : Int) (hh : w2.heap[h]? = some (.cells C 50 (0, 0))) (hb : Below h w w2) :
    RfI C h w (.slice (some ⟨w2.heap.size, 0, none⟩) 2 2) [x, y] (w2.alloc (.cells #[.int .u8 x, .int .u8 y] 5)) := by
  have hlt := lt_of_row hh
  exact ⟨(Below.heap_alloc _ _ _ hlt).trans hh, ⟨rfl, .inr ⟨w2.heap.size, 2, #[.int .u8 x, .int .u8 y], rfl, by omega, heap_alloc_new w2 _, by simp, by decide, rfl, rfl⟩⟩, hb.alloc (by omega) _⟩
theorem rfI_more {C : Array Value} {h : Nat} {w W W4 W5 : World} {v v' : Value} {l m : List Int} (H : RfI C h w v l W) (hb : Below W.heap.size W W4) (hg : W4.grownBy W5 v.ownBlock) (ho : W5.ownsRow (h + 1) 5 1 v' (l.length + m.length) (vU8 l ++ vU8 m)) : RfI C h w v' (l ++ m) W5 := by
  obtain ⟨h1, h2, h3⟩ := H
  have hlt := lt_of_row h1
  have hs := hb.size
  have hr : ∀ k, v.ownBlock = some k → h + 1 ≤ k := fun k e => (h2.lt k e).1
  have hB : Below (h + 1) W4 W5 := (Below.refl _ _).grown hg (by omega) hr
  refine ⟨(hB.block h (by omega)).trans ((hb.block h hlt).trans h1), ?_, (h3.trans (hb.mono (by omega))).trans (hB.mono (by omega))⟩
  have : vU8 (l ++ m) = vU8 l ++ vU8 m := by simp [vU8]
  rw [this, List.length_append]; exact ho
theorem rfI_cells {f s u g q0 q1 q2 q3 x0 x1 x2 : Int} {h : Nat} {w W : World} {v : Value} {l : List Int} (H : RfI #[.int .i64 f, .int .i64 s, .int .i64 u, .int .i64 g, .int .i32 q0, .int .i32 q1, .int .i32 q2, .int .i32 q3, .int .i32 x0, .int .i32 x1, .int .i32 x2] h w v l W) :
    (W.cell? ⟨h, 1, none⟩ = some (.int .i64 s) ∧ W.cell? ⟨h, 2, none⟩ = some (.int .i64 u) ∧ W.cell? ⟨h, 3, none⟩ = some (.int .i64 g)) ∧ (W.cell? ⟨h, 4, none⟩ = some (.int .i32 q0) ∧ W.cell? ⟨h, 5, none⟩ = some (.int .i32 q1) ∧ W.cell? ⟨h, 6, none⟩ = some (.int .i32 q2) ∧ W.cell? ⟨h, 7, none⟩ = some (.int .i32 q3)) ∧ W.cell? ⟨h, 8, none⟩ = some (.int .i32 x0) ∧ W.cell? ⟨h, 9, none⟩ = some (.int .i32 x1) ∧ W.cell? ⟨h, 10, none⟩ = some (.int .i32 x2) :=
  ⟨⟨(cell_of_row _ _ 1 _ _ _ H.1).trans rfl, (cell_of_row _ _ 2 _ _ _ H.1).trans rfl, (cell_of_row _ _ 3 _ _ _ H.1).trans rfl⟩, ⟨(cell_of_row _ _ 4 _ _ _ H.1).trans rfl, (cell_of_row _ _ 5 _ _ _ H.1).trans rfl, (cell_of_row _ _ 6 _ _ _ H.1).trans rfl, (cell_of_row _ _ 7 _ _ _ H.1).trans rfl⟩, (cell_of_row _ _ 8 _ _ _ H.1).trans rfl, (cell_of_row _ _ 9 _ _ _ H.1).trans rfl, (cell_of_row _ _ 10 _ _ _ H.1).trans rfl⟩
theorem rframe_wf (f s u g q0 q1 q2 q3 x0 x1 x2 : Int) : ∀ y ∈ (((((((((([1, f % 256] ++ b2 s) ++ b2 u) ++ b2 g) ++ fourI q0) ++ fourI q1) ++ fourI q2) ++ fourI q3) ++ b2 x0) ++ b2 x1) ++ b2 x2), (Lit.int .u8 y).wf = true := by
  refine app_wf (app_wf (app_wf (app_wf (app_wf (app_wf (app_wf (app_wf (app_wf (app_wf ?_ (b2_wf _)) (b2_wf _)) (b2_wf _)) (fourI_wf _)) (fourI_wf _)) (fourI_wf _)) (fourI_wf _)) (b2_wf _)) (b2_wf _)) (b2_wf _)
  intro y hy
  simp only [List.mem_cons, List.not_mem_nil, or_false] at hy
  rcases hy with rfl | rfl <;> exact u8_wf (by omega) (by omega)
set_option maxRecDepth 100000 in
set_option maxHeartbeats 1000000 in
theorem rfput_ok (f s u g q0 q1 q2 q3 x0 x1 x2 : Int) (w : World) (hR : Right f s u g x0 x1 x2) (b0 : -2147483648 ≤ x0 ∧ x0 ≤ 2147483647) (b1 : -2147483648 ≤ x1 ∧ x1 ≤ 2147483647) (b2' : -2147483648 ≤ x2 ∧ x2 ≤ 2147483647)
    (e0 : -2147483648 ≤ q0 ∧ q0 ≤ 2147483647) (e1 : -2147483648 ≤ q1 ∧ q1 ≤ 2147483647) (e2 : -2147483648 ≤ q2 ∧ q2 ≤ 2147483647) (e3 : -2147483648 ≤ q3 ∧ q3 ≤ 2147483647) :
    Calls Tryd.prog 38 #[.agg #[.int .i64 f, .int .i64 s, .int .i64 u, .int .i64 g, .int .i32 q0, .int .i32 q1, .int .i32 q2, .int .i32 q3, .int .i32 x0, .int .i32 x1, .int .i32 x2]] w fun e w' => ∃ v, e = .returned (.tuple #[v, .int .i64 0]) ∧ Below w.heap.size w w' ∧ w'.ownsRow w.heap.size 5 1 v 32 (vU8 (sealL (((((((((([1, f % 256] ++ b2 s) ++ b2 u) ++ b2 g) ++ fourI q0) ++ fourI q1) ++ fourI q2) ++ fourI q3) ++ b2 x0) ++ b2 x1) ++ b2 x2))) := by
  obtain ⟨i0, hi, hz0, hz1, hz2⟩ := info_parts Tryd.infoU8
  have Q0 := hid e0
  have Q1 := hid e1
  have Q2 := hid e2
  have Q3 := hid e3
  have X0 := hid b0
  have X1 := hid b1
  have X2 := hid b2'
  have RR := hid (fun w1 => rright_any f s u g q0 q1 q2 q3 x0 x1 x2 w1 b0 b1 b2')
  go_enter Tryd.func38, Tryd.ntmps38
  go_wp2_with fail
  refine (RR.out _).mono ?_
  rintro e w2 ⟨b, rfl, hbR, hb2⟩
  obtain rfl : b = true := hbR.2 hR
  have HRR := hid hR
  clear hbR hR RR
  have hrow := (hb2.block w.heap.size (by simp)).trans (heap_alloc_new w _)
  have c0 : w2.cell? ⟨w.heap.size, 0, none⟩ = some (.int .i64 f) := (cell_of_row _ _ 0 _ _ _ hrow).trans rfl
  have H0 := rfI_start _ w w2 w.heap.size 1 (f % 256) hrow (((Below.refl _ w).alloc (Nat.le_refl _) _).trans (hb2.mono (by simp)))
  obtain ⟨⟨d1, d2, d3⟩, -⟩ := rfI_cells H0
  go_wp2_with fail
  generalize (w2.alloc (.cells #[.int .u8 1, .int .u8 (f % 256)] 5)) = W0 at *
  refine (rtwo_any s W0 (by obtain ⟨-, hs, hu, hg, -⟩ := HRR.out; omega)).mono ?_
  rintro e w3 ⟨rfl, rfl⟩
  go_wp2_with (at_builtin; refine wpList_append_own _ rfl _ _ 22 rfl (w.heap.size + 1) 5 i0 (.int .u8 0) 1 1 Tryd.underlying22 hi hz0 hz1 hz2 rfl (by decide) _ _ _ rfl (H0.2.1.alloc _) ⟨W0.heap.size, 0, none⟩ 2 2 [.int .u8 (s / 256 % 256), .int .u8 (s % 256)] rfl rfl ?c1 ?c2 ?c3 ?c4 ?c5 ?_)
  case c1 =>
    intro j t hj
    rcases j with _ | _ | j <;> simp at hj <;> subst hj <;> simp [add_plain]
  case c2 => simp [Value.oneCell']
  case c3 => simp [b2, maxLen]
  case c4 => simp [b2]
  case c5 => have := lt_of_row H0.1; simp; omega
  intro v1 W1 hown5 hg5 _
  have H1 := rfI_more (m := b2 s) H0 ((Below.refl _ W0).alloc (Nat.le_refl _) _) hg5 hown5
  obtain ⟨⟨e1, e2, e3⟩, -⟩ := rfI_cells H1
  clear hown5 hg5 d1 d2 d3
  have d1 := e1
  have d2 := e2
  have d3 := e3
  clear e1 e2 e3 H0
  go_wp2_with fail
  refine (rtwo_any u W1 (by obtain ⟨-, hs, hu, hg, -⟩ := HRR.out; omega)).mono ?_
  rintro e w3 ⟨rfl, rfl⟩
  go_wp2_with (at_builtin; refine wpList_append_own _ rfl _ _ 22 rfl (w.heap.size + 1) 5 i0 (.int .u8 0) 1 1 Tryd.underlying22 hi hz0 hz1 hz2 rfl (by decide) _ _ _ rfl (H1.2.1.alloc _) ⟨W1.heap.size, 0, none⟩ 2 2 [.int .u8 (u / 256 % 256), .int .u8 (u % 256)] rfl rfl ?c1 ?c2 ?c3 ?c4 ?c5 ?_)
  case c1 =>
    intro j t hj
    rcases j with _ | _ | j <;> simp at hj <;> subst hj <;> simp [add_plain]
  case c2 => simp [Value.oneCell']
  case c3 => simp [b2, maxLen]
  case c4 => simp [b2]
  case c5 => have := lt_of_row H1.1; simp; omega
  intro v2 W2 hown5 hg5 _
  have H2 := rfI_more (m := b2 u) H1 ((Below.refl _ W1).alloc (Nat.le_refl _) _) hg5 hown5
  obtain ⟨⟨e1, e2, e3⟩, -⟩ := rfI_cells H2
  clear hown5 hg5 d1 d2 d3
  have d1 := e1
  have d2 := e2
  have d3 := e3
  clear e1 e2 e3 H1
  go_wp2_with fail
  refine (rtwo_any g W2 (by obtain ⟨-, hs, hu, hg, -⟩ := HRR.out; omega)).mono ?_
  rintro e w3 ⟨rfl, rfl⟩
  go_wp2_with (at_builtin; refine wpList_append_own _ rfl _ _ 22 rfl (w.heap.size + 1) 5 i0 (.int .u8 0) 1 1 Tryd.underlying22 hi hz0 hz1 hz2 rfl (by decide) _ _ _ rfl (H2.2.1.alloc _) ⟨W2.heap.size, 0, none⟩ 2 2 [.int .u8 (g / 256 % 256), .int .u8 (g % 256)] rfl rfl ?c1 ?c2 ?c3 ?c4 ?c5 ?_)
  case c1 =>
    intro j t hj
    rcases j with _ | _ | j <;> simp at hj <;> subst hj <;> simp [add_plain]
  case c2 => simp [Value.oneCell']
  case c3 => simp [b2, maxLen]
  case c4 => simp [b2]
  case c5 => have := lt_of_row H2.1; simp; omega
  intro v3 W3 hown5 hg5 _
  have H3 := rfI_more (m := b2 g) H2 ((Below.refl _ W2).alloc (Nat.le_refl _) _) hg5 hown5
  obtain ⟨⟨e1, e2, e3⟩, -⟩ := rfI_cells H3
  clear hown5 hg5 d1 d2 d3
  have d1 := e1
  have d2 := e2
  have d3 := e3
  clear e1 e2 e3 H2
  go_wp2_with fail
  obtain ⟨-, ⟨d4, d5, d6, d7⟩, -⟩ := rfI_cells H3
  clear d1 d2 d3 e0 e1 e2 e3 b0 b1 b2'
  refine wp_loop_rounds 5 ?_
  rw [rounds_succ]
  go_wp2_with fail
  refine (rbytes4_any q0 W3 Q0.out).mono ?_
  rintro e w3 ⟨b, c, rfl, hb, hc4, hcm, hbb, hbl, k0, k1, k2, k3⟩
  go_wp2_with (at_builtin; refine wpList_append_own _ rfl _ _ 22 rfl (w.heap.size + 1) 5 i0 (.int .u8 0) 1 1 Tryd.underlying22 hi hz0 hz1 hz2 rfl (by decide) _ _ _ rfl (ownsRow_below H3.2.1 hb) ⟨b, 0, none⟩ 4 c [.int .u8 (q0 / 16777216 % 256), .int .u8 (q0 / 65536 % 256), .int .u8 (q0 / 256 % 256), .int .u8 (q0 % 256)] rfl rfl ?c1 ?c2 ?c3 ?c4 ?c5 ?_)
  case c1 =>
    intro j t hj
    rcases j with _ | _ | _ | _ | j <;> simp at hj <;> subst hj <;> first | simpa [add_plain] using k0 | simpa [add_plain] using k1 | simpa [add_plain] using k2 | simpa [add_plain] using k3
  case c2 => simp [Value.oneCell']
  case c3 => simp [b2, fourI, maxLen]
  case c4 => simp [b2, fourI]
  case c5 => have := lt_of_row H3.1; have := hb.size; omega
  intro v4 W4 hown5 hg5 _
  have H4 := rfI_more (m := fourI q0) H3 hb hg5 hown5
  clear hown5 hg5 d4 d5 d6 d7 k0 k1 k2 k3 hb hbb hbl hc4 hcm
  obtain ⟨-, ⟨d4, d5, d6, d7⟩, -⟩ := rfI_cells H4
  clear H3
  go_wp2_with fail
  rw [rounds_succ]
  go_wp2_with fail
  refine (rbytes4_any q1 W4 Q1.out).mono ?_
  rintro e w3 ⟨b, c, rfl, hb, hc4, hcm, hbb, hbl, k0, k1, k2, k3⟩
  go_wp2_with (at_builtin; refine wpList_append_own _ rfl _ _ 22 rfl (w.heap.size + 1) 5 i0 (.int .u8 0) 1 1 Tryd.underlying22 hi hz0 hz1 hz2 rfl (by decide) _ _ _ rfl (ownsRow_below H4.2.1 hb) ⟨b, 0, none⟩ 4 c [.int .u8 (q1 / 16777216 % 256), .int .u8 (q1 / 65536 % 256), .int .u8 (q1 / 256 % 256), .int .u8 (q1 % 256)] rfl rfl ?c1 ?c2 ?c3 ?c4 ?c5 ?_)
  case c1 =>
    intro j t hj
    rcases j with _ | _ | _ | _ | j <;> simp at hj <;> subst hj <;> first | simpa [add_plain] using k0 | simpa [add_plain] using k1 | simpa [add_plain] using k2 | simpa [add_plain] using k3
  case c2 => simp [Value.oneCell']
  case c3 => simp [b2, fourI, maxLen]
  case c4 => simp [b2, fourI]
  case c5 => have := lt_of_row H4.1; have := hb.size; omega
  intro v5 W5 hown5 hg5 _
  have H5 := rfI_more (m := fourI q1) H4 hb hg5 hown5
  clear hown5 hg5 d4 d5 d6 d7 k0 k1 k2 k3 hb hbb hbl hc4 hcm
  obtain ⟨-, ⟨d4, d5, d6, d7⟩, -⟩ := rfI_cells H5
  clear H4
  go_wp2_with fail
  rw [rounds_succ]
  go_wp2_with fail
  refine (rbytes4_any q2 W5 Q2.out).mono ?_
  rintro e w3 ⟨b, c, rfl, hb, hc4, hcm, hbb, hbl, k0, k1, k2, k3⟩
  go_wp2_with (at_builtin; refine wpList_append_own _ rfl _ _ 22 rfl (w.heap.size + 1) 5 i0 (.int .u8 0) 1 1 Tryd.underlying22 hi hz0 hz1 hz2 rfl (by decide) _ _ _ rfl (ownsRow_below H5.2.1 hb) ⟨b, 0, none⟩ 4 c [.int .u8 (q2 / 16777216 % 256), .int .u8 (q2 / 65536 % 256), .int .u8 (q2 / 256 % 256), .int .u8 (q2 % 256)] rfl rfl ?c1 ?c2 ?c3 ?c4 ?c5 ?_)
  case c1 =>
    intro j t hj
    rcases j with _ | _ | _ | _ | j <;> simp at hj <;> subst hj <;> first | simpa [add_plain] using k0 | simpa [add_plain] using k1 | simpa [add_plain] using k2 | simpa [add_plain] using k3
  case c2 => simp [Value.oneCell']
  case c3 => simp [b2, fourI, maxLen]
  case c4 => simp [b2, fourI]
  case c5 => have := lt_of_row H5.1; have := hb.size; omega
  intro v6 W6 hown5 hg5 _
  have H6 := rfI_more (m := fourI q2) H5 hb hg5 hown5
  clear hown5 hg5 d4 d5 d6 d7 k0 k1 k2 k3 hb hbb hbl hc4 hcm
  obtain ⟨-, ⟨d4, d5, d6, d7⟩, -⟩ := rfI_cells H6
  clear H5
  go_wp2_with fail
  rw [rounds_succ]
  go_wp2_with fail
  refine (rbytes4_any q3 W6 Q3.out).mono ?_
  rintro e w3 ⟨b, c, rfl, hb, hc4, hcm, hbb, hbl, k0, k1, k2, k3⟩
  go_wp2_with (at_builtin; refine wpList_append_own _ rfl _ _ 22 rfl (w.heap.size + 1) 5 i0 (.int .u8 0) 1 1 Tryd.underlying22 hi hz0 hz1 hz2 rfl (by decide) _ _ _ rfl (ownsRow_below H6.2.1 hb) ⟨b, 0, none⟩ 4 c [.int .u8 (q3 / 16777216 % 256), .int .u8 (q3 / 65536 % 256), .int .u8 (q3 / 256 % 256), .int .u8 (q3 % 256)] rfl rfl ?c1 ?c2 ?c3 ?c4 ?c5 ?_)
  case c1 =>
    intro j t hj
    rcases j with _ | _ | _ | _ | j <;> simp at hj <;> subst hj <;> first | simpa [add_plain] using k0 | simpa [add_plain] using k1 | simpa [add_plain] using k2 | simpa [add_plain] using k3
  case c2 => simp [Value.oneCell']
  case c3 => simp [b2, fourI, maxLen]
  case c4 => simp [b2, fourI]
  case c5 => have := lt_of_row H6.1; have := hb.size; omega
  intro v7 W7 hown5 hg5 _
  have H7 := rfI_more (m := fourI q3) H6 hb hg5 hown5
  clear hown5 hg5 d4 d5 d6 d7 k0 k1 k2 k3 hb hbb hbl hc4 hcm
  obtain ⟨-, ⟨d4, d5, d6, d7⟩, -⟩ := rfI_cells H7
  clear H6
  go_wp2_with fail
  rw [rounds_succ]
  go_wp2_with fail
  obtain ⟨-, -, d8, d9, d10⟩ := rfI_cells H7
  clear d4 d5 d6 d7
  refine wp_loop_rounds 4 ?_
  rw [rounds_succ]
  have vx := w64_i32 X0.out
  go_wp2_with fail
  clear vx
  refine (rtwo_any x0 W7 X0.out).mono ?_
  rintro e w3 ⟨rfl, rfl⟩
  go_wp2_with (at_builtin; refine wpList_append_own _ rfl _ _ 22 rfl (w.heap.size + 1) 5 i0 (.int .u8 0) 1 1 Tryd.underlying22 hi hz0 hz1 hz2 rfl (by decide) _ _ _ rfl (H7.2.1.alloc _) ⟨W7.heap.size, 0, none⟩ 2 2 [.int .u8 (x0 / 256 % 256), .int .u8 (x0 % 256)] rfl rfl ?c1 ?c2 ?c3 ?c4 ?c5 ?_)
  case c1 =>
    intro j t hj
    rcases j with _ | _ | j <;> simp at hj <;> subst hj <;> simp [add_plain]
  case c2 => simp [Value.oneCell']
  case c3 => simp [b2, fourI, maxLen]
  case c4 => simp [b2, fourI]
  case c5 => have := lt_of_row H7.1; simp; omega
  intro v8 W8 hown5 hg5 _
  have H8 := rfI_more (m := b2 x0) H7 ((Below.refl _ W7).alloc (Nat.le_refl _) _) hg5 hown5
  clear hown5 hg5 d8 d9 d10
  obtain ⟨-, -, d8, d9, d10⟩ := rfI_cells H8
  clear H7
  go_wp2_with fail
  rw [rounds_succ]
  have vx := w64_i32 X1.out
  go_wp2_with fail
  clear vx
  refine (rtwo_any x1 W8 X1.out).mono ?_
  rintro e w3 ⟨rfl, rfl⟩
  go_wp2_with (at_builtin; refine wpList_append_own _ rfl _ _ 22 rfl (w.heap.size + 1) 5 i0 (.int .u8 0) 1 1 Tryd.underlying22 hi hz0 hz1 hz2 rfl (by decide) _ _ _ rfl (H8.2.1.alloc _) ⟨W8.heap.size, 0, none⟩ 2 2 [.int .u8 (x1 / 256 % 256), .int .u8 (x1 % 256)] rfl rfl ?c1 ?c2 ?c3 ?c4 ?c5 ?_)
  case c1 =>
    intro j t hj
    rcases j with _ | _ | j <;> simp at hj <;> subst hj <;> simp [add_plain]
  case c2 => simp [Value.oneCell']
  case c3 => simp [b2, fourI, maxLen]
  case c4 => simp [b2, fourI]
  case c5 => have := lt_of_row H8.1; simp; omega
  intro v9 W9 hown5 hg5 _
  have H9 := rfI_more (m := b2 x1) H8 ((Below.refl _ W8).alloc (Nat.le_refl _) _) hg5 hown5
  clear hown5 hg5 d8 d9 d10
  obtain ⟨-, -, d8, d9, d10⟩ := rfI_cells H9
  clear H8
  go_wp2_with fail
  rw [rounds_succ]
  have vx := w64_i32 X2.out
  go_wp2_with fail
  clear vx
  refine (rtwo_any x2 W9 X2.out).mono ?_
  rintro e w3 ⟨rfl, rfl⟩
  go_wp2_with (at_builtin; refine wpList_append_own _ rfl _ _ 22 rfl (w.heap.size + 1) 5 i0 (.int .u8 0) 1 1 Tryd.underlying22 hi hz0 hz1 hz2 rfl (by decide) _ _ _ rfl (H9.2.1.alloc _) ⟨W9.heap.size, 0, none⟩ 2 2 [.int .u8 (x2 / 256 % 256), .int .u8 (x2 % 256)] rfl rfl ?c1 ?c2 ?c3 ?c4 ?c5 ?_)
  case c1 =>
    intro j t hj
    rcases j with _ | _ | j <;> simp at hj <;> subst hj <;> simp [add_plain]
  case c2 => simp [Value.oneCell']
  case c3 => simp [b2, fourI, maxLen]
  case c4 => simp [b2, fourI]
  case c5 => have := lt_of_row H9.1; simp; omega
  intro v10 W10 hown5 hg5 _
  have H10 := rfI_more (m := b2 x2) H9 ((Below.refl _ W9).alloc (Nat.le_refl _) _) hg5 hown5
  clear hown5 hg5 d8 d9 d10
  obtain ⟨-, -, d8, d9, d10⟩ := rfI_cells H10
  clear H9
  go_wp2_with fail
  rw [rounds_succ]
  go_wp2_with fail
  have hr := reads_of_owns H10.2.1 (fun y hy => rframe_wf f s u g q0 q1 q2 q3 x0 x1 x2 y hy)
  refine (rseal_any v10 _ W10 hr (by simp [b2, fourI])).mono ?_
  rintro e W11 ⟨v11, rfl, hb11, hown11⟩
  have hBB := H10.2.2
  have hsz := hBB.size
  clear hr H10 d8 d9 d10
  go_wp2_with fail
  go_ret2
  exact ⟨v11, rfl, chain hBB hb11, own_base hown11 hsz⟩
set_option maxRecDepth 20000 in
theorem rfput_bad (f s u g q0 q1 q2 q3 x0 x1 x2 : Int) (w : World) (hR : ¬ Right f s u g x0 x1 x2) (b0 : -2147483648 ≤ x0 ∧ x0 ≤ 2147483647) (b1 : -2147483648 ≤ x1 ∧ x1 ≤ 2147483647) (b2' : -2147483648 ≤ x2 ∧ x2 ≤ 2147483647) :
    Calls Tryd.prog 38 #[.agg #[.int .i64 f, .int .i64 s, .int .i64 u, .int .i64 g, .int .i32 q0, .int .i32 q1, .int .i32 q2, .int .i32 q3, .int .i32 x0, .int .i32 x1, .int .i32 x2]] w fun e w' => e = .returned (.tuple #[.slice none 0 0, .int .i64 6]) ∧ Below w.heap.size w w' := by
  have RR := hid (fun w1 => rright_any f s u g q0 q1 q2 q3 x0 x1 x2 w1 b0 b1 b2')
  clear b0 b1 b2'
  go_enter Tryd.func38, Tryd.ntmps38
  go_wp2_with fail
  refine (RR.out _).mono ?_
  rintro e w2 ⟨b, rfl, hbR, hb2⟩
  obtain rfl : b = false := by cases b with
    | false => rfl
    | true => exact absurd (hbR.1 rfl) hR
  clear hbR hR RR
  go_wp2_with fail
  go_ret2
  exact ⟨rfl, ((Below.refl _ w).alloc (Nat.le_refl _) _).trans (hb2.mono (by simp))⟩
end Go.Proofs.YtecbfegohdllbaaDoor
