/- Layer 46 (stream): New, Lost, Waits, End; the reference's Same: contracts. -/
import Derived.Test.YtecbfegohdllbaaDoorStream2
namespace Go.Proofs.YtecbfegohdllbaaDoor
open Go.RowKit
set_option linter.unusedVariables false
set_option linter.unusedSimpArgs false
variable {Ok : Nat → Prop}
theorem new_any (w : World) : Calls Tryd.prog 41 #[] w fun e w' => e = .returned (.pointer (some ⟨w.heap.size, 0, none⟩)) ∧ SI Ok w'.heap.size w.heap.size [] 0 w' ∧ Below w.heap.size w w' := by
  go_enter Tryd.func41, Tryd.ntmps41
  go_wp2
  go_ret
  exact ⟨rfl, ⟨none, 0, heap_alloc_new w _, reads_nil _, by simp, fun b e => by cases e⟩, (Below.refl _ w).alloc (Nat.le_refl _) _⟩
theorem lost_nil (w : World) : Calls Tryd.prog 46 #[.pointer none] w fun e w' => e = .returned (.int .i64 0) ∧ w = w' := by
  go_enter Tryd.func46, Tryd.ntmps46
  go_wp2
  go_ret
  exact ⟨rfl, rfl⟩
theorem lost_row (g n c : Nat) (a : Option Addr) (k : Int) (b : Bool) (w : World) (h : w.heap[g]? = some (.cells #[.slice a n c, .int .i64 k, .bool b] 112 (0, 0))) : Calls Tryd.prog 46 #[.pointer (some ⟨g, 0, none⟩)] w fun e w' => e = .returned (.int .i64 k) ∧ w = w' := by
  have c0 := (cell_of_row w g 0 _ _ _ h).trans (rfl : _ = some (Value.slice a n c))
  have c1 := (cell_of_row w g 1 _ _ _ h).trans (rfl : _ = some (Value.int .i64 k))
  clear h
  go_enter Tryd.func46, Tryd.ntmps46
  go_wp2
  go_ret
  exact ⟨rfl, rfl⟩
theorem waits_nil (w : World) : Calls Tryd.prog 47 #[.pointer none] w fun e w' => e = .returned (.int .i64 0) ∧ w = w' := by
  go_enter Tryd.func47, Tryd.ntmps47
  go_wp2
  go_ret
  exact ⟨rfl, rfl⟩
theorem waits_row (g n c : Nat) (a : Option Addr) (k : Int) (b : Bool) (w : World) (h : w.heap[g]? = some (.cells #[.slice a n c, .int .i64 k, .bool b] 112 (0, 0))) : Calls Tryd.prog 47 #[.pointer (some ⟨g, 0, none⟩)] w fun e w' => e = .returned (.int .i64 n) ∧ w = w' := by
  have c0 := (cell_of_row w g 0 _ _ _ h).trans (rfl : _ = some (Value.slice a n c))
  have c1 := (cell_of_row w g 1 _ _ _ h).trans (rfl : _ = some (Value.int .i64 k))
  clear h
  go_enter Tryd.func47, Tryd.ntmps47
  go_wp2
  go_ret
  exact ⟨rfl, rfl⟩
theorem lost_any {N g : Nat} {Y : List Int} {k : Int} {w : World} (h : SI Ok N g Y k w) : Calls Tryd.prog 46 #[.pointer (some ⟨g, 0, none⟩)] w fun e w' => e = .returned (.int .i64 k) ∧ w = w' := by
  obtain ⟨a, c, h1, -⟩ := h
  exact lost_row g _ c a k true w h1
theorem waits_any {N g : Nat} {Y : List Int} {k : Int} {w : World} (h : SI Ok N g Y k w) : Calls Tryd.prog 47 #[.pointer (some ⟨g, 0, none⟩)] w fun e w' => e = .returned (.int .i64 Y.length) ∧ w = w' := by
  obtain ⟨a, c, h1, -⟩ := h
  exact waits_row g _ c a k true w h1
theorem end_nil (w : World) : Calls Tryd.prog 48 #[.pointer none] w fun e w' => e = .returned (.int .i64 0) ∧ w = w' := by
  go_enter Tryd.func48, Tryd.ntmps48
  go_wp2_with fail
  refine (waits_nil w).mono ?_
  rintro e w2 ⟨rfl, rfl⟩
  go_wp2
  go_ret
  exact ⟨rfl, rfl⟩
theorem end_row0 (g c : Nat) (a : Option Addr) (k : Int) (b : Bool) (w : World) (h : w.heap[g]? = some (.cells #[.slice a 0 c, .int .i64 k, .bool b] 112 (0, 0))) : Calls Tryd.prog 48 #[.pointer (some ⟨g, 0, none⟩)] w fun e w' => e = .returned (.int .i64 0) ∧ w = w' := by
  have W0 := hid (waits_row g 0 c a k b w h)
  clear h
  go_enter Tryd.func48, Tryd.ntmps48
  go_wp2_with fail
  refine W0.out.mono ?_
  rintro e w2 ⟨rfl, rfl⟩
  go_wp2
  go_ret
  exact ⟨rfl, rfl⟩
theorem end_any {N g : Nat} {Y : List Int} {k : Int} {w : World} (h : SI Ok N g Y k w) (hk : 0 ≤ k ∧ k + Y.length ≤ 1000000) : Calls Tryd.prog 48 #[.pointer (some ⟨g, 0, none⟩)] w fun e w' => e = .returned (.int .i64 Y.length) ∧ SI Ok N g [] (k + Y.length) w' ∧ Turn g w w' := by
  obtain ⟨a, c, h1, h2, h3, h4⟩ := h
  by_cases hY : Y = []
  · subst hY
    refine (end_row0 g c a k true w h1).mono ?_
    rintro e w' ⟨rfl, rfl⟩
    exact ⟨rfl, by rw [show k + (([] : List Int).length : Int) = k by simp]; exact ⟨a, c, h1, h2, h3, h4⟩, Turn.refl _ _⟩
  · have hl : 0 < Y.length := List.length_pos_iff.2 hY
    have W0 := hid (waits_row g Y.length c a k true w h1)
    have c0 := (cell_of_row w g 0 _ _ _ h1).trans (rfl : _ = some (Value.slice a Y.length c))
    have c1 := (cell_of_row w g 1 _ _ _ h1).trans (rfl : _ = some (Value.int .i64 k))
    have f0 := frozen_of_row w g 0 _ _ h1
    have f1 := frozen_of_row w g 1 _ _ h1
    have H1 := hid h1
    clear h1 h2 h4 hY
    generalize Y.length = n at *
    have hl' : (0 : Int) < n := by omega
    obtain ⟨hk0, hk1⟩ := hk
    have hk2 : k ≤ 1000000 := by omega
    have hk3 : (n : Int) ≤ 1000000 := by omega
    go_enter Tryd.func48, Tryd.ntmps48
    go_wp2_with fail
    refine W0.out.mono ?_
    rintro e w2 ⟨rfl, rfl⟩
    clear W0
    go_wp2
    go_ret
    refine ⟨rfl, ⟨none, 0, ?_, reads_nil _, h3, fun b e => by cases e⟩, ((Turn.refl g w).set 0 _).set 1 _⟩
    have := H1.out
    simp [World.setCell, Array.getElem?_modify, this]
/-- a slice value that reads as these reports -/
def RRow (W : World) (u : Value) (l : List (List Int)) : Prop :=
  ∃ (a : Option Addr) (c : Nat), u = .slice a l.length c ∧ l.length ≤ c ∧ (a = none → l = []) ∧ ∀ b, a = some b → ∀ (i : Nat) (Z : List Int), l[i]? = some Z → ∀ (j : Nat) (x : Value), (rcells Z).toList[j]? = some x → W.cell? (b.add (11 * i + j)) = some x
theorem rrow_later {W W' : World} {u : Value} {l : List (List Int)} (h : RRow W u l) (hb : Below W.heap.size W W') : RRow W' u l := by
  obtain ⟨a, c, h1, h2, h3, h4⟩ := h
  refine ⟨a, c, h1, h2, h3, fun b e i Z hi j x hj => ?_⟩
  have hc := h4 b e i Z hi j x hj
  refine (World.cell?_of_block (hb.block _ ?_)).trans hc
  simp only [World.cell?] at hc
  split at hc
  · rename_i hbb; exact (Array.getElem?_eq_some_iff.1 hbb).1
  · cases hc
theorem repCells_at : ∀ (l : List (List Int)) (hl : ∀ Z ∈ l, Z.length = 11) (i j : Nat) (Z : List Int) (x : Value), l[i]? = some Z → (rcells Z).toList[j]? = some x → (repCells l)[11 * i + j]? = some x
  | [], _, _, _, _, _, h, _ => by cases h
  | Z0 :: l, hl, 0, j, Z, x, h, hj => by
    obtain rfl := Option.some.inj h
    have hjl := (List.getElem?_eq_some_iff.1 hj).1
    show ((rcells Z0).toList ++ repCells l)[11 * 0 + j]? = _
    rw [Nat.mul_zero, Nat.zero_add, List.getElem?_append_left hjl]
    exact hj
  | Z0 :: l, hl, i + 1, j, Z, x, h, hj => by
    have h0 := rcells_list_len Z0 (hl Z0 (List.mem_cons_self))
    show ((rcells Z0).toList ++ repCells l)[11 * (i + 1) + j]? = _
    rw [List.getElem?_append_right (by omega), h0, show 11 * (i + 1) + j - 1 * 11 = 11 * i + j by omega]
    exact repCells_at l (fun Z hZ => hl Z (List.mem_cons_of_mem _ hZ)) i j Z x h hj
theorem rrow_of_rows {base : Nat} {W : World} {u : Value} {l : List (List Int)} (h : Rows' base W u l) (hl : ∀ Z ∈ l, Z.length = 11) : RRow W u l := by
  obtain ⟨h0, ⟨rfl, hn⟩ | ⟨g, cap, cur, rfl, hg, hc, h1, h2, h3, h4⟩⟩ := h
  · exact ⟨none, 0, by rw [hn], by omega, fun _ => List.length_eq_zero_iff.1 hn, fun b e => by cases e⟩
  · refine ⟨some ⟨g, 0, none⟩, cap, rfl, h1, (fun e => by cases e), fun b e i Z hi j x hj => ?_⟩
    obtain rfl := Option.some.inj e
    have := repCells_at l hl i j Z x hi hj
    have hlt := (List.getElem?_eq_some_iff.1 this).1
    rw [← h4, List.getElem?_take] at this
    split at this
    · rw [add_plain, Nat.zero_add, cell_of_row W g _ _ _ _ hc]
      simpa using this
    · cases this
theorem exec_load_part {o : Oper} {ρ : Operand → Value} {w : World} (x : Operand) (ho : o.op = .load 50 x) (p : Addr) (hx : ρ x = .pointer (some p)) (Z : List Int) (hZ : Z.length = 11)
    (hc : ∀ (j : Nat) (v : Value), (rcells Z).toList[j]? = some v → w.cell? (p.add j) = some v) : (execOp ρ o).run Tryd.prog w = .ok (.value (.agg (rcells Z))) w := by
  have hl := run_loadCells_list (P := Tryd.prog) w p (rcells Z).toList hc
  have hi : (Tryd.prog.info? 50).map (·.size) = some (rcells Z).size := by rw [rcells_size Z hZ]; kernel_rfl
  cases hq : Tryd.prog.info? 50 with
  | none => rw [hq] at hi; cases hi
  | some i =>
    rw [hq] at hi
    have hs : i.size = (rcells Z).size := by simpa using hi
    have hagg : (isAgg 50).run Tryd.prog w = .ok true w := by
      unfold isAgg
      rw [Sem.run_bind, run_underlying Tryd.underlying50 w]
      rfl
    simp only [Array.length_toList, Array.toArray_toList] at hl
    unfold execOp
    simp [ho, hx, Instr.loadAt, Instr.sureAddr, loadVar, Sem.run_bind, hagg, sizeOf, typeInfo, hq, hs, hl]
theorem exec_neq_rep {o : Oper} {ρ : Operand → Value} {w : World} (x y : Operand) (t : TypeId) (ho : o.op = .binOp .neq 50 x y t) (X Y : List Int) (hX : X.length = 11) (hY : Y.length = 11) (hx : ρ x = .agg (rcells X)) (hy : ρ y = .agg (rcells Y)) :
    (execOp ρ o).run Tryd.prog w = .ok (.value (.bool (!decide (X = Y)))) w := by
  unfold execOp
  simp only [ho, hx, hy]
  have h1 := guard_report .neq x y (rcells X) (rcells Y) w
  have h2 := neq_report X Y hX hY w
  rw [Sem.run_bind, Sem.run_bind, h1, Result.andThen_ok, h2, Result.andThen_ok, Sem.run_pure]
theorem rrow_at {W : World} {u : Value} {l : List (List Int)} (h : RRow W u l) (hl : ∀ Z ∈ l, Z.length = 11) : ∃ a c, u = .slice a l.length c ∧ (0 < l.length → ∃ b off, a = some ⟨b, off, none⟩) ∧ l.length ≤ c := by
  obtain ⟨a, c, h1, h2, h3, h4⟩ := h
  refine ⟨a, c, h1, fun hi => ?_, h2⟩
  rcases a with _ | ⟨b, off, s⟩
  · have := h3 rfl; subst this; cases hi
  · have hZ := hl l[0] (List.getElem_mem hi)
    have hz := rcells_list_len _ hZ
    have hc := h4 _ rfl 0 l[0] (by simp [hi]) 0 ((rcells l[0]).toList[0]'(by omega)) (List.getElem?_eq_getElem _)
    have hs : s = none := by simpa [Addr.add] using World.cell?_spot hc
    exact ⟨b, off, by rw [hs]⟩
theorem rrow_cells {W : World} {b off n c : Nat} {l : List (List Int)} (h : RRow W (.slice (some ⟨b, off, none⟩) n c) l) {i : Nat} {Z : List Int} (hi : l[i]? = some Z) : ∀ (j : Nat) (x : Value), (rcells Z).toList[j]? = some x → ∀ o, o = off + 11 * i + j → W.cell? ⟨b, o, none⟩ = some x := by
  intro j x hj o ho
  obtain ⟨a, c', h1, h2, h3, h4⟩ := h
  obtain ⟨rfl, -, -⟩ := Value.slice.inj h1
  have := h4 _ rfl i Z hi j x hj
  rw [add_plain] at this
  rw [ho, Nat.add_assoc]; exact this
theorem rsame_len (u v : Value) (la lb : List (List Int)) (w : World) (ha : RRow w u la) (hb : RRow w v lb) (hne : la.length ≠ lb.length) :
    Calls Tryd.prog 45 #[u, v] w fun e w' => e = .returned (.bool false) ∧ w = w' := by
  obtain ⟨a, c, rfl, -⟩ := ha
  obtain ⟨a', c', rfl, -⟩ := hb
  generalize la.length = n at *
  generalize lb.length = n' at *
  have hne' : ¬ (n : Int) = n' := by omega
  go_enter Tryd.func45, Tryd.ntmps45
  go_wp2
  go_ret
  exact ⟨rfl, rfl⟩
set_option maxRecDepth 100000 in
set_option maxHeartbeats 1000000 in
theorem rsame_any (u v : Value) (la lb : List (List Int)) (w : World) (ha : RRow w u la) (hb : RRow w v lb) (hla : ∀ Z ∈ la, Z.length = 11) (hlb : ∀ Z ∈ lb, Z.length = 11) (hlen : la.length = lb.length) (hm : la.length ≤ 1000000) :
    Calls Tryd.prog 45 #[u, v] w fun e w' => e = .returned (.bool (decide (la = lb))) ∧ Below w.heap.size w w' := by
  have RA := hid (fun W (hW : Below w.heap.size w W) => rrow_later ha hW)
  have RB' := hid (fun W (hW : Below w.heap.size w W) => rrow_later hb hW)
  obtain ⟨a, c, rfl, a1, -⟩ := rrow_at ha hla
  obtain ⟨a', c', rfl, a2, -⟩ := rrow_at hb hlb
  have HLA := hid hla
  have HLB := hid hlb
  have HLN := hid hlen
  obtain ⟨n, hn⟩ : ∃ n, n = la.length := ⟨_, rfl⟩
  have HN := hid hn
  have hn2 : lb.length = n := by rw [← hlen, hn]
  rw [← hn] at a1 hm ⊢
  rw [hn2] at a2 ⊢
  have HN2 := hid hn2
  clear ha hb hla hlb hlen hn hn2
  go_enter Tryd.func45, Tryd.ntmps45
  go_wp2_with fail
  go_loopw [5] (fun i wr => ∃ k : Nat, k ≤ n ∧ i = .int .i64 k ∧ Below w.heap.size w wr ∧ la.take k = lb.take k) (fun i _ => n - (intOf i).toNat)
  case atStart => exact ⟨0, by omega, rfl, Below.refl _ _, rfl⟩
  case round =>
    obtain ⟨k, hk, rfl, hbw, heq⟩ := hrel
    by_cases hlt : k < n
    · have hlt' : (k : Int) < n := by omega
      obtain ⟨b, off, rfl⟩ := a1 (by omega)
      obtain ⟨b', off', rfl⟩ := a2 (by omega)
      have l1 : k < la.length := by have := HN.out; omega
      have l2 : k < lb.length := by have := HN2.out; omega
      have z1 : la[k]? = some la[k] := by simp [l1]
      have z2 : lb[k]? = some lb[k] := by simp [l2]
      have t1 := HLA.out _ (List.getElem_mem l1)
      have t2 := HLB.out _ (List.getElem_mem l2)
      have TK := hid (show la.take (k + 1) = lb.take (k + 1) ↔ la[k] = lb[k] by
        rw [List.take_succ_eq_append_getElem l1, List.take_succ_eq_append_getElem l2, heq]; exact ⟨fun h => by simpa using List.append_cancel_left h, fun h => by rw [h]⟩)
      have NE := hid (fun (h : la[k] ≠ lb[k]) => (show decide (la = lb) = false by
        rw [decide_eq_false_iff_not]; intro e; subst e; exact h rfl))
      generalize la[k] = Z1 at *
      generalize lb[k] = Z2 at *
      have CA := hid (fun W (hW : Below w.heap.size w W) => rrow_cells (RA.out W hW) z1)
      have CB := hid (fun W (hW : Below w.heap.size w W) => rrow_cells (RB'.out W hW) z2)
      have H1 := hid t1
      have H2 := hid t2
      clear z1 z2 t1 t2 l1 l2 heq
      go_wp2_with fail
      refine wp_region_F' (B := w.heap.size) (n := 9) (l := #[false, false, false, false, false, false, false, false, false]) (by kernel_rfl) (by kernel_rfl) (by kernel_rfl) ?_
      refine wpAnyF_take (i := 0) (v := ?vs_0_1) (some 17) rfl rfl (by kernel_rfl) (by kernel_rfl) (by kernel_rfl) (fun _ _ _ h => h) (by rfl) ?hvs_0_1 ?rests_0_1
      case hvs_0_1 => (intro w' hb; go_simp; try with_reducible rfl)
      simp only [Act.put, List.setIfInBounds_toArray, List.set_cons_zero, List.set_cons_succ]
      refine wpAnyF_take (i := 1) (v := ?vs_1_2) (some 18) rfl rfl (by kernel_rfl) (by kernel_rfl) (by kernel_rfl) (fun _ _ _ h => h) (by rfl) ?hvs_1_2 ?rests_1_2
      case hvs_1_2 => (intro w' hb; go_simp; try with_reducible rfl)
      simp only [Act.put, List.setIfInBounds_toArray, List.set_cons_zero, List.set_cons_succ]
      refine wpAnyF_take (i := 2) (v := ?vs_2_3) (some 19) rfl rfl (by kernel_rfl) (by kernel_rfl) (by kernel_rfl) (fun _ _ _ h => h) (by rfl) ?hvs_2_3 ?rests_2_3
      case hvs_2_3 => (intro w' hb; go_simp; try with_reducible rfl)
      simp only [Act.put, List.setIfInBounds_toArray, List.set_cons_zero, List.set_cons_succ]
      refine wpAnyF_take (i := 3) (v := ?vs_3_4) (some 20) rfl rfl (by kernel_rfl) (by kernel_rfl) (by kernel_rfl) (fun _ _ _ h => h) (by rfl) ?hvs_3_4 ?rests_3_4
      case hvs_3_4 => (intro w' hb; refine exec_load_part (.tmp 19) ?ho19 ?p19 ?hx19 Z1 H1.out ?hc19; (case ho19 => rfl); (case hx19 => rfl); (case hc19 => (intro j x hj; rw [add_plain]; exact CA.out w' (hbw.trans (Below.drewl hb)) j x hj _ (by omega))))
      simp only [Act.put, List.setIfInBounds_toArray, List.set_cons_zero, List.set_cons_succ]
      refine wpAnyF_take (i := 4) (v := ?vs_4_5) (some 21) rfl rfl (by kernel_rfl) (by kernel_rfl) (by kernel_rfl) (fun _ _ _ h => h) (by rfl) ?hvs_4_5 ?rests_4_5
      case hvs_4_5 => (intro w' hb; go_simp; try with_reducible rfl)
      simp only [Act.put, List.setIfInBounds_toArray, List.set_cons_zero, List.set_cons_succ]
      refine wpAnyF_take (i := 5) (v := ?vs_5_6) (some 22) rfl rfl (by kernel_rfl) (by kernel_rfl) (by kernel_rfl) (fun _ _ _ h => h) (by rfl) ?hvs_5_6 ?rests_5_6
      case hvs_5_6 => (intro w' hb; go_simp; try with_reducible rfl)
      simp only [Act.put, List.setIfInBounds_toArray, List.set_cons_zero, List.set_cons_succ]
      refine wpAnyF_take (i := 6) (v := ?vs_6_7) (some 23) rfl rfl (by kernel_rfl) (by kernel_rfl) (by kernel_rfl) (fun _ _ _ h => h) (by rfl) ?hvs_6_7 ?rests_6_7
      case hvs_6_7 => (intro w' hb; go_simp; try with_reducible rfl)
      simp only [Act.put, List.setIfInBounds_toArray, List.set_cons_zero, List.set_cons_succ]
      refine wpAnyF_take (i := 7) (v := ?vs_7_8) (some 24) rfl rfl (by kernel_rfl) (by kernel_rfl) (by kernel_rfl) (fun _ _ _ h => h) (by rfl) ?hvs_7_8 ?rests_7_8
      case hvs_7_8 => (intro w' hb; refine exec_load_part (.tmp 23) ?ho23 ?p23 ?hx23 Z2 H2.out ?hc23; (case ho23 => rfl); (case hx23 => rfl); (case hc23 => (intro j x hj; rw [add_plain]; exact CB.out w' (hbw.trans (Below.drewl hb)) j x hj _ (by omega))))
      simp only [Act.put, List.setIfInBounds_toArray, List.set_cons_zero, List.set_cons_succ]
      refine wpAnyF_take (i := 8) (v := ?vs_8_9) (some 25) rfl rfl (by kernel_rfl) (by kernel_rfl) (by kernel_rfl) (fun _ _ _ h => h) (by rfl) ?hvs_8_9 ?rests_8_9
      case hvs_8_9 => (intro w' hb; refine exec_neq_rep (.tmp 20) (.tmp 24) 50 ?hn1 Z1 Z2 H1.out H2.out ?hn2 ?hn3 <;> rfl)
      simp only [Act.put, List.setIfInBounds_toArray, List.set_cons_zero, List.set_cons_succ]
      refine wpAnyF_done (by kernel_rfl) ?_ _
      have hbd := hbw.drew
      generalize wr.drew = wd at *
      obtain ⟨bz, hbz⟩ : ∃ bz, (!decide (Z1 = Z2)) = bz := ⟨_, rfl⟩
      rw [hbz]
      by_cases hz : Z1 = Z2
      · obtain rfl : bz = false := by rw [← hbz]; simp [hz]
        have TK2 := hid (TK.out.2 hz)
        clear hz hbz NE TK
        go_wp2
        go_roundw
        case rel => exact ⟨k + 1, by omega, by go_num, hbd, TK2.out⟩
        case measure => simp [intOf]; omega
      · obtain rfl : bz = true := by rw [← hbz]; simp [hz]
        have NE2 := hid (NE.out hz)
        clear hz hbz NE TK
        go_wp2
        go_ret
        exact ⟨by rw [NE2.out]; rfl, hbd⟩
    · obtain rfl : k = n := by omega
      have hE := hid (show decide (la = lb) = true by
        rw [HN.out, List.take_length] at heq
        have : lb.take la.length = lb := by rw [HLN.out, List.take_length]
        rw [this] at heq
        simpa using heq)
      clear heq
      go_wp2
      go_ret
      exact ⟨by rw [hE.out]; rfl, hbw⟩
end Go.Proofs.YtecbfegohdllbaaDoor
