/- Layer 46 (stream): Push: a contract. -/
import Derived.Test.YtecbfegohdllbaaDoorStream1
import Derived.Test.YtecbfegohdllbaaDoorPackJ
import Derived.Test.YtecbfegohdllbaaDoorPackA
import Derived.Test.YtecbfegohdllbaaDoorSampleRead
namespace Go.Proofs.YtecbfegohdllbaaDoor
open Go.RowKit Go.Shelf
attribute [local go_sem] Oper.semAt_some
set_option linter.unusedVariables false
set_option linter.unusedSimpArgs false
variable {Ok : Nat → Prop}
theorem told_any (g : Nat) (w : World) : Calls Tryd.prog 79 #[.pointer (some ⟨g, 0, none⟩)] w fun e w' => e = .returned (.func (.func 100) #[] #[.pointer (some ⟨w.heap.size, 0, none⟩)]) ∧ w' = w.alloc (.cells #[.pointer (some ⟨g, 0, none⟩)] 58) := by
  go_enter Tryd.func79, Tryd.ntmps79
  go_wp2
  go_ret
  exact ⟨rfl, rfl⟩
def repCells (l : List (List Int)) : List Value := l.flatMap fun Z => (rcells Z).toList
/-- a row of reports, new from base on -/
def Rows' (base : Nat) (W : World) (u : Value) (l : List (List Int)) : Prop := W.ownsRow base 50 11 u l.length (repCells l)
theorem Turn.more {g N : Nat} {A B C : World} (h : Turn g A B) (hb : Below N B C) (hN : A.heap.size ≤ N) : Turn g A C :=
  ⟨hb.os.trans h.os, hb.tape.trans h.tape, hb.output.trans h.output, Nat.le_trans h.size hb.size, fun k hk hne => (hb.block k (by omega)).trans (h.block k hk hne)⟩
theorem SI.mono {N N' g : Nat} {Y : List Int} {k : Int} {A : World} (h : SI Ok N g Y k A) (hN : N ≤ N') : SI Ok N' g Y k A := by
  obtain ⟨a, c, h1, h2, h3, h4⟩ := h
  exact ⟨a, c, h1, h2, by omega, fun b e => ⟨by have := (h4 b e).1; omega, (h4 b e).2⟩⟩
theorem own_kept {W W' : World} {row : Option Nat} {base size n : Nat} {e : TypeId} {u : Value} {xs : List Value} (h : W.ownsRow base e size u n xs) (hg : W.grownBy W' row) (hr : ∀ r, row = some r → ∃ o : Obj, W.heap[r]? = some o ∧ o.isCells = false) : W'.ownsRow base e size u n xs := by
  refine h.kept hg ?_
  obtain ⟨_, ⟨rfl, _⟩ | ⟨g, cap, cur, rfl, _, hc, _⟩⟩ := h
  · exact .inl rfl
  · refine .inr fun e => ?_
    obtain ⟨o, ho, hn⟩ := hr g (by rw [← e]; rfl)
    rw [hc] at ho
    obtain rfl := Option.some.inj ho
    cases hn
theorem Tryd.infoRep : (Tryd.prog.info? 50).map (fun i => (i.zero, i.size, i.bytes)) = some (some (.agg (rcells zeroR)), 11, 64) := by kernel_rfl
/-- what lies between two rounds -/
def PuI (g h : Nat) (w : World) (pre : List (List Int)) (W : World) : Prop :=
  (∃ u, W.heap[h]? = some (.cells #[u] 60 (0, 0)) ∧ Rows' (h + 2) W u pre) ∧ Turn g w W ∧ h + 2 ≤ W.heap.size
theorem puI_own {g h : Nat} {w : World} {B : Nat} (hw : w.heap.size ≤ B) : OwnFrom B (PuI g h w) := by
  rintro s W W' row ⟨⟨u, a, b⟩, c, d⟩ hg hr
  have hr' : ∀ r, row = some r → ∃ o : Obj, W.heap[r]? = some o ∧ o.isCells = false := fun r e => (hr r e).2
  exact ⟨⟨u, blk_kept a hg hr', own_kept b hg hr'⟩, c.more ((Below.refl _ W).grown hg c.size (fun k e => Nat.le_trans hw (hr k e).1)) (Nat.le_refl _), Nat.le_trans d hg.size⟩
theorem keeps_grown {N : Nat} {A B : World} {row : Option Nat} (hg : A.grownBy B row) (hr : ∀ r, row = some r → ∃ o : Obj, A.heap[r]? = some o ∧ o.isCells = true) : KeepsFrom N A B := by
  refine ⟨hg.size, fun k o _ hk ho => ?_⟩
  refine (hg.block k (lt_of_row hk) (fun e => ?_)).trans hk
  obtain ⟨o', ho', hc⟩ := hr k e.symm
  rw [hk] at ho'
  obtain rfl := Option.some.inj ho'
  rw [hc] at ho
  cases ho
theorem own_is_cells {W : World} {base size n : Nat} {e : TypeId} {u : Value} {xs : List Value} (h : W.ownsRow base e size u n xs) : ∀ r, u.ownBlock = some r → ∃ o : Obj, W.heap[r]? = some o ∧ o.isCells = true := by
  intro r hr
  obtain ⟨_, ⟨rfl, _⟩ | ⟨g', cap, cur, rfl, _, hc, _⟩⟩ := h
  · cases hr
  · obtain rfl : g' = r := by simpa [Value.ownBlock] using hr
    exact ⟨_, hc, rfl⟩
theorem own_slice {W : World} {base size n : Nat} {e : TypeId} {u : Value} {xs : List Value} (h : W.ownsRow base e size u n xs) : ∃ a c, u = .slice a n c := by
  obtain ⟨hc, ⟨rfl, h⟩ | ⟨g', cap, cur, rfl, _⟩⟩ := h
  · exact ⟨none, 0, by rw [h]⟩
  · exact ⟨_, _, rfl⟩
theorem row_not' {w : World} {base size n g : Nat} {e t : TypeId} {v : Value} {xs : List Value} {fr : Nat × Nat} {cs : Array Value} (h : w.ownsRow base e size v n xs) (hg : w.heap[g]? = some (.cells cs t fr)) (hne : t ≠ e) : v.ownBlock ≠ some g := by
  obtain ⟨_, ⟨rfl, _⟩ | ⟨g', cap, cur, rfl, _, hc, _⟩⟩ := h
  · intro h; cases h
  · intro h
    have hh : g' = g := by simpa [Value.ownBlock] using h
    subst hh
    rw [hg] at hc
    exact hne (by injection hc with hc; injection hc)
theorem own_set_other' {w : World} {base size n g off : Nat} {e : TypeId} {v u : Value} {xs : List Value} (h : w.ownsRow base e size v n xs) (hne : v.ownBlock ≠ some g) : (w.setCell ⟨g, off, none⟩ u).ownsRow base e size v n xs := by
  obtain ⟨h0, ⟨rfl, h1⟩ | ⟨g', cap, cur, rfl, h1, hc, h2⟩⟩ := h
  · exact ⟨h0, .inl ⟨rfl, h1⟩⟩
  · exact ⟨h0, .inr ⟨g', cap, cur, rfl, h1, (Below.heap_setCell _ _ _ g' (fun e => hne (by simp [Value.ownBlock]; exact e))).trans hc, h2⟩⟩
theorem rcells_list_len (x : List Int) (h : x.length = 11) : (rcells x).toList.length = 1 * 11 := by rw [Array.length_toList, rcells_size x h]
theorem repCells_snoc (pre : List (List Int)) (x : List Int) : repCells (pre ++ [x]) = repCells pre ++ (rcells x).toList := by simp [repCells]
section
variable {Q : Exit → Act → World → Prop}
theorem wp_slice1_rep {o : Oper} {a : Act} {w : World} {K : Act → World → Prop} (x : Operand) (ho : o.op = .buildSlice 60 1 #[(0, x)]) (Z : List Int) (hZ : Z.length = 11) (hx : a.eval x = .agg (rcells Z))
    (h : ∀ g w', g = w.heap.size → RB g Z w' → Below w.heap.size w w' → K (a.put o.dst (.slice (some ⟨g, 0, none⟩) 1 1)) w') : o.wp Tryd.prog a w K Q := by
  have h' := h _ _ rfl (heap_alloc_new w _) ((Below.refl _ w).alloc (Nat.le_refl _) _)
  obtain ⟨f, s, u, g, q0, q1, q2, q3, x0, x1, x2, rfl⟩ := eleven_list Z hZ
  have hx' : a.eval x = .agg #[.int .i64 f, .int .i64 s, .int .i64 u, .int .i64 g, .int .i32 q0, .int .i32 q1, .int .i32 q2, .int .i32 q3, .int .i32 x0, .int .i32 x1, .int .i32 x2] := hx
  unfold Oper.wp execOp
  simp only [ho, List.map_toArray, List.map_cons, List.map_nil, hx']
  go_simp
  exact h'
end
theorem puI_later {g h : Nat} {w A B : World} {pre : List (List Int)} (H : PuI g h w pre A) (hb : Below A.heap.size A B) : PuI g h w pre B := by
  obtain ⟨⟨u, a, b⟩, c, d⟩ := H
  exact ⟨⟨u, (hb.block _ (lt_of_row a)).trans a, ownsRow_below b hb⟩, c.more hb c.size, Nat.le_trans d hb.size⟩
theorem keeps_of_below {N : Nat} {A B : World} (hb : Below A.heap.size A B) : KeepsFrom N A B := KeepsFrom.of_grownBy (row := none) ⟨hb.os, hb.tape, hb.output, hb.size, fun k hk _ => hb.block k hk⟩ (fun j e => by cases e)
theorem kps_of_below {N Bx : Nat} {A B : World} (hb : Below A.heap.size A B) (hN : N ≤ A.heap.size) : KpS N Bx A B := ⟨hb.mono hN, fun o ho => (hb.block _ (lt_of_row ho)).trans ho⟩
theorem puI_turn {g h : Nat} {w A B : World} {pre : List (List Int)} (hgh : g < h) (H : PuI g h w pre A) (ht : Turn g A B) : PuI g h w pre B := by
  obtain ⟨⟨u, a, b⟩, c, d⟩ := H
  refine ⟨⟨u, ht.row a (by omega), ?_⟩, c.trans ht, Nat.le_trans d ht.size⟩
  refine b.kept ht ?_
  by_cases hu : u.ownBlock = none
  · exact .inl hu
  · refine .inr fun e => ?_
    have := (b.lt g e).1
    omega
set_option maxRecDepth 100000 in
set_option maxHeartbeats 4000000 in
theorem push_any (g : Nat) (Y B : List Int) (k : Int) (v : Value) (a0 a1 : Addr) (w0 w : World) (hF : FC a0 a1 w0) (hb0 : Below w0.heap.size w0 w) (hw0 : w0.heap.size ≤ g) (hs : SI Ok w.heap.size g Y k w) (hOk : ∀ n, w.heap.size ≤ n → Ok n) (hr : Reads .u8 w v B) (hk : 0 ≤ k) (hl : k + Y.length + B.length ≤ 1000000) :
    Calls Tryd.prog 43 #[.pointer (some ⟨g, 0, none⟩), v] w fun e w' => ∃ u, e = .returned u ∧ Turn g w w' ∧ SI Ok w'.heap.size g (look (Y ++ B)).2.2 (k + (look (Y ++ B)).2.1) w' ∧ Rows' w.heap.size w' u (look (Y ++ B)).1 := by
  obtain ⟨sa, sc, p1, p2, p3, p4⟩ := hs
  have hYw := Reads.wf p2
  have hBw := Reads.wf hr
  have cg0 := (cell_of_row w g 0 _ _ _ p1).trans (rfl : _ = some (Value.slice sa Y.length sc))
  have cg2 : w.cell? ⟨g, 2, none⟩ = some (.bool true) := (cell_of_row w g 2 _ _ _ p1).trans rfl
  have hsc : Y.length ≤ sc := by obtain ⟨_, _, h, h1, _⟩ := p2; obtain ⟨-, -, rfl⟩ := Value.slice.inj h; exact h1
  have hp2 : Reads .u8 w.drew (.slice sa Y.length Y.length) Y := by
    obtain ⟨a, c', hv, r1, r2, r3, r4, r5⟩ := p2
    obtain ⟨rfl, -, rfl⟩ := Value.slice.inj hv
    exact ⟨_, _, rfl, Nat.le_refl _, by omega, r3, (fun h => ⟨(r4 h).1, by rw [(r4 h).1]; rfl⟩), r5⟩
  have APP := hid (run_append_full w.drew sa Y B v hp2 hr (by omega))
  obtain ⟨va, vc, hv, -⟩ := id hr
  subst hv
  have HR := hid hr
  have P1 := hid p1
  have P4 := hid p4
  have HYB := hid (show ∀ x ∈ Y ++ B, 0 ≤ x ∧ x ≤ 255 from fun x hx => (List.mem_append.1 hx).elim (fun h => bd_u8 (hYw x h)) (fun h => bd_u8 (hBw x h)))
  have HLN := hid (show 0 ≤ k ∧ k + (Y ++ B).length ≤ 1000000 by rw [List.length_append]; omega)
  have hgl := lt_of_row p1
  have F0 := hid hF
  clear p1 p2 p4 hp2 hr hYw hBw hF hl
  generalize Y.length = m at *
  generalize B.length = nb at *
  have hmc : (m : Int) ≤ sc := by omega
  refine callsIn_wide.1 (?_ : CallsIn Fence.wide 10 _ _ _ _ _)
  refine callsIn_of_wp_marks Tryd.func43 rfl trivial ?_ rfl
  simp only [Tryd.ntmps43, List.size_toArray, List.length_cons, List.length_nil, Nat.reduceAdd, Nat.reduceSub, Array.replicate_succ, Array.replicate_zero, List.push_toArray, List.append_toArray, List.nil_append, List.cons_append]
  gi_wp2_with fail
  refine wpIn_wide.2 ?_
  refine wp_only ?_
  refine wp_region_L' (z := 20) (B := w.heap.size) (n := 21) (l := #[false, false, false, false, false, false, false, false, false, false, false, false, false, false, false, false, false, false, false, false, false]) (by kernel_rfl) (by kernel_rfl) (by kernel_rfl) ?_
  refine wpAnyL_take (i := 0) (v := ?vp_0_1) (some 16) rfl rfl (by kernel_rfl) (by kernel_rfl) (by kernel_rfl) (fun _ _ _ h => h) (by rfl) [18, 19, 20] (by kernel_rfl) ?hvp_0_1 ?restp_0_1
  case hvp_0_1 => (intro w' hb; go_simp; try with_reducible rfl)
  simp only [Act.put, List.setIfInBounds_toArray, List.set_cons_zero, List.set_cons_succ]
  refine wpAnyL_take (i := 1) (v := ?vp_1_2) (some 17) rfl rfl (by kernel_rfl) (by kernel_rfl) (by kernel_rfl) (fun _ _ _ h => h) (by rfl) [2, 3, 4, 15, 17, 18, 19, 20] (by kernel_rfl) ?hvp_1_2 ?restp_1_2
  case hvp_1_2 => (intro w' hb; go_simp; try with_reducible rfl)
  simp only [Act.put, List.setIfInBounds_toArray, List.set_cons_zero, List.set_cons_succ]
  refine wpAnyL_take (i := 2) (v := ?vp_2_3) (some 18) rfl rfl (by kernel_rfl) (by kernel_rfl) (by kernel_rfl) (fun _ _ _ h => h) (by rfl) [3, 4, 15, 17, 18, 19, 20] (by kernel_rfl) ?hvp_2_3 ?restp_2_3
  case hvp_2_3 => (intro w' hb; go_simp; try with_reducible rfl)
  simp only [Act.put, List.setIfInBounds_toArray, List.set_cons_zero, List.set_cons_succ]
  refine wpAnyL_take (i := 3) (v := ?vp_3_4) (some 19) rfl rfl (by kernel_rfl) (by kernel_rfl) (by kernel_rfl) (fun _ _ _ h => h) (by rfl) [4, 15, 17, 18, 19, 20] (by kernel_rfl) ?hvp_3_4 ?restp_3_4
  case hvp_3_4 => (intro w' hb; go_simp; try with_reducible rfl)
  simp only [Act.put, List.setIfInBounds_toArray, List.set_cons_zero, List.set_cons_succ]
  refine wpAnyL_take (i := 4) (v := ?vp_4_5) (some 20) rfl rfl (by kernel_rfl) (by kernel_rfl) (by kernel_rfl) (fun _ _ _ h => h) (by rfl) [15, 17, 18, 19, 20] (by kernel_rfl) ?hvp_4_5 ?restp_4_5
  case hvp_4_5 => (intro w' hb; (have hcw := (hb.cell (p := ⟨g, 0, none⟩) hgl).trans cg0; go_simp; try with_reducible rfl))
  simp only [Act.put, List.setIfInBounds_toArray, List.set_cons_zero, List.set_cons_succ]
  refine wpAnyL_take (i := 5) (v := ?vp_5_6) (some 21) rfl rfl (by kernel_rfl) (by kernel_rfl) (by kernel_rfl) (fun _ _ _ h => h) (by rfl) [6, 7, 8, 9, 15, 17, 18, 19, 20] (by kernel_rfl) ?hvp_5_6 ?restp_5_6
  case hvp_5_6 => (intro w' hb; go_simp; try with_reducible rfl)
  simp only [Act.put, List.setIfInBounds_toArray, List.set_cons_zero, List.set_cons_succ]
  refine wpAnyL_take (i := 6) (v := ?vp_6_7) (some 22) rfl rfl (by kernel_rfl) (by kernel_rfl) (by kernel_rfl) (fun _ _ _ h => h) (by rfl) [7, 8, 9, 15, 17, 18, 19, 20] (by kernel_rfl) ?hvp_6_7 ?restp_6_7
  case hvp_6_7 => (intro w' hb; go_simp; try with_reducible rfl)
  simp only [Act.put, List.setIfInBounds_toArray, List.set_cons_zero, List.set_cons_succ]
  refine wpAnyL_take (i := 7) (v := ?vp_7_8) (some 23) rfl rfl (by kernel_rfl) (by kernel_rfl) (by kernel_rfl) (fun _ _ _ h => h) (by rfl) [8, 9, 15, 17, 18, 19, 20] (by kernel_rfl) ?hvp_7_8 ?restp_7_8
  case hvp_7_8 => (intro w' hb; go_simp; try with_reducible rfl)
  simp only [Act.put, List.setIfInBounds_toArray, List.set_cons_zero, List.set_cons_succ]
  refine wpAnyL_take (i := 8) (v := ?vp_8_9) (some 24) rfl rfl (by kernel_rfl) (by kernel_rfl) (by kernel_rfl) (fun _ _ _ h => h) (by rfl) [9, 15, 17, 18, 19, 20] (by kernel_rfl) ?hvp_8_9 ?restp_8_9
  case hvp_8_9 => (intro w' hb; (have hcw := (hb.cell (p := ⟨g, 0, none⟩) hgl).trans cg0; go_simp; try with_reducible rfl))
  simp only [Act.put, List.setIfInBounds_toArray, List.set_cons_zero, List.set_cons_succ]
  refine wpAnyL_take (i := 9) (v := ?vp_9_10) (some 25) rfl rfl (by kernel_rfl) (by kernel_rfl) (by kernel_rfl) (fun _ _ _ h => h) (by rfl) [15, 17, 18, 19, 20] (by kernel_rfl) ?hvp_9_10 ?restp_9_10
  case hvp_9_10 => (intro w' hb; go_simp; try with_reducible rfl)
  simp only [Act.put, List.setIfInBounds_toArray, List.set_cons_zero, List.set_cons_succ]
  refine wpAnyL_take (i := 10) (v := ?vp_10_11) (some 26) rfl rfl (by kernel_rfl) (by kernel_rfl) (by kernel_rfl) (fun _ _ _ h => h) (by rfl) [11, 12, 13, 14, 15, 17, 18, 19, 20] (by kernel_rfl) ?hvp_10_11 ?restp_10_11
  case hvp_10_11 => (intro w' hb; go_simp; try with_reducible rfl)
  simp only [Act.put, List.setIfInBounds_toArray, List.set_cons_zero, List.set_cons_succ]
  refine wpAnyL_take (i := 11) (v := ?vp_11_12) (some 27) rfl rfl (by kernel_rfl) (by kernel_rfl) (by kernel_rfl) (fun _ _ _ h => h) (by rfl) [12, 13, 14, 15, 17, 18, 19, 20] (by kernel_rfl) ?hvp_11_12 ?restp_11_12
  case hvp_11_12 => (intro w' hb; go_simp; try with_reducible rfl)
  simp only [Act.put, List.setIfInBounds_toArray, List.set_cons_zero, List.set_cons_succ]
  refine wpAnyL_take (i := 12) (v := ?vp_12_13) (some 28) rfl rfl (by kernel_rfl) (by kernel_rfl) (by kernel_rfl) (fun _ _ _ h => h) (by rfl) [13, 14, 15, 17, 18, 19, 20] (by kernel_rfl) ?hvp_12_13 ?restp_12_13
  case hvp_12_13 => (intro w' hb; go_simp; try with_reducible rfl)
  simp only [Act.put, List.setIfInBounds_toArray, List.set_cons_zero, List.set_cons_succ]
  refine wpAnyL_take (i := 13) (v := ?vp_13_14) (some 29) rfl rfl (by kernel_rfl) (by kernel_rfl) (by kernel_rfl) (fun _ _ _ h => h) (by rfl) [14, 15, 17, 18, 19, 20] (by kernel_rfl) ?hvp_13_14 ?restp_13_14
  case hvp_13_14 => (intro w' hb; (have hcw := (hb.cell (p := ⟨g, 0, none⟩) hgl).trans cg0; go_simp; try with_reducible rfl))
  simp only [Act.put, List.setIfInBounds_toArray, List.set_cons_zero, List.set_cons_succ]
  refine wpAnyL_take (i := 14) (v := ?vp_14_15) (some 30) rfl rfl (by kernel_rfl) (by kernel_rfl) (by kernel_rfl) (fun _ _ _ h => h) (by rfl) [15, 17, 18, 19, 20] (by kernel_rfl) ?hvp_14_15 ?restp_14_15
  case hvp_14_15 => (intro w' hb; go_simp; try with_reducible rfl)
  simp only [Act.put, List.setIfInBounds_toArray, List.set_cons_zero, List.set_cons_succ]
  refine wpAnyL_take (i := 15) (v := ?vp_15_16) (some 31) rfl rfl (by kernel_rfl) (by kernel_rfl) (by kernel_rfl) (fun _ _ _ h => h) (by rfl) [17, 18, 19, 20] (by kernel_rfl) ?hvp_15_16 ?restp_15_16
  case hvp_15_16 => (intro w' hb; go_simp; try with_reducible rfl)
  simp only [Act.put, List.setIfInBounds_toArray, List.set_cons_zero, List.set_cons_succ]
  refine wpAnyL_take (i := 16) (v := ?vp_16_17) (some 32) rfl rfl (by kernel_rfl) (by kernel_rfl) (by kernel_rfl) (fun _ _ _ h => h) (by rfl) [17, 18, 19, 20] (by kernel_rfl) ?hvp_16_17 ?restp_16_17
  case hvp_16_17 => (intro w' hb; go_simp; try with_reducible rfl)
  simp only [Act.put, List.setIfInBounds_toArray, List.set_cons_zero, List.set_cons_succ]
  refine wpAnyL_alone (i := 17) rfl (by kernel_rfl) (by rfl) (fun K hK => ?_)
  obtain ⟨pa, pc, W2, hrun, hbA, hrA, hpa⟩ := APP.out 22
  have P2 := (hbA.block g hgl).trans P1.out
  have cw2 := (cell_of_row W2 g 0 _ _ _ P2).trans (rfl : _ = some (Value.slice sa m sc))
  have fw2 := frozen_of_row W2 g 0 _ _ P2
  refine wp_append_run (.tmp 31) (.tmp 32) 22 rfl rfl rfl hrun ?_
  refine hK.out _ _ (fun _ => (hbA)) ?_
  clear hK K
  simp only [List.setIfInBounds_toArray, List.set_cons_zero, List.set_cons_succ]
  refine wpAnyL_take (i := 18) (v := ?vp_18_18) (some 34) rfl rfl (by kernel_rfl) (by kernel_rfl) (by kernel_rfl) (fun _ _ _ h => h) (by rfl) [19, 20] (by kernel_rfl) ?hvp_18_18 ?restp_18_18
  case hvp_18_18 => (intro w' hb; go_simp; try with_reducible rfl)
  simp only [Act.put, List.setIfInBounds_toArray, List.set_cons_zero, List.set_cons_succ]
  refine wpAnyL_take (i := 19) (v := ?vp_19_19) (some 35) rfl rfl (by kernel_rfl) (by kernel_rfl) (by kernel_rfl) (fun _ _ _ h => h) (by rfl) [20] (by kernel_rfl) ?hvp_19_19 ?restp_19_19
  case hvp_19_19 => (intro w' hb; go_simp; try with_reducible rfl)
  simp only [Act.put, List.setIfInBounds_toArray, List.set_cons_zero, List.set_cons_succ]
  refine wpAnyL_alone (i := 20) rfl (by kernel_rfl) (by rfl) (fun K hK => ?_)
  go_simp
  refine hK.out _ _ (fun h => absurd rfl h) ?_
  clear hK K
  simp only [List.setIfInBounds_toArray, List.set_cons_zero, List.set_cons_succ]
  refine wpAnyL_done (by kernel_rfl) ?_ _
  have SI3 : SI Ok W2.heap.size g (Y ++ B) k (W2.setCell ⟨g, 0, none⟩ (.slice pa (Y.length + B.length) pc)) := by
    have hbs := hbA.size
    have hne : ∀ b, pa = some b → b.block < W2.heap.size ∧ b.block ≠ g ∧ Ok b.block := by
      intro b hb
      rcases hpa with h | ⟨h, h2⟩
      · have := P4.out b (by rw [← h]; exact hb)
        simp at hbs
        exact ⟨by omega, this.2.1, this.2.2⟩
      · rw [hb] at h
        obtain rfl := Option.some.inj h
        simp at h2 ⊢
        exact ⟨by omega, by omega, hOk _ (by omega)⟩
    refine ⟨pa, pc, ?_, ?_, by simp at hbs; omega, hne⟩
    · rw [List.length_append]; simp [World.setCell, Array.getElem?_modify, P2]
    · have := reads_set (j := 0) (u := .slice pa (Y.length + B.length) pc) (g := g) hrA (fun b e => by
        rcases pa with _ | ⟨b', o, s⟩
        · cases e
        · have h5 : b' ≠ g := (hne _ rfl).2.1
          simp [Value.ownBlock] at e; omega)
      exact this
  have hbW : Below w.heap.size w W2 := Below.drewl (by simpa using hbA)
  have TT3 : Turn g w (W2.setCell ⟨g, 0, none⟩ (.slice pa (Y.length + B.length) pc)) := (Turn.of_below hbW).set 0 _
  have BB3 : Below w0.heap.size w0 (W2.setCell ⟨g, 0, none⟩ (.slice pa (Y.length + B.length) pc)) := (hb0.trans (hbW.mono hb0.size)).setCell (p := ⟨g, 0, none⟩) hw0 _
  have hs3 : (W2.setCell ⟨g, 0, none⟩ (.slice pa (Y.length + B.length) pc)).heap.size = W2.heap.size := by simp
  rw [← hs3] at SI3
  have SS3 := hid SI3
  have hws := hid (show w.heap.size ≤ (W2.setCell ⟨g, 0, none⟩ (.slice pa (Y.length + B.length) pc)).heap.size by rw [hs3]; exact hbW.size)
  clear SI3 hrun hbA hrA hpa P2 cw2 fw2 hbW hs3 cg0 cg2 APP HR P1 P4 hmc hsc hb0
  generalize W2.setCell ⟨g, 0, none⟩ (.slice pa (Y.length + B.length) pc) = W3 at *
  simp only [OnlyOn]
  gi_wp2_with (refine ⟨trivial, ?_⟩; gi_at_call 79; refine (callsIn_wide.2 (told_any g _)).mono ?_; rintro e w' ⟨rfl, rfl⟩)
  have q0 : ((W3.alloc (.cells #[.slice none 0 0] 60)).alloc (.cells #[.pointer (some ⟨g, 0, none⟩)] 58)).heap[W3.heap.size]? = _ := (Below.heap_alloc _ _ _ (by simp)).trans (heap_alloc_new W3 _)
  have q1 := heap_alloc2_new W3 (.cells #[.slice none 0 0] 60) (.cells #[.pointer (some ⟨g, 0, none⟩)] 58)
  have hbel := ((Below.refl _ W3).alloc (Nat.le_refl _) (.cells #[.slice none 0 0] 60)).alloc (by simp) (.cells #[.pointer (some ⟨g, 0, none⟩)] 58)
  have hsz : ((W3.alloc (.cells #[.slice none 0 0] 60)).alloc (.cells #[.pointer (some ⟨g, 0, none⟩)] 58)).heap.size = W3.heap.size + 2 := by simp
  generalize (W3.alloc (.cells #[.slice none 0 0] 60)).alloc (.cells #[.pointer (some ⟨g, 0, none⟩)] 58) = W4 at *
  have hgh : g < W3.heap.size := by have := hws.out; omega
  have SI4 := SS3.out.below hbel
  have TT4 := TT3.more hbel hws.out
  have BB4 := BB3.trans (hbel.mono BB3.size)
  refine wpIn_rangeFunc_turns (F := Fence.wide) (n := 10) rfl (by decide) (gf := 100) (lb := #[.pointer (some ⟨W3.heap.size + 1, 0, none⟩)]) rfl trivial (enters_of Tryd.func100 (by kernel_rfl) rfl)
    (told_turns W3.heap.size g (W3.heap.size + 1) (Y ++ B) k a0 a1 w0 F0.out hw0 hgh (by omega) HLN.out HYB.out 9 (by decide))
    (fun A B ht k o hk ho _ => ht.row ho (by omega)) (fun h k => ⟨h.1.trans k.1, fun o ho => k.2 o (h.2 o ho)⟩)
    (fun W l o o' hl ho h1 h2 => ⟨belowK_b (w := W4) (by omega) W l o o' hl ho h1 h2, fun o2 ho2 => (World.putObj_heap_other (by omega)).trans ho2⟩) (fun _ => rfl)
    ?hst ⟨SI4, q1, BB4, by omega⟩ ?hs (PuI g W3.heap.size w) (puI_own (by have := hws.out; omega)) (fun s A B hs ht => puI_turn hgh hs ht) ⟨⟨_, q0, World.ownsRow_nil _ _ _ _⟩, TT4, by omega⟩
    (fun x a' W => ∃ bx, W3.heap.size + 2 ≤ bx ∧ RB bx x W ∧ a' = { tmps := #[.pointer (some ⟨g, 0, none⟩), .slice va nb vc, undef, undef, .slice none 0 0, .pointer (some ⟨W3.heap.size, 0, none⟩), .pointer (some ⟨bx, 0, none⟩), .pointer (some ⟨g, 0, none⟩), .bool false, .bool false, .pointer (some ⟨g, 0, none⟩), .pointer (some ⟨g, 0, none⟩), .pointer (some ⟨g, 2, none⟩), .bool true, .bool false, .bool false, .pointer (some ⟨g, 0, none⟩), .pointer (some ⟨g, 0, none⟩), .pointer (some ⟨g, 0, none⟩), .pointer (some ⟨g, 0, none⟩), .slice sa m sc, .pointer (some ⟨g, 0, none⟩), .pointer (some ⟨g, 0, none⟩), .pointer (some ⟨g, 0, none⟩), .slice sa m sc, .int .i64 m, .pointer (some ⟨g, 0, none⟩), .pointer (some ⟨g, 0, none⟩), .pointer (some ⟨g, 0, none⟩), .slice sa m sc, .int .i64 m, .slice sa m m, .slice va nb vc, .slice pa (Y.length + B.length) pc, .pointer (some ⟨g, 0, none⟩), .pointer (some ⟨g, 0, none⟩), .pointer (some ⟨g, 0, none⟩), .func (.func 100) #[] #[.pointer (some ⟨W3.heap.size + 1, 0, none⟩)], .agg (rcells x), undef, undef, undef, undef, undef], defers := [] }) ?hax ?assign ?body ?done
  case hst =>
    rintro _ A B row ⟨h1, h2, h3, h4⟩ hg hr
    have hr' : ∀ r, row = some r → ∃ o : Obj, A.heap[r]? = some o ∧ o.isCells = false := fun r e => (hr r e).2
    have hb : Below W3.heap.size A B := (Below.refl _ A).grown hg h4 (fun k e => by have := (hr k e).1; omega)
    exact ⟨h1.below hb, blk_kept h2 hg hr', h3.trans (hb.mono BB3.size), Nat.le_trans h4 hg.size⟩
  case hs =>
    rintro xs A B row ⟨h1, h2, h3, h4⟩ hg hr
    have hb : Below W3.heap.size A B := (Below.refl _ A).grown hg h4 (fun k e => by have := (hr k e).1; omega)
    exact ⟨h1, h2.below hb, h3.trans (hb.mono BB3.size), Nat.le_trans h4 hg.size⟩
  case hax =>
    rintro x a' _ A B row ⟨bx, h1, h2, h3⟩ hg hr
    have hr' : ∀ r, row = some r → ∃ o : Obj, A.heap[r]? = some o ∧ o.isCells = false := fun r e => (hr r e).2
    exact ⟨bx, h1, blk_kept h2 hg hr', h3⟩
  case assign =>
    intro l pre x W K hok hi hKK
    simp [Array.zip, -Array.size_zipWith]
    gi_wp2_with (first | ((with_reducible refine at_opIn (.alloc 50) ?_); refine opIn_round (by intro c h; cases h) rfl (fun K hK => ?_); refine wp_alloc_rep rfl ?_; intro g7 w7 hg7 hR7 hb7; have hl7 : W.heap.size ≤ g7 := Nat.le_of_eq hg7.symm; clear hg7; refine hK _ _ ?_) | ((with_reducible refine at_opIn (.store 50 (.tmp 6) (.tmp 38)) ?_); refine opIn_round (by intro c h; cases h) rfl (fun K hK => ?_); refine wp_store_rep (.tmp 6) (.tmp 38) rfl g7 W.heap.size x zeroR hok.1.1 rfl rfl rfl hR7 hl7 ?_; intro w8 hR8 hb8; refine hK _ _ ?_))
    have hb78 := hb7.trans (hb8.mono (Nat.le_refl _))
    have hWs : W3.heap.size + 2 ≤ W.heap.size := hi.2.2
    exact hKK _ _ (keeps_of_below hb78) (kps_of_below hb78 (by omega)) (puI_later hi hb78) ⟨g7, by omega, hR8, rfl⟩
  case body =>
    rintro l pre x a' W hl hok hi ⟨bx, hbx, hRx, rfl⟩
    obtain ⟨⟨u, b1, b2⟩, tt, hWs⟩ := hi
    obtain ⟨i0, hi0, hz0, hz1, hz2⟩ := info_parts Tryd.infoRep
    obtain ⟨ua, uc, rfl⟩ := own_slice b2
    have c0 := (cell_of_row W W3.heap.size 0 _ _ _ b1).trans (rfl : _ = some (Value.slice ua pre.length uc))
    have HX := hid hok.1.1
    have HPL := hid hok.2
    have hlt0 := lt_of_row b1
    clear hok
    gi_wp2_with (first | ((with_reducible refine at_opIn (.load 50 (.tmp 6)) ?_); refine opIn_round (by intro c h; cases h) rfl (fun K hK => ?_); refine wp_load_row 50 (.tmp 6) rfl bx rfl _ _ _ _ hRx Tryd.underlying50 rfl (by rw [rcells_size _ HX.out]; kernel_rfl) (hK _ _ ?_)) | ((with_reducible refine at_opIn (.buildSlice 60 1 #[(0, .tmp 40)]) ?_); refine opIn_round (by intro c h; cases h) rfl (fun K hK => ?_); refine wp_slice1_rep (.tmp 40) rfl x HX.out rfl ?_; intro g8 w8 hg8 hR8 hb8; clear hg8; refine hK _ _ ?_) | ((with_reducible refine at_opIn (.call { callee := .builtin .append, args := #[.tmp 39, .tmp 41], argTypes := #[60, 60] }) ?_); refine opIn_round (by intro c h; cases h) rfl (fun K hK => ?_); refine wp_append_own w8 (.tmp 39) (.tmp 41) 60 rfl (W3.heap.size + 2) 50 i0 (.agg (rcells zeroR)) 11 64 Tryd.underlying60 hi0 hz0 hz1 hz2 rfl (by decide) _ pre.length (repCells pre) rfl (ownsRow_below b2 hb8) ⟨g8, 0, none⟩ 1 1 (rcells x).toList rfl (rcells_list_len x HX.out) ?_ ?_ ?_ ?_ ?_ ?_; (intro j t hj; rw [add_plain, Nat.zero_add]; exact (cell_of_row w8 g8 j _ _ _ hR8).trans (by rw [← hj, Array.getElem?_toList])); (intro t ht; exact Array.all_eq_true_iff_forall_mem.1 (rcells_one x) t (by simpa using ht)); (have := HPL.out; simp [maxLen]; omega); (have := HPL.out; omega); (have := hb8.size; omega); intro v' w9 hown9 hg9 _; have b19 := (hg9.block _ (Nat.lt_of_lt_of_le hlt0 hb8.size) (fun e => by have := (b2.lt _ e.symm).1; omega)).trans ((hb8.block _ hlt0).trans b1); have c9 := (cell_of_row w9 W3.heap.size 0 _ _ _ b19).trans (rfl : _ = some (Value.slice ua pre.length uc)); have f9 := frozen_of_row w9 W3.heap.size 0 _ _ b19; obtain ⟨va9, vc9, rfl⟩ := own_slice hown9; refine hK _ _ ?_))
    have own8 := ownsRow_below b2 hb8
    have hbA : Below W3.heap.size W w8 := hb8.mono (by omega)
    have hbB : Below W3.heap.size W w9 := hbA.grown hg9 (by have := hb8.size; omega) (fun k e => by have := (b2.lt k e).1; omega)
    have hbH : Below W3.heap.size W (w9.setCell ⟨W3.heap.size, 0, none⟩ (.slice va9 (pre.length + 1) vc9)) := hbB.setCell (p := ⟨W3.heap.size, 0, none⟩) (Nat.le_refl _) _
    show KeepsFrom _ W _ ∧ KpS _ _ W _ ∧ PuI _ _ _ _ _
    refine ⟨((keeps_of_below hb8).trans (keeps_grown hg9 (own_is_cells own8))).trans ((KeepsOthers.setCell _ _ _).from _), ⟨hbH, fun o ho => ?_⟩, ⟨.slice va9 (pre.length + 1) vc9, ?_, ?_⟩, tt.more hbH hws.out, by have := hbH.size; omega⟩
    · exact (Below.heap_setCell _ _ _ (W3.heap.size + 1) (by simp)).trans ((hg9.block _ (Nat.lt_of_lt_of_le (lt_of_row ho) hb8.size) (fun e => by have := (b2.lt _ e.symm).1; omega)).trans ((hb8.block _ (lt_of_row ho)).trans ho))
    · simp [World.setCell, Array.getElem?_modify, b19]
    · have := own_set_other' (off := 0) (u := .slice va9 (pre.length + 1) vc9) hown9 (row_not' hown9 b19 (by decide))
      unfold Rows'
      rw [List.length_append, repCells_snoc]
      exact this
  case done =>
    rintro D xs W hD ⟨rfl, hsi, hbb, hn⟩ ⟨⟨u, b1, b2⟩, tt, hWs⟩ hK
    obtain ⟨ua, uc, rfl⟩ := own_slice b2
    have c0 := (cell_of_row W W3.heap.size 0 _ _ _ b1).trans (rfl : _ = some (Value.slice ua (look (Y ++ B)).1.length uc))
    have hbD := belowK_b (n₀ := W3.heap.size) (w := W4) (by omega) W D (.deferred (some [])) (.deferred none) (by omega) hK rfl rfl
    have own' := own_kept b2 (grownBy_putObj' W D (.deferred none)) (fun r e => by cases e; exact ⟨_, hK, rfl⟩)
    have FIN := hid (show Turn g w (W.putObj D (.deferred none)) ∧ SI Ok (W.putObj D (.deferred none)).heap.size g (look (Y ++ B)).2.2 (k + (look (Y ++ B)).2.1) (W.putObj D (.deferred none)) ∧ Rows' w.heap.size (W.putObj D (.deferred none)) (.slice ua (look (Y ++ B)).1.length uc) (look (Y ++ B)).1 from
      ⟨tt.more hbD hws.out, (hsi.below hbD).mono (Nat.le_trans hn hbD.size), own_base own' (by have := hws.out; omega)⟩)
    clear own' hbD hsi tt b2
    gi_wp2
    refine ⟨by simp, .inl ⟨_, _, rfl, run_takeDeferred hK, ?_⟩⟩
    exact ⟨.slice ua (look (Y ++ B)).1.length uc, by simp [results, Tryd.results43], _, rfl, FIN.out⟩
end Go.Proofs.YtecbfegohdllbaaDoor
