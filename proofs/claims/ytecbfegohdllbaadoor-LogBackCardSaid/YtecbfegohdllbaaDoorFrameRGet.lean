/- Layer 36 (frame): the reference's Get: a contract. -/
import Derived.Test.YtecbfegohdllbaaDoorFrameGet
import Derived.Deep.Cut
namespace Go.Proofs.YtecbfegohdllbaaDoor
open Go.RowKit
set_option linter.unusedVariables false
set_option linter.unusedSimpArgs false
@[local go_sem] theorem iwr_0 : IntKind.i64.wrap 0 = 0 := by decide
@[local go_sem] theorem iwr_1 : IntKind.i64.wrap 1 = 1 := by decide
@[local go_sem] theorem iwr_2 : IntKind.i64.wrap 2 = 2 := by decide
@[local go_sem] theorem iwr_3 : IntKind.i64.wrap 3 = 3 := by decide
@[local go_sem] theorem iwr_4 : IntKind.i64.wrap 4 = 4 := by decide
@[local go_sem] theorem iwr_5 : IntKind.i64.wrap 5 = 5 := by decide
@[local go_sem] theorem iwr_6 : IntKind.i64.wrap 6 = 6 := by decide
@[local go_sem] theorem iwr_7 : IntKind.i64.wrap 7 = 7 := by decide
@[local go_sem] theorem iwr_8 : IntKind.i64.wrap 8 = 8 := by decide
@[local go_sem] theorem iwr_9 : IntKind.i64.wrap 9 = 9 := by decide
@[local go_sem] theorem iwr_10 : IntKind.i64.wrap 10 = 10 := by decide
@[local go_sem] theorem iwr_11 : IntKind.i64.wrap 11 = 11 := by decide
@[local go_sem] theorem iwr_12 : IntKind.i64.wrap 12 = 12 := by decide
@[local go_sem] theorem iwr_13 : IntKind.i64.wrap 13 = 13 := by decide
@[local go_sem] theorem iwr_14 : IntKind.i64.wrap 14 = 14 := by decide
@[local go_sem] theorem iwr_15 : IntKind.i64.wrap 15 = 15 := by decide
@[local go_sem] theorem iwr_16 : IntKind.i64.wrap 16 = 16 := by decide
@[local go_sem] theorem iwr_17 : IntKind.i64.wrap 17 = 17 := by decide
@[local go_sem] theorem iwr_18 : IntKind.i64.wrap 18 = 18 := by decide
@[local go_sem] theorem iwr_19 : IntKind.i64.wrap 19 = 19 := by decide
@[local go_sem] theorem iwr_20 : IntKind.i64.wrap 20 = 20 := by decide
@[local go_sem] theorem iwr_21 : IntKind.i64.wrap 21 = 21 := by decide
@[local go_sem] theorem iwr_22 : IntKind.i64.wrap 22 = 22 := by decide
@[local go_sem] theorem iwr_23 : IntKind.i64.wrap 23 = 23 := by decide
@[local go_sem] theorem iwr_24 : IntKind.i64.wrap 24 = 24 := by decide
@[local go_sem] theorem iwr_25 : IntKind.i64.wrap 25 = 25 := by decide
@[local go_sem] theorem iwr_26 : IntKind.i64.wrap 26 = 26 := by decide
@[local go_sem] theorem iwr_27 : IntKind.i64.wrap 27 = 27 := by decide
@[local go_sem] theorem iwr_28 : IntKind.i64.wrap 28 = 28 := by decide
@[local go_sem] theorem iwr_29 : IntKind.i64.wrap 29 = 29 := by decide
@[local go_sem] theorem iwr_30 : IntKind.i64.wrap 30 = 30 := by decide
@[local go_sem] theorem iwr_31 : IntKind.i64.wrap 31 = 31 := by decide
section
variable {Q : Exit → Act → World → Prop}
theorem wp_alloc_rep {o : Oper} {a : Act} {w : World} {K : Act → World → Prop} (ho : o.op = .alloc 50)
    (h : ∀ g w', g = w.heap.size → RB g zeroR w' → Below w.heap.size w w' → K (a.put o.dst (.pointer (some ⟨g, 0, none⟩))) w') : o.wp Tryd.prog a w K Q := by
  have h' := h _ _ rfl (heap_alloc_new w _) ((Below.refl _ w).alloc (Nat.le_refl _) _)
  unfold Oper.wp execOp
  simp only [ho]
  go_simp
  exact h'
theorem wp_store_rep {o : Oper} {a : Act} {w : World} {K : Act → World → Prop} (x y : Operand) (ho : o.op = .store 50 x y)
    (g B : Nat) (Z Y : List Int) (hZ : Z.length = 11) (hY : Y.length = 11) (hx : a.eval x = .pointer (some ⟨g, 0, none⟩)) (hy : a.eval y = .agg (rcells Z)) (hc : RB g Y w) (hB : B ≤ g)
    (h : ∀ w', RB g Z w' → Below B w w' → K (a.put o.dst undef) w') : o.wp Tryd.prog a w K Q :=
  wp_store_row 50 x y ho g (rcells Z) hx hy _ (rcells Y) hc (by rw [rcells_size Z hZ]; kernel_rfl) (by rw [rcells_size Z hZ, rcells_size Y hY]) (rcells_one Z) (h _ (setRow_heap _ _ _ _ _ _ hc) (below_setRow (Below.refl _ _) hB _))
end
set_option maxRecDepth 20000 in
theorem rnum_any (x y : Int) (k : Nat) (b off n c : Nat) (w : World) (hlt : b < w.heap.size) (hk : k + 1 < n) (hk2 : k < 1000) (bx : 0 ≤ x ∧ x ≤ 255) (hy : 0 ≤ y ∧ y ≤ 255)
    (k0 : w.cell? ⟨b, off + k, none⟩ = some (.int .u8 x)) (k1 : w.cell? ⟨b, off + (k + 1), none⟩ = some (.int .u8 y)) :
    Calls Tryd.prog 77 #[.slice (some ⟨b, off, none⟩) n c, .int .i64 k] w fun e w' => e = .returned (.int .i64 (256 * x + y)) ∧ Below w.heap.size w w' := by
  obtain ⟨k', hk'⟩ : ∃ k', k' = k + 1 := ⟨_, rfl⟩
  have e1 : IntKind.i64.wrap ((k : Int) + 1) = (k' : Int) := by rw [IntWalk.i64_in _ (by omega)]; omega
  have e2 : IntKind.i64.wrap (256 * IntKind.i64.wrap x) = 256 * x := by rw [IntWalk.i64_in x (by omega), IntWalk.i64_in _ (by omega)]
  have e3 : IntKind.i64.wrap (256 * x + IntKind.i64.wrap y) = 256 * x + y := by rw [IntWalk.i64_in y (by omega), IntWalk.i64_in _ (by omega)]
  have h1 : (k : Int) < n := by omega
  have h2 : (k' : Int) < n := by omega
  rw [← hk'] at k1
  clear hk' hk hk2 bx hy
  go_enter Tryd.func77, Tryd.ntmps77
  go_wp2_with fail
  refine wp_region_F' (B := w.heap.size) (n := 14) (l := #[false, false, false, false, false, false, false, false, false, false, false, false, false, false]) (by kernel_rfl) (by kernel_rfl) (by kernel_rfl) ?_
  refine wpAnyF_take (i := 0) (v := ?vn_0_1) (some 5) rfl rfl (by kernel_rfl) (by kernel_rfl) (by kernel_rfl) (fun _ _ _ h => h) (by rfl) ?hvn_0_1 ?restn_0_1
  case hvn_0_1 => (intro w' hb; go_simp; try with_reducible rfl)
  simp only [Act.put, List.setIfInBounds_toArray, List.set_cons_zero, List.set_cons_succ]
  refine wpAnyF_take (i := 1) (v := ?vn_1_2) (some 6) rfl rfl (by kernel_rfl) (by kernel_rfl) (by kernel_rfl) (fun _ _ _ h => h) (by rfl) ?hvn_1_2 ?restn_1_2
  case hvn_1_2 => (intro w' hb; go_simp; try with_reducible rfl)
  simp only [Act.put, List.setIfInBounds_toArray, List.set_cons_zero, List.set_cons_succ]
  refine wpAnyF_take (i := 2) (v := ?vn_2_3) (some 7) rfl rfl (by kernel_rfl) (by kernel_rfl) (by kernel_rfl) (fun _ _ _ h => h) (by rfl) ?hvn_2_3 ?restn_2_3
  case hvn_2_3 => (intro w' hb; go_simp; try with_reducible rfl)
  simp only [Act.put, List.setIfInBounds_toArray, List.set_cons_zero, List.set_cons_succ]
  refine wpAnyF_take (i := 3) (v := ?vn_3_4) (some 8) rfl rfl (by kernel_rfl) (by kernel_rfl) (by kernel_rfl) (fun _ _ _ h => h) (by rfl) ?hvn_3_4 ?restn_3_4
  case hvn_3_4 => (intro w' hb; (have hcw := (hb.cell (p := ⟨b, off + k, none⟩) hlt).trans k0; go_simp; try with_reducible rfl))
  simp only [Act.put, List.setIfInBounds_toArray, List.set_cons_zero, List.set_cons_succ]
  refine wpAnyF_take (i := 4) (v := ?vn_4_5) (some 9) rfl rfl (by kernel_rfl) (by kernel_rfl) (by kernel_rfl) (fun _ _ _ h => h) (by rfl) ?hvn_4_5 ?restn_4_5
  case hvn_4_5 => (intro w' hb; go_simp; try with_reducible rfl)
  simp only [Act.put, List.setIfInBounds_toArray, List.set_cons_zero, List.set_cons_succ]
  refine wpAnyF_take (i := 5) (v := ?vn_5_6) (some 10) rfl rfl (by kernel_rfl) (by kernel_rfl) (by kernel_rfl) (fun _ _ _ h => h) (by rfl) ?hvn_5_6 ?restn_5_6
  case hvn_5_6 => (intro w' hb; go_simp; try with_reducible rfl)
  simp only [Act.put, List.setIfInBounds_toArray, List.set_cons_zero, List.set_cons_succ]
  refine wpAnyF_take (i := 6) (v := ?vn_6_7) (some 11) rfl rfl (by kernel_rfl) (by kernel_rfl) (by kernel_rfl) (fun _ _ _ h => h) (by rfl) ?hvn_6_7 ?restn_6_7
  case hvn_6_7 => (intro w' hb; go_simp; try with_reducible rfl)
  simp only [Act.put, List.setIfInBounds_toArray, List.set_cons_zero, List.set_cons_succ]
  refine wpAnyF_take (i := 7) (v := ?vn_7_8) (some 12) rfl rfl (by kernel_rfl) (by kernel_rfl) (by kernel_rfl) (fun _ _ _ h => h) (by rfl) ?hvn_7_8 ?restn_7_8
  case hvn_7_8 => (intro w' hb; go_simp; try with_reducible rfl)
  simp only [Act.put, List.setIfInBounds_toArray, List.set_cons_zero, List.set_cons_succ]
  refine wpAnyF_take (i := 8) (v := ?vn_8_9) (some 13) rfl rfl (by kernel_rfl) (by kernel_rfl) (by kernel_rfl) (fun _ _ _ h => h) (by rfl) ?hvn_8_9 ?restn_8_9
  case hvn_8_9 => (intro w' hb; go_simp; try with_reducible rfl)
  simp only [Act.put, List.setIfInBounds_toArray, List.set_cons_zero, List.set_cons_succ]
  refine wpAnyF_take (i := 9) (v := ?vn_9_10) (some 14) rfl rfl (by kernel_rfl) (by kernel_rfl) (by kernel_rfl) (fun _ _ _ h => h) (by rfl) ?hvn_9_10 ?restn_9_10
  case hvn_9_10 => (intro w' hb; go_simp; try with_reducible rfl)
  simp only [Act.put, List.setIfInBounds_toArray, List.set_cons_zero, List.set_cons_succ]
  refine wpAnyF_take (i := 10) (v := ?vn_10_11) (some 15) rfl rfl (by kernel_rfl) (by kernel_rfl) (by kernel_rfl) (fun _ _ _ h => h) (by rfl) ?hvn_10_11 ?restn_10_11
  case hvn_10_11 => (intro w' hb; (have hcw := (hb.cell (p := ⟨b, off + k', none⟩) hlt).trans k1; go_simp; try with_reducible rfl))
  simp only [Act.put, List.setIfInBounds_toArray, List.set_cons_zero, List.set_cons_succ]
  refine wpAnyF_take (i := 11) (v := ?vn_11_12) (some 16) rfl rfl (by kernel_rfl) (by kernel_rfl) (by kernel_rfl) (fun _ _ _ h => h) (by rfl) ?hvn_11_12 ?restn_11_12
  case hvn_11_12 => (intro w' hb; go_simp; try with_reducible rfl)
  simp only [Act.put, List.setIfInBounds_toArray, List.set_cons_zero, List.set_cons_succ]
  refine wpAnyF_take (i := 12) (v := ?vn_12_13) (some 17) rfl rfl (by kernel_rfl) (by kernel_rfl) (by kernel_rfl) (fun _ _ _ h => h) (by rfl) ?hvn_12_13 ?restn_12_13
  case hvn_12_13 => (intro w' hb; go_simp; try with_reducible rfl)
  simp only [Act.put, List.setIfInBounds_toArray, List.set_cons_zero, List.set_cons_succ]
  refine wpAnyF_take (i := 13) (v := ?vn_13_14) (some 4) rfl rfl (by kernel_rfl) (by kernel_rfl) (by kernel_rfl) (fun _ _ _ h => h) (by rfl) ?hvn_13_14 ?restn_13_14
  case hvn_13_14 => (intro w' hb; go_simp; try with_reducible rfl)
  simp only [Act.put, List.setIfInBounds_toArray, List.set_cons_zero, List.set_cons_succ]
  refine wpAnyF_done (by kernel_rfl) ?_ _
  go_wp2_with fail
  go_ret
  exact ⟨rfl, (Below.refl _ w).drew⟩
set_option maxRecDepth 100000 in
theorem rget_short (a : Option Addr) (n c : Nat) (w : World) (hn : n < 32) (hm : n ≤ 9223372036854775807) :
    Calls Tryd.prog 40 #[.slice a n c] w fun e w' => e = .returned (.tuple #[.agg (rcells zeroR), .int .i64 4]) ∧ Below w.heap.size w w' := by
  rw [zero_rcells]
  go_enter Tryd.func40, Tryd.ntmps40
  go_wp2
  exact bodyPost_ret (v := .tuple #[.agg (#[Value.int .i64 0, Value.int .i64 0, Value.int .i64 0, Value.int .i64 0, Value.int .i32 0, Value.int .i32 0, Value.int .i32 0, Value.int .i32 0, Value.int .i32 0, Value.int .i32 0, Value.int .i32 0] : Array Value), .int .i64 4]) (by simp [results, Tryd.results40, go_sem]) rfl ⟨rfl, (Below.refl _ w).alloc (Nat.le_refl _) _⟩
set_option maxRecDepth 100000 in
theorem rget_long (a : Option Addr) (n c : Nat) (w : World) (hn : 32 < n) (hm : n ≤ 9223372036854775807) :
    Calls Tryd.prog 40 #[.slice a n c] w fun e w' => e = .returned (.tuple #[.agg (rcells zeroR), .int .i64 5]) ∧ Below w.heap.size w w' := by
  rw [zero_rcells]
  go_enter Tryd.func40, Tryd.ntmps40
  go_wp2
  exact bodyPost_ret (v := .tuple #[.agg (#[Value.int .i64 0, Value.int .i64 0, Value.int .i64 0, Value.int .i64 0, Value.int .i32 0, Value.int .i32 0, Value.int .i32 0, Value.int .i32 0, Value.int .i32 0, Value.int .i32 0, Value.int .i32 0] : Array Value), .int .i64 5]) (by simp [results, Tryd.results40, go_sem]) rfl ⟨rfl, (Below.refl _ w).alloc (Nat.le_refl _) _⟩
set_option maxRecDepth 100000 in
set_option maxHeartbeats 1000000 in
theorem rget_sum (v : Value) (L : List Int) (w : World) (hr : Reads .u8 w v L) (hL : L.length = 32) (hbad : L ≠ sealL (L.take 30)) :
    Calls Tryd.prog 40 #[v] w fun e w' => e = .returned (.tuple #[.agg (rcells zeroR), .int .i64 7]) ∧ Below w.heap.size w w' := by
  have hB1 := (Below.refl w.heap.size w).alloc (Nat.le_refl _) (.cells (rcells zeroR) 50)
  have R0 : RB w.heap.size zeroR (w.alloc (.cells (rcells zeroR) 50)) := heap_alloc_new w _
  have hr1 := hid (hr.later hB1)
  have HL := hid hL
  obtain ⟨a, c, rfl, -, -, -, -, -⟩ := id hr
  rw [hL] at hr1 ⊢
  clear hr hL
  go_enter Tryd.func40, Tryd.ntmps40
  go_wp2_with fail
  rw [show w.alloc (.cells (#[Value.int .i64 0, Value.int .i64 0, Value.int .i64 0, Value.int .i64 0, Value.int .i32 0, Value.int .i32 0, Value.int .i32 0, Value.int .i32 0, Value.int .i32 0, Value.int .i32 0, Value.int .i32 0] : Array Value) 50) = w.alloc (.cells (rcells zeroR) 50) from rfl]
  generalize w.alloc (.cells (rcells zeroR) 50) = W1 at *
  refine (ropen_bad _ L 30 HL.out W1 hr1.out (by have := HL.out; omega) hbad).mono ?_
  rintro e W2 ⟨rfl, hb2⟩
  have R2 := R0.later hb2
  have hB2 := hB1.trans (hb2.mono hB1.size)
  clear hr1 HL hbad
  go_wp2_with (first | ((with_reducible refine at_op (.store 50 (.tmp 2) (.tmp 24)) ?_); refine wpR_store rfl (.tmp 2) (.tmp 24) rfl w.heap.size zeroR zeroR rfl rfl rfl rfl _ R2 ?_))
  rw [setRow_self _ w.heap.size (rcells zeroR) 50 (0, 0) R2]
  have lv := run_loadVar_row (P := Tryd.prog) _ w.heap.size _ 50 _ _ _ R2 Tryd.underlying50 rfl (by rw [rcells_size _ rfl]; kernel_rfl)
  exact bodyPost_ret (v := .tuple #[.agg (rcells zeroR), .int .i64 7]) (by simp [results, Tryd.results40, asAddr, lv]) rfl ⟨rfl, hB2⟩
set_option maxRecDepth 100000 in
set_option maxHeartbeats 1000000 in
theorem rget_form0 (v : Value) (L : List Int) (w : World) (hr : Reads .u8 w v L) (hL : L.length = 32) (hok : L = sealL (L.take 30)) (h0 : L.getD 0 0 ≠ 1) :
    Calls Tryd.prog 40 #[v] w fun e w' => e = .returned (.tuple #[.agg (rcells zeroR), .int .i64 3]) ∧ Below w.heap.size w w' := by
  have hwf := Reads.wf hr
  have hB1 := (Below.refl w.heap.size w).alloc (Nat.le_refl _) (.cells (rcells zeroR) 50)
  have R0 : RB w.heap.size zeroR (w.alloc (.cells (rcells zeroR) 50)) := heap_alloc_new w _
  have hr1 := hid (hr.later hB1)
  have HL := hid hL
  obtain ⟨a, c, rfl, -, -, -, -, -⟩ := id hr
  rw [hL] at hr1 ⊢
  clear hr hL
  go_enter Tryd.func40, Tryd.ntmps40
  go_wp2_with fail
  rw [show w.alloc (.cells (#[Value.int .i64 0, Value.int .i64 0, Value.int .i64 0, Value.int .i64 0, Value.int .i32 0, Value.int .i32 0, Value.int .i32 0, Value.int .i32 0, Value.int .i32 0, Value.int .i32 0, Value.int .i32 0] : Array Value) 50) = w.alloc (.cells (rcells zeroR) 50) from rfl]
  generalize w.alloc (.cells (rcells zeroR) 50) = W1 at *
  refine (ropen_ok _ L 30 HL.out W1 hr1.out (by have := HL.out; omega) hok).mono ?_
  rintro e W2 ⟨v2, rfl, hb2, hown2⟩
  have R2 := R0.later hb2
  have hB2 := hB1.trans (hb2.mono hB1.size)
  have hr2 := reads_of_owns hown2 (fun x hx => hwf x (List.mem_of_mem_take hx))
  have hlt2 : (L.take 30).length = 30 := by have := HL.out; simp; omega
  obtain ⟨b2, o2, c2, rfl, hc2, -, HB2⟩ := reads_bytes hr2 (by omega)
  rw [hlt2] at hc2 ⊢
  have g0 : (L.take 30)[0]? = some (L.getD 0 0) := by have := HL.out; simp [List.getElem?_take, List.getD, List.getElem?_eq_getElem (show 0 < L.length by omega)]
  have g1 : (L.take 30)[1]? = some (L.getD 1 0) := by have := HL.out; simp [List.getElem?_take, List.getD, List.getElem?_eq_getElem (show 1 < L.length by omega)]
  generalize L.getD 0 0 = x0 at *
  generalize L.getD 1 0 = x1 at *
  have k0 := (HB2.2 0 x0 g0).1
  rw [Nat.add_zero] at k0
  have k1 := (HB2.2 1 x1 g1).1
  have hne : (x0 != 1) = true := by simpa using h0
  clear h0
  clear hr1 HL hok hwf hown2 hr2 HB2 g0 g1 hlt2 hb2
  go_wp2_with (first | ((with_reducible refine at_op (.store 50 (.tmp 2) (.tmp 36)) ?_); refine wpR_store rfl (.tmp 2) (.tmp 36) rfl w.heap.size zeroR zeroR rfl rfl rfl rfl _ R2 ?_))
  rw [setRow_self _ w.heap.size (rcells zeroR) 50 (0, 0) R2]
  have lv := run_loadVar_row (P := Tryd.prog) _ w.heap.size _ 50 _ _ _ R2 Tryd.underlying50 rfl (by rw [rcells_size _ rfl]; kernel_rfl)
  exact bodyPost_ret (v := .tuple #[.agg (rcells zeroR), .int .i64 3]) (by simp [results, Tryd.results40, asAddr, lv]) rfl ⟨rfl, hB2⟩
set_option maxRecDepth 100000 in
set_option maxHeartbeats 1000000 in
theorem rget_form1 (v : Value) (L : List Int) (w : World) (hr : Reads .u8 w v L) (hL : L.length = 32) (hok : L = sealL (L.take 30)) (h0 : L.getD 0 0 = 1) (h1 : 15 < L.getD 1 0) :
    Calls Tryd.prog 40 #[v] w fun e w' => e = .returned (.tuple #[.agg (rcells zeroR), .int .i64 3]) ∧ Below w.heap.size w w' := by
  have hwf := Reads.wf hr
  have hB1 := (Below.refl w.heap.size w).alloc (Nat.le_refl _) (.cells (rcells zeroR) 50)
  have R0 : RB w.heap.size zeroR (w.alloc (.cells (rcells zeroR) 50)) := heap_alloc_new w _
  have hr1 := hid (hr.later hB1)
  have HL := hid hL
  obtain ⟨a, c, rfl, -, -, -, -, -⟩ := id hr
  rw [hL] at hr1 ⊢
  clear hr hL
  go_enter Tryd.func40, Tryd.ntmps40
  go_wp2_with fail
  rw [show w.alloc (.cells (#[Value.int .i64 0, Value.int .i64 0, Value.int .i64 0, Value.int .i64 0, Value.int .i32 0, Value.int .i32 0, Value.int .i32 0, Value.int .i32 0, Value.int .i32 0, Value.int .i32 0, Value.int .i32 0] : Array Value) 50) = w.alloc (.cells (rcells zeroR) 50) from rfl]
  generalize w.alloc (.cells (rcells zeroR) 50) = W1 at *
  refine (ropen_ok _ L 30 HL.out W1 hr1.out (by have := HL.out; omega) hok).mono ?_
  rintro e W2 ⟨v2, rfl, hb2, hown2⟩
  have R2 := R0.later hb2
  have hB2 := hB1.trans (hb2.mono hB1.size)
  have hr2 := reads_of_owns hown2 (fun x hx => hwf x (List.mem_of_mem_take hx))
  have hlt2 : (L.take 30).length = 30 := by have := HL.out; simp; omega
  obtain ⟨b2, o2, c2, rfl, hc2, -, HB2⟩ := reads_bytes hr2 (by omega)
  rw [hlt2] at hc2 ⊢
  have g0 : (L.take 30)[0]? = some (L.getD 0 0) := by have := HL.out; simp [List.getElem?_take, List.getD, List.getElem?_eq_getElem (show 0 < L.length by omega)]
  have g1 : (L.take 30)[1]? = some (L.getD 1 0) := by have := HL.out; simp [List.getElem?_take, List.getD, List.getElem?_eq_getElem (show 1 < L.length by omega)]
  generalize L.getD 0 0 = x0 at *
  generalize L.getD 1 0 = x1 at *
  have k0 := (HB2.2 0 x0 g0).1
  rw [Nat.add_zero] at k0
  have k1 := (HB2.2 1 x1 g1).1
  subst h0
  clear hr1 HL hok hwf hown2 hr2 HB2 g0 g1 hlt2 hb2
  go_wp2_with (first | ((with_reducible refine at_op (.store 50 (.tmp 2) (.tmp 36)) ?_); refine wpR_store rfl (.tmp 2) (.tmp 36) rfl w.heap.size zeroR zeroR rfl rfl rfl rfl _ R2 ?_))
  rw [setRow_self _ w.heap.size (rcells zeroR) 50 (0, 0) R2]
  have lv := run_loadVar_row (P := Tryd.prog) _ w.heap.size _ 50 _ _ _ R2 Tryd.underlying50 rfl (by rw [rcells_size _ rfl]; kernel_rfl)
  exact bodyPost_ret (v := .tuple #[.agg (rcells zeroR), .int .i64 3]) (by simp [results, Tryd.results40, asAddr, lv]) rfl ⟨rfl, hB2⟩
set_option maxRecDepth 100000 in
set_option maxHeartbeats 4000000 in
theorem rget_ok0 (a0 a1 a2 a3 a4 a5 a6 a7 a8 a9 a10 a11 a12 a13 a14 a15 a16 a17 a18 a19 a20 a21 a22 a23 a24 a25 a26 a27 a28 a29 : Int) (v : Value) (L : List Int) (w : World) (hr : Reads .u8 w v L) (hL : L.length = 32) (hok : L = sealL (L.take 30)) (hY : L.take 30 = [a0, a1, a2, a3, a4, a5, a6, a7, a8, a9, a10, a11, a12, a13, a14, a15, a16, a17, a18, a19, a20, a21, a22, a23, a24, a25, a26, a27, a28, a29]) (h0 : a0 = 1) (h1 : a1 ≤ 15) :
    Calls Tryd.prog 40 #[v] w fun e w' => e = .returned (.tuple #[.agg (rcells (getR [a0, a1, a2, a3, a4, a5, a6, a7, a8, a9, a10, a11, a12, a13, a14, a15, a16, a17, a18, a19, a20, a21, a22, a23, a24, a25, a26, a27, a28, a29])), .int .i64 0]) ∧ Below w.heap.size w w' := by
  have hwf := Reads.wf hr
  subst h0
  have hB1 := (Below.refl w.heap.size w).alloc (Nat.le_refl _) (.cells (rcells zeroR) 50)
  have R0 : RB w.heap.size zeroR (w.alloc (.cells (rcells zeroR) 50)) := heap_alloc_new w _
  have hr1 := hid (hr.later hB1)
  have HL := hid hL
  obtain ⟨a, c, rfl, -, -, -, -, -⟩ := id hr
  rw [hL] at hr1 ⊢
  clear hr hL
  go_enter Tryd.func40, Tryd.ntmps40
  go_wp2_with fail
  rw [show w.alloc (.cells (#[Value.int .i64 0, Value.int .i64 0, Value.int .i64 0, Value.int .i64 0, Value.int .i32 0, Value.int .i32 0, Value.int .i32 0, Value.int .i32 0, Value.int .i32 0, Value.int .i32 0, Value.int .i32 0] : Array Value) 50) = w.alloc (.cells (rcells zeroR) 50) from rfl]
  generalize w.alloc (.cells (rcells zeroR) 50) = W1 at *
  refine (ropen_ok _ L 30 HL.out W1 hr1.out (by have := HL.out; omega) hok).mono ?_
  rintro e W2 ⟨v2, rfl, hb2, hown2⟩
  have R2 := R0.later hb2
  have hB2 := hB1.trans (hb2.mono hB1.size)
  have hr2 := reads_of_owns hown2 (fun x hx => hwf x (List.mem_of_mem_take hx))
  have hlt2 : (L.take 30).length = 30 := by have := HL.out; simp; omega
  obtain ⟨b2, o2, c2, rfl, hc2, -, HB2⟩ := reads_bytes hr2 (by omega)
  rw [hlt2] at hc2 ⊢
  rw [hY] at HB2
  have k0 := (HB2.2 0 _ rfl).1
  rw [Nat.add_zero] at k0
  have k1 := (HB2.2 1 _ rfl).1
  obtain ⟨b1, b1'⟩ := HB2.bd 1 rfl
  have CB := hid HB2
  have hlt := HB2.1
  have hc30 : (30 : Int) ≤ c2 := by omega
  clear hr1 HL hok hwf hown2 hr2 HB2 hlt2 hb2 hY
  have hB0 := Below.refl W2.heap.size W2
  have HB2 := hid hB2
  have HR2 := hid R2
  clear hB2 R2 R0 hB1
  obtain ⟨V, hV⟩ : ∃ V, V = W2 := ⟨_, rfl⟩
  rw [← hV] at CB HB2 HR2 hlt
  rw [show Below W2.heap.size W2 W2 ↔ Below V.heap.size V W2 by rw [hV]] at hB0
  clear hV
  go_wp2_with fail
  have EA := hid (IntWalk.i64_in a1 (by omega))
  replace hB0 := hB0.drew
  clear k0 k1
  go_cut [6] from 37 (fun s6 w9 => ∃ g, s6 = .pointer (some ⟨g, 0, none⟩) ∧ V.heap.size ≤ g ∧ RB g [a1, 256 * a2 + a3, 256 * a4 + a5, 256 * a6 + a7, 0, 0, 0, 0, 0, 0, 0] w9 ∧ Below V.heap.size V w9)
  case first =>
    refine wp_region_F' (B := V.heap.size) (n := 13) (l := #[false, false, false, false, false, false, false, false, false, false, false, false, false]) (by kernel_rfl) (by kernel_rfl) (by kernel_rfl) ?_
    refine wpAnyF_take (i := 0) (v := ?vg_0_1) (some 37) rfl rfl (by kernel_rfl) (by kernel_rfl) (by kernel_rfl) (fun _ _ _ h => h) (by rfl) ?hvg_0_1 ?restg_0_1
    case hvg_0_1 => (intro w' hb; go_simp; try with_reducible rfl)
    simp only [Act.put, List.setIfInBounds_toArray, List.set_cons_zero, List.set_cons_succ]
    refine wpAnyF_take (i := 1) (v := ?vg_1_2) (some 38) rfl rfl (by kernel_rfl) (by kernel_rfl) (by kernel_rfl) (fun _ _ _ h => h) (by rfl) ?hvg_1_2 ?restg_1_2
    case hvg_1_2 => (intro w' hb; go_simp; try with_reducible rfl)
    simp only [Act.put, List.setIfInBounds_toArray, List.set_cons_zero, List.set_cons_succ]
    refine wpAnyF_take (i := 2) (v := ?vg_2_3) (some 39) rfl rfl (by kernel_rfl) (by kernel_rfl) (by kernel_rfl) (fun _ _ _ h => h) (by rfl) ?hvg_2_3 ?restg_2_3
    case hvg_2_3 => (intro w' hb; (have hcw := CB.out.cell (hB0.trans hb) 1 rfl; go_simp; try with_reducible rfl))
    simp only [Act.put, List.setIfInBounds_toArray, List.set_cons_zero, List.set_cons_succ]
    refine wpAnyF_take (i := 3) (v := ?vg_3_4) (some 40) rfl rfl (by kernel_rfl) (by kernel_rfl) (by kernel_rfl) (fun _ _ _ h => h) (by rfl) ?hvg_3_4 ?restg_3_4
    case hvg_3_4 => (intro w' hb; go_simp; try with_reducible rfl)
    simp only [Act.put, List.setIfInBounds_toArray, List.set_cons_zero, List.set_cons_succ]
    refine wpAnyF_take (i := 4) (v := ?vg_4_5) (some 41) rfl rfl (by kernel_rfl) (by kernel_rfl) (by kernel_rfl) (fun _ _ _ h => h) (by rfl) ?hvg_4_5 ?restg_4_5
    case hvg_4_5 => (intro w' hb; go_simp; try with_reducible rfl)
    simp only [Act.put, List.setIfInBounds_toArray, List.set_cons_zero, List.set_cons_succ]
    refine wpAnyF_take (i := 6) (v := ?vg_6_6) (some 43) rfl rfl (by kernel_rfl) (by kernel_rfl) (by kernel_rfl) (fun _ _ _ h => h) (by rfl) ?hvg_6_6 ?restg_6_6
    case hvg_6_6 => (intro w' hb; go_simp; try with_reducible rfl)
    simp only [Act.put, List.setIfInBounds_toArray, List.set_cons_zero, List.set_cons_succ]
    refine wpAnyF_take (i := 8) (v := ?vg_8_7) (some 45) rfl rfl (by kernel_rfl) (by kernel_rfl) (by kernel_rfl) (fun _ _ _ h => h) (by rfl) ?hvg_8_7 ?restg_8_7
    case hvg_8_7 => (intro w' hb; go_simp; try with_reducible rfl)
    simp only [Act.put, List.setIfInBounds_toArray, List.set_cons_zero, List.set_cons_succ]
    refine wpAnyF_two (i := 5) (j := 11) (by kernel_rfl) rfl (by rfl) rfl (by rfl) (fun K hK => ?_) (fun K hK => ?_)
    · go_simp
      refine (rnum_any a2 a3 2 b2 o2 30 c2 _ (by have := hB0.size; omega) (by decide) (by decide) (CB.out.bd 2 rfl) (CB.out.bd 3 rfl) (CB.out.cell hB0 2 rfl) (CB.out.cell hB0 3 rfl)).mono ?_
      rintro e w4 ⟨rfl, hb⟩
      try replace Ra := Ra.later hb
      have hB9 := hB0.size
      replace hB0 := hB0.trans (hb.mono hB9)
      refine hK.out _ _ ⟨(hb.mono hB9), ?_⟩
      clear hK K
      simp only [List.setIfInBounds_toArray, List.set_cons_zero, List.set_cons_succ]
      refine wpAnyF_two (i := 7) (j := 11) (by kernel_rfl) rfl (by rfl) rfl (by rfl) (fun K hK => ?_) (fun K hK => ?_)
      · go_simp
        refine (rnum_any a4 a5 4 b2 o2 30 c2 _ (by have := hB0.size; omega) (by decide) (by decide) (CB.out.bd 4 rfl) (CB.out.bd 5 rfl) (CB.out.cell hB0 4 rfl) (CB.out.cell hB0 5 rfl)).mono ?_
        rintro e w4 ⟨rfl, hb⟩
        try replace Ra := Ra.later hb
        have hB9 := hB0.size
        replace hB0 := hB0.trans (hb.mono hB9)
        refine hK.out _ _ ⟨(hb.mono hB9), ?_⟩
        clear hK K
        simp only [List.setIfInBounds_toArray, List.set_cons_zero, List.set_cons_succ]
        refine wpAnyF_two (i := 9) (j := 11) (by kernel_rfl) rfl (by rfl) rfl (by rfl) (fun K hK => ?_) (fun K hK => ?_)
        · go_simp
          refine (rnum_any a6 a7 6 b2 o2 30 c2 _ (by have := hB0.size; omega) (by decide) (by decide) (CB.out.bd 6 rfl) (CB.out.bd 7 rfl) (CB.out.cell hB0 6 rfl) (CB.out.cell hB0 7 rfl)).mono ?_
          rintro e w4 ⟨rfl, hb⟩
          try replace Ra := Ra.later hb
          have hB9 := hB0.size
          replace hB0 := hB0.trans (hb.mono hB9)
          refine hK.out _ _ ⟨(hb.mono hB9), ?_⟩
          clear hK K
          simp only [List.setIfInBounds_toArray, List.set_cons_zero, List.set_cons_succ]
          refine wpAnyF_take (i := 10) (v := ?vg_10_8) (some 47) rfl rfl (by kernel_rfl) (by kernel_rfl) (by kernel_rfl) (fun _ _ _ h => h) (by rfl) ?hvg_10_8 ?restg_10_8
          case hvg_10_8 => (intro w' hb; go_simp; try with_reducible rfl)
          simp only [Act.put, List.setIfInBounds_toArray, List.set_cons_zero, List.set_cons_succ]
          refine wpAnyF_alone (i := 11) rfl (by kernel_rfl) (by rfl) (fun K hK => ?_)
          refine wp_alloc_rep rfl ?_
          intro g w4 hge Ra hb
          have hB9 := hB0.size
          have hg : V.heap.size ≤ g := by omega
          clear hge
          replace hB0 := hB0.trans (hb.mono hB9)
          refine hK.out _ _ (hb.mono hB9) ?_
          clear hK K
          simp only [List.setIfInBounds_toArray, List.set_cons_zero, List.set_cons_succ]
          refine wpAnyF_alone (i := 12) rfl (by kernel_rfl) (by rfl) (fun K hK => ?_)
          refine wp_store_rep (.tmp 6) (.tmp 47) rfl g V.heap.size [a1, 256 * a2 + a3, 256 * a4 + a5, 256 * a6 + a7, 0, 0, 0, 0, 0, 0, 0] zeroR rfl rfl rfl (congrArg (fun z => Value.agg #[Value.int .i64 z, Value.int .i64 (256 * a2 + a3), Value.int .i64 (256 * a4 + a5), Value.int .i64 (256 * a6 + a7), Value.int .i32 0, Value.int .i32 0, Value.int .i32 0, Value.int .i32 0, Value.int .i32 0, Value.int .i32 0, Value.int .i32 0]) EA.out) Ra hg ?_
          intro w9 R1 hb
          replace hB0 := hB0.trans hb
          refine hK.out _ _ (hb) ?_
          clear hK K
          simp only [List.setIfInBounds_toArray, List.set_cons_zero, List.set_cons_succ]
          refine wpAnyF_done (by kernel_rfl) ?_ _
          go_wp2_with fail
          go_meet
          case rel => exact ⟨g, rfl, hg, R1, hB0⟩
        · refine wp_alloc_rep rfl ?_
          intro g w4 hge Ra hb
          have hB9 := hB0.size
          have hg : V.heap.size ≤ g := by omega
          clear hge
          replace hB0 := hB0.trans (hb.mono hB9)
          refine hK.out _ _ ⟨(hb.mono hB9), ?_⟩
          clear hK K
          simp only [List.setIfInBounds_toArray, List.set_cons_zero, List.set_cons_succ]
          refine wpAnyF_alone (i := 9) rfl (by kernel_rfl) (by rfl) (fun K hK => ?_)
          go_simp
          refine (rnum_any a6 a7 6 b2 o2 30 c2 _ (by have := hB0.size; omega) (by decide) (by decide) (CB.out.bd 6 rfl) (CB.out.bd 7 rfl) (CB.out.cell hB0 6 rfl) (CB.out.cell hB0 7 rfl)).mono ?_
          rintro e w4 ⟨rfl, hb⟩
          try replace Ra := Ra.later hb
          have hB9 := hB0.size
          replace hB0 := hB0.trans (hb.mono hB9)
          refine hK.out _ _ (hb.mono hB9) ?_
          clear hK K
          simp only [List.setIfInBounds_toArray, List.set_cons_zero, List.set_cons_succ]
          refine wpAnyF_take (i := 10) (v := ?vg_10_9) (some 47) rfl rfl (by kernel_rfl) (by kernel_rfl) (by kernel_rfl) (fun _ _ _ h => h) (by rfl) ?hvg_10_9 ?restg_10_9
          case hvg_10_9 => (intro w' hb; go_simp; try with_reducible rfl)
          simp only [Act.put, List.setIfInBounds_toArray, List.set_cons_zero, List.set_cons_succ]
          refine wpAnyF_alone (i := 12) rfl (by kernel_rfl) (by rfl) (fun K hK => ?_)
          refine wp_store_rep (.tmp 6) (.tmp 47) rfl g V.heap.size [a1, 256 * a2 + a3, 256 * a4 + a5, 256 * a6 + a7, 0, 0, 0, 0, 0, 0, 0] zeroR rfl rfl rfl (congrArg (fun z => Value.agg #[Value.int .i64 z, Value.int .i64 (256 * a2 + a3), Value.int .i64 (256 * a4 + a5), Value.int .i64 (256 * a6 + a7), Value.int .i32 0, Value.int .i32 0, Value.int .i32 0, Value.int .i32 0, Value.int .i32 0, Value.int .i32 0, Value.int .i32 0]) EA.out) Ra hg ?_
          intro w9 R1 hb
          replace hB0 := hB0.trans hb
          refine hK.out _ _ (hb) ?_
          clear hK K
          simp only [List.setIfInBounds_toArray, List.set_cons_zero, List.set_cons_succ]
          refine wpAnyF_done (by kernel_rfl) ?_ _
          go_wp2_with fail
          go_meet
          case rel => exact ⟨g, rfl, hg, R1, hB0⟩
      · refine wp_alloc_rep rfl ?_
        intro g w4 hge Ra hb
        have hB9 := hB0.size
        have hg : V.heap.size ≤ g := by omega
        clear hge
        replace hB0 := hB0.trans (hb.mono hB9)
        refine hK.out _ _ ⟨(hb.mono hB9), ?_⟩
        clear hK K
        simp only [List.setIfInBounds_toArray, List.set_cons_zero, List.set_cons_succ]
        refine wpAnyF_alone (i := 7) rfl (by kernel_rfl) (by rfl) (fun K hK => ?_)
        go_simp
        refine (rnum_any a4 a5 4 b2 o2 30 c2 _ (by have := hB0.size; omega) (by decide) (by decide) (CB.out.bd 4 rfl) (CB.out.bd 5 rfl) (CB.out.cell hB0 4 rfl) (CB.out.cell hB0 5 rfl)).mono ?_
        rintro e w4 ⟨rfl, hb⟩
        try replace Ra := Ra.later hb
        have hB9 := hB0.size
        replace hB0 := hB0.trans (hb.mono hB9)
        refine hK.out _ _ (hb.mono hB9) ?_
        clear hK K
        simp only [List.setIfInBounds_toArray, List.set_cons_zero, List.set_cons_succ]
        refine wpAnyF_alone (i := 9) rfl (by kernel_rfl) (by rfl) (fun K hK => ?_)
        go_simp
        refine (rnum_any a6 a7 6 b2 o2 30 c2 _ (by have := hB0.size; omega) (by decide) (by decide) (CB.out.bd 6 rfl) (CB.out.bd 7 rfl) (CB.out.cell hB0 6 rfl) (CB.out.cell hB0 7 rfl)).mono ?_
        rintro e w4 ⟨rfl, hb⟩
        try replace Ra := Ra.later hb
        have hB9 := hB0.size
        replace hB0 := hB0.trans (hb.mono hB9)
        refine hK.out _ _ (hb.mono hB9) ?_
        clear hK K
        simp only [List.setIfInBounds_toArray, List.set_cons_zero, List.set_cons_succ]
        refine wpAnyF_take (i := 10) (v := ?vg_10_10) (some 47) rfl rfl (by kernel_rfl) (by kernel_rfl) (by kernel_rfl) (fun _ _ _ h => h) (by rfl) ?hvg_10_10 ?restg_10_10
        case hvg_10_10 => (intro w' hb; go_simp; try with_reducible rfl)
        simp only [Act.put, List.setIfInBounds_toArray, List.set_cons_zero, List.set_cons_succ]
        refine wpAnyF_alone (i := 12) rfl (by kernel_rfl) (by rfl) (fun K hK => ?_)
        refine wp_store_rep (.tmp 6) (.tmp 47) rfl g V.heap.size [a1, 256 * a2 + a3, 256 * a4 + a5, 256 * a6 + a7, 0, 0, 0, 0, 0, 0, 0] zeroR rfl rfl rfl (congrArg (fun z => Value.agg #[Value.int .i64 z, Value.int .i64 (256 * a2 + a3), Value.int .i64 (256 * a4 + a5), Value.int .i64 (256 * a6 + a7), Value.int .i32 0, Value.int .i32 0, Value.int .i32 0, Value.int .i32 0, Value.int .i32 0, Value.int .i32 0, Value.int .i32 0]) EA.out) Ra hg ?_
        intro w9 R1 hb
        replace hB0 := hB0.trans hb
        refine hK.out _ _ (hb) ?_
        clear hK K
        simp only [List.setIfInBounds_toArray, List.set_cons_zero, List.set_cons_succ]
        refine wpAnyF_done (by kernel_rfl) ?_ _
        go_wp2_with fail
        go_meet
        case rel => exact ⟨g, rfl, hg, R1, hB0⟩
    · refine wp_alloc_rep rfl ?_
      intro g w4 hge Ra hb
      have hB9 := hB0.size
      have hg : V.heap.size ≤ g := by omega
      clear hge
      replace hB0 := hB0.trans (hb.mono hB9)
      refine hK.out _ _ ⟨(hb.mono hB9), ?_⟩
      clear hK K
      simp only [List.setIfInBounds_toArray, List.set_cons_zero, List.set_cons_succ]
      refine wpAnyF_alone (i := 5) rfl (by kernel_rfl) (by rfl) (fun K hK => ?_)
      go_simp
      refine (rnum_any a2 a3 2 b2 o2 30 c2 _ (by have := hB0.size; omega) (by decide) (by decide) (CB.out.bd 2 rfl) (CB.out.bd 3 rfl) (CB.out.cell hB0 2 rfl) (CB.out.cell hB0 3 rfl)).mono ?_
      rintro e w4 ⟨rfl, hb⟩
      try replace Ra := Ra.later hb
      have hB9 := hB0.size
      replace hB0 := hB0.trans (hb.mono hB9)
      refine hK.out _ _ (hb.mono hB9) ?_
      clear hK K
      simp only [List.setIfInBounds_toArray, List.set_cons_zero, List.set_cons_succ]
      refine wpAnyF_alone (i := 7) rfl (by kernel_rfl) (by rfl) (fun K hK => ?_)
      go_simp
      refine (rnum_any a4 a5 4 b2 o2 30 c2 _ (by have := hB0.size; omega) (by decide) (by decide) (CB.out.bd 4 rfl) (CB.out.bd 5 rfl) (CB.out.cell hB0 4 rfl) (CB.out.cell hB0 5 rfl)).mono ?_
      rintro e w4 ⟨rfl, hb⟩
      try replace Ra := Ra.later hb
      have hB9 := hB0.size
      replace hB0 := hB0.trans (hb.mono hB9)
      refine hK.out _ _ (hb.mono hB9) ?_
      clear hK K
      simp only [List.setIfInBounds_toArray, List.set_cons_zero, List.set_cons_succ]
      refine wpAnyF_alone (i := 9) rfl (by kernel_rfl) (by rfl) (fun K hK => ?_)
      go_simp
      refine (rnum_any a6 a7 6 b2 o2 30 c2 _ (by have := hB0.size; omega) (by decide) (by decide) (CB.out.bd 6 rfl) (CB.out.bd 7 rfl) (CB.out.cell hB0 6 rfl) (CB.out.cell hB0 7 rfl)).mono ?_
      rintro e w4 ⟨rfl, hb⟩
      try replace Ra := Ra.later hb
      have hB9 := hB0.size
      replace hB0 := hB0.trans (hb.mono hB9)
      refine hK.out _ _ (hb.mono hB9) ?_
      clear hK K
      simp only [List.setIfInBounds_toArray, List.set_cons_zero, List.set_cons_succ]
      refine wpAnyF_take (i := 10) (v := ?vg_10_11) (some 47) rfl rfl (by kernel_rfl) (by kernel_rfl) (by kernel_rfl) (fun _ _ _ h => h) (by rfl) ?hvg_10_11 ?restg_10_11
      case hvg_10_11 => (intro w' hb; go_simp; try with_reducible rfl)
      simp only [Act.put, List.setIfInBounds_toArray, List.set_cons_zero, List.set_cons_succ]
      refine wpAnyF_alone (i := 12) rfl (by kernel_rfl) (by rfl) (fun K hK => ?_)
      refine wp_store_rep (.tmp 6) (.tmp 47) rfl g V.heap.size [a1, 256 * a2 + a3, 256 * a4 + a5, 256 * a6 + a7, 0, 0, 0, 0, 0, 0, 0] zeroR rfl rfl rfl (congrArg (fun z => Value.agg #[Value.int .i64 z, Value.int .i64 (256 * a2 + a3), Value.int .i64 (256 * a4 + a5), Value.int .i64 (256 * a6 + a7), Value.int .i32 0, Value.int .i32 0, Value.int .i32 0, Value.int .i32 0, Value.int .i32 0, Value.int .i32 0, Value.int .i32 0]) EA.out) Ra hg ?_
      intro w9 R1 hb
      replace hB0 := hB0.trans hb
      refine hK.out _ _ (hb) ?_
      clear hK K
      simp only [List.setIfInBounds_toArray, List.set_cons_zero, List.set_cons_succ]
      refine wpAnyF_done (by kernel_rfl) ?_ _
      go_wp2_with fail
      go_meet
      case rel => exact ⟨g, rfl, hg, R1, hB0⟩
  case rest =>
    obtain ⟨g, rfl, hg, R1, hB0⟩ := hcut
    generalize wc = W3 at *
    as_aux_lemma =>
      go_wp2_with fail
      refine wp_loop_rounds 5 ?_
      as_aux_lemma =>
        rw [rounds_succ]
        have c0 := CB.out.cell hB0 8 rfl
        have d0 := CB.out.bd 8 rfl
        have c1 := CB.out.cell hB0 9 rfl
        have d1 := CB.out.bd 9 rfl
        have c2' := CB.out.cell hB0 10 rfl
        have d2 := CB.out.bd 10 rfl
        have c3 := CB.out.cell hB0 11 rfl
        have d3 := CB.out.bd 11 rfl
        have FF := hid (fun cc => rfrom_four a8 a9 a10 a11 b2 (o2 + 8) cc W3 d0 d1 d2 d3 c0 c1 c2' c3)
        have cs : W3.cell? ⟨g, 4, none⟩ = some (.int .i32 0) := R1.cell 4 rfl
        have fs := R1.frozen 4
        clear c0 c1 c2' c3 d0 d1 d2 d3
        go_wp2_with fail
        refine (FF.out _).mono ?_
        rintro e w2 ⟨rfl, rfl⟩
        clear FF
        go_wp2_with fail
        have R1' : RB g [a1, 256 * a2 + a3, 256 * a4 + a5, 256 * a6 + a7, lowI (((a8 * 256 + a9) * 256 + a10) * 256 + a11), 0, 0, 0, 0, 0, 0] (W3.setCell ⟨g, 4, none⟩ (.int .i32 (lowI (((a8 * 256 + a9) * 256 + a10) * 256 + a11)))) := (R1.set rfl)
        have hB' : Below V.heap.size V (W3.setCell ⟨g, 4, none⟩ (.int .i32 (lowI (((a8 * 256 + a9) * 256 + a10) * 256 + a11)))) := (hB0.setCell (p := ⟨g, 4, none⟩) hg _)
        clear R1 hB0 cs fs
        generalize (W3.setCell ⟨g, 4, none⟩ (.int .i32 (lowI (((a8 * 256 + a9) * 256 + a10) * 256 + a11)))) = W4 at *
        have R1 := R1'
        have hB0 := hB'
        clear R1' hB'
        rw [rounds_succ]
        have c0 := CB.out.cell hB0 12 rfl
        have d0 := CB.out.bd 12 rfl
        have c1 := CB.out.cell hB0 13 rfl
        have d1 := CB.out.bd 13 rfl
        have c2' := CB.out.cell hB0 14 rfl
        have d2 := CB.out.bd 14 rfl
        have c3 := CB.out.cell hB0 15 rfl
        have d3 := CB.out.bd 15 rfl
        have FF := hid (fun cc => rfrom_four a12 a13 a14 a15 b2 (o2 + 12) cc W4 d0 d1 d2 d3 c0 c1 c2' c3)
        have cs : W4.cell? ⟨g, 5, none⟩ = some (.int .i32 0) := R1.cell 5 rfl
        have fs := R1.frozen 5
        clear c0 c1 c2' c3 d0 d1 d2 d3
        go_wp2_with fail
        refine (FF.out _).mono ?_
        rintro e w2 ⟨rfl, rfl⟩
        clear FF
        go_wp2_with fail
        have R1' : RB g [a1, 256 * a2 + a3, 256 * a4 + a5, 256 * a6 + a7, lowI (((a8 * 256 + a9) * 256 + a10) * 256 + a11), lowI (((a12 * 256 + a13) * 256 + a14) * 256 + a15), 0, 0, 0, 0, 0] (W4.setCell ⟨g, 5, none⟩ (.int .i32 (lowI (((a12 * 256 + a13) * 256 + a14) * 256 + a15)))) := (R1.set rfl)
        have hB' : Below V.heap.size V (W4.setCell ⟨g, 5, none⟩ (.int .i32 (lowI (((a12 * 256 + a13) * 256 + a14) * 256 + a15)))) := (hB0.setCell (p := ⟨g, 5, none⟩) hg _)
        clear R1 hB0 cs fs
        generalize (W4.setCell ⟨g, 5, none⟩ (.int .i32 (lowI (((a12 * 256 + a13) * 256 + a14) * 256 + a15)))) = W5 at *
        have R1 := R1'
        have hB0 := hB'
        clear R1' hB'
        rw [rounds_succ]
        have c0 := CB.out.cell hB0 16 rfl
        have d0 := CB.out.bd 16 rfl
        have c1 := CB.out.cell hB0 17 rfl
        have d1 := CB.out.bd 17 rfl
        have c2' := CB.out.cell hB0 18 rfl
        have d2 := CB.out.bd 18 rfl
        have c3 := CB.out.cell hB0 19 rfl
        have d3 := CB.out.bd 19 rfl
        have FF := hid (fun cc => rfrom_four a16 a17 a18 a19 b2 (o2 + 16) cc W5 d0 d1 d2 d3 c0 c1 c2' c3)
        have cs : W5.cell? ⟨g, 6, none⟩ = some (.int .i32 0) := R1.cell 6 rfl
        have fs := R1.frozen 6
        clear c0 c1 c2' c3 d0 d1 d2 d3
        go_wp2_with fail
        refine (FF.out _).mono ?_
        rintro e w2 ⟨rfl, rfl⟩
        clear FF
        go_wp2_with fail
        have R1' : RB g [a1, 256 * a2 + a3, 256 * a4 + a5, 256 * a6 + a7, lowI (((a8 * 256 + a9) * 256 + a10) * 256 + a11), lowI (((a12 * 256 + a13) * 256 + a14) * 256 + a15), lowI (((a16 * 256 + a17) * 256 + a18) * 256 + a19), 0, 0, 0, 0] (W5.setCell ⟨g, 6, none⟩ (.int .i32 (lowI (((a16 * 256 + a17) * 256 + a18) * 256 + a19)))) := (R1.set rfl)
        have hB' : Below V.heap.size V (W5.setCell ⟨g, 6, none⟩ (.int .i32 (lowI (((a16 * 256 + a17) * 256 + a18) * 256 + a19)))) := (hB0.setCell (p := ⟨g, 6, none⟩) hg _)
        clear R1 hB0 cs fs
        generalize (W5.setCell ⟨g, 6, none⟩ (.int .i32 (lowI (((a16 * 256 + a17) * 256 + a18) * 256 + a19)))) = W6 at *
        have R1 := R1'
        have hB0 := hB'
        clear R1' hB'
        rw [rounds_succ]
        have c0 := CB.out.cell hB0 20 rfl
        have d0 := CB.out.bd 20 rfl
        have c1 := CB.out.cell hB0 21 rfl
        have d1 := CB.out.bd 21 rfl
        have c2' := CB.out.cell hB0 22 rfl
        have d2 := CB.out.bd 22 rfl
        have c3 := CB.out.cell hB0 23 rfl
        have d3 := CB.out.bd 23 rfl
        have FF := hid (fun cc => rfrom_four a20 a21 a22 a23 b2 (o2 + 20) cc W6 d0 d1 d2 d3 c0 c1 c2' c3)
        have cs : W6.cell? ⟨g, 7, none⟩ = some (.int .i32 0) := R1.cell 7 rfl
        have fs := R1.frozen 7
        clear c0 c1 c2' c3 d0 d1 d2 d3
        go_wp2_with fail
        refine (FF.out _).mono ?_
        rintro e w2 ⟨rfl, rfl⟩
        clear FF
        go_wp2_with fail
        have R1' : RB g [a1, 256 * a2 + a3, 256 * a4 + a5, 256 * a6 + a7, lowI (((a8 * 256 + a9) * 256 + a10) * 256 + a11), lowI (((a12 * 256 + a13) * 256 + a14) * 256 + a15), lowI (((a16 * 256 + a17) * 256 + a18) * 256 + a19), lowI (((a20 * 256 + a21) * 256 + a22) * 256 + a23), 0, 0, 0] (W6.setCell ⟨g, 7, none⟩ (.int .i32 (lowI (((a20 * 256 + a21) * 256 + a22) * 256 + a23)))) := (R1.set rfl)
        have hB' : Below V.heap.size V (W6.setCell ⟨g, 7, none⟩ (.int .i32 (lowI (((a20 * 256 + a21) * 256 + a22) * 256 + a23)))) := (hB0.setCell (p := ⟨g, 7, none⟩) hg _)
        clear R1 hB0 cs fs
        generalize (W6.setCell ⟨g, 7, none⟩ (.int .i32 (lowI (((a20 * 256 + a21) * 256 + a22) * 256 + a23)))) = W7 at *
        have R1 := R1'
        have hB0 := hB'
        clear R1' hB'
        rw [rounds_succ]
        go_wp2_with fail
        refine wp_loop_rounds 4 ?_
        as_aux_lemma =>
          rw [rounds_succ]
          have bx := CB.out.bd 24 rfl
          have by' := CB.out.bd 25 rfl
          have cs : W7.cell? ⟨g, 8, none⟩ = some (.int .i32 0) := R1.cell 8 rfl
          have fs := R1.frozen 8
          go_wp2_with fail
          refine wp_region_F' (B := V.heap.size) (n := 17) (l := #[false, false, false, false, false, false, false, false, false, false, false, false, false, false, false, false, false]) (by kernel_rfl) (by kernel_rfl) (by kernel_rfl) ?_
          refine wpAnyF_take (i := 0) (v := ?vp0_0_1) (some 71) rfl rfl (by kernel_rfl) (by kernel_rfl) (by kernel_rfl) (fun _ _ _ h => h) (by rfl) ?hvp0_0_1 ?restp0_0_1
          case hvp0_0_1 => (intro w' hb; go_simp; try with_reducible rfl)
          simp only [Act.put, List.setIfInBounds_toArray, List.set_cons_zero, List.set_cons_succ]
          refine wpAnyF_take (i := 1) (v := ?vp0_1_2) (some 72) rfl rfl (by kernel_rfl) (by kernel_rfl) (by kernel_rfl) (fun _ _ _ h => h) (by rfl) ?hvp0_1_2 ?restp0_1_2
          case hvp0_1_2 => (intro w' hb; go_simp; try with_reducible rfl)
          simp only [Act.put, List.setIfInBounds_toArray, List.set_cons_zero, List.set_cons_succ]
          refine wpAnyF_take (i := 2) (v := ?vp0_2_3) (some 73) rfl rfl (by kernel_rfl) (by kernel_rfl) (by kernel_rfl) (fun _ _ _ h => h) (by rfl) ?hvp0_2_3 ?restp0_2_3
          case hvp0_2_3 => (intro w' hb; go_simp; try with_reducible rfl)
          simp only [Act.put, List.setIfInBounds_toArray, List.set_cons_zero, List.set_cons_succ]
          refine wpAnyF_take (i := 3) (v := ?vp0_3_4) (some 74) rfl rfl (by kernel_rfl) (by kernel_rfl) (by kernel_rfl) (fun _ _ _ h => h) (by rfl) ?hvp0_3_4 ?restp0_3_4
          case hvp0_3_4 => (intro w' hb; go_simp; try with_reducible rfl)
          simp only [Act.put, List.setIfInBounds_toArray, List.set_cons_zero, List.set_cons_succ]
          refine wpAnyF_take (i := 4) (v := ?vp0_4_5) (some 75) rfl rfl (by kernel_rfl) (by kernel_rfl) (by kernel_rfl) (fun _ _ _ h => h) (by rfl) ?hvp0_4_5 ?restp0_4_5
          case hvp0_4_5 => (intro w' hb; go_simp; try with_reducible rfl)
          simp only [Act.put, List.setIfInBounds_toArray, List.set_cons_zero, List.set_cons_succ]
          refine wpAnyF_take (i := 5) (v := ?vp0_5_6) (some 76) rfl rfl (by kernel_rfl) (by kernel_rfl) (by kernel_rfl) (fun _ _ _ h => h) (by rfl) ?hvp0_5_6 ?restp0_5_6
          case hvp0_5_6 => (intro w' hb; go_simp; try with_reducible rfl)
          simp only [Act.put, List.setIfInBounds_toArray, List.set_cons_zero, List.set_cons_succ]
          refine wpAnyF_take (i := 6) (v := ?vp0_6_7) (some 77) rfl rfl (by kernel_rfl) (by kernel_rfl) (by kernel_rfl) (fun _ _ _ h => h) (by rfl) ?hvp0_6_7 ?restp0_6_7
          case hvp0_6_7 => (intro w' hb; (have hcw := CB.out.cell (hB0.trans (Below.drewl hb)) 24 rfl; go_simp; try with_reducible rfl))
          simp only [Act.put, List.setIfInBounds_toArray, List.set_cons_zero, List.set_cons_succ]
          refine wpAnyF_take (i := 7) (v := ?vp0_7_8) (some 78) rfl rfl (by kernel_rfl) (by kernel_rfl) (by kernel_rfl) (fun _ _ _ h => h) (by rfl) ?hvp0_7_8 ?restp0_7_8
          case hvp0_7_8 => (intro w' hb; go_simp; try with_reducible rfl)
          simp only [Act.put, List.setIfInBounds_toArray, List.set_cons_zero, List.set_cons_succ]
          refine wpAnyF_take (i := 8) (v := ?vp0_8_9) (some 79) rfl rfl (by kernel_rfl) (by kernel_rfl) (by kernel_rfl) (fun _ _ _ h => h) (by rfl) ?hvp0_8_9 ?restp0_8_9
          case hvp0_8_9 => (intro w' hb; go_simp; try with_reducible rfl)
          simp only [Act.put, List.setIfInBounds_toArray, List.set_cons_zero, List.set_cons_succ]
          refine wpAnyF_take (i := 9) (v := ?vp0_9_10) (some 80) rfl rfl (by kernel_rfl) (by kernel_rfl) (by kernel_rfl) (fun _ _ _ h => h) (by rfl) ?hvp0_9_10 ?restp0_9_10
          case hvp0_9_10 => (intro w' hb; go_simp; try with_reducible rfl)
          simp only [Act.put, List.setIfInBounds_toArray, List.set_cons_zero, List.set_cons_succ]
          refine wpAnyF_take (i := 10) (v := ?vp0_10_11) (some 81) rfl rfl (by kernel_rfl) (by kernel_rfl) (by kernel_rfl) (fun _ _ _ h => h) (by rfl) ?hvp0_10_11 ?restp0_10_11
          case hvp0_10_11 => (intro w' hb; go_simp; try with_reducible rfl)
          simp only [Act.put, List.setIfInBounds_toArray, List.set_cons_zero, List.set_cons_succ]
          refine wpAnyF_take (i := 11) (v := ?vp0_11_12) (some 82) rfl rfl (by kernel_rfl) (by kernel_rfl) (by kernel_rfl) (fun _ _ _ h => h) (by rfl) ?hvp0_11_12 ?restp0_11_12
          case hvp0_11_12 => (intro w' hb; go_simp; try with_reducible rfl)
          simp only [Act.put, List.setIfInBounds_toArray, List.set_cons_zero, List.set_cons_succ]
          refine wpAnyF_take (i := 12) (v := ?vp0_12_13) (some 83) rfl rfl (by kernel_rfl) (by kernel_rfl) (by kernel_rfl) (fun _ _ _ h => h) (by rfl) ?hvp0_12_13 ?restp0_12_13
          case hvp0_12_13 => (intro w' hb; (have hcw := CB.out.cell (hB0.trans (Below.drewl hb)) 25 rfl; go_simp; try with_reducible rfl))
          simp only [Act.put, List.setIfInBounds_toArray, List.set_cons_zero, List.set_cons_succ]
          refine wpAnyF_take (i := 14) (v := ?vp0_14_14) (some 85) rfl rfl (by kernel_rfl) (by kernel_rfl) (by kernel_rfl) (fun _ _ _ h => h) (by rfl) ?hvp0_14_14 ?restp0_14_14
          case hvp0_14_14 => (intro w' hb; go_simp; try with_reducible rfl)
          simp only [Act.put, List.setIfInBounds_toArray, List.set_cons_zero, List.set_cons_succ]
          refine wpAnyF_alone (i := 13) rfl (by kernel_rfl) (by rfl) (fun K hK => ?_)
          go_simp
          refine (rpair_any a24 a25 _ bx by').mono ?_
          rintro e w4 ⟨rfl, rfl⟩
          refine hK.out _ _ (Below.refl _ _) ?_
          clear hK K
          simp only [List.setIfInBounds_toArray, List.set_cons_zero, List.set_cons_succ]
          refine wpAnyF_take (i := 15) (v := ?vp0_15_15) (some 86) rfl rfl (by kernel_rfl) (by kernel_rfl) (by kernel_rfl) (fun _ _ _ h => h) (by rfl) ?hvp0_15_15 ?restp0_15_15
          case hvp0_15_15 => (intro w' hb; go_simp; try with_reducible rfl)
          simp only [Act.put, List.setIfInBounds_toArray, List.set_cons_zero, List.set_cons_succ]
          refine wpAnyF_alone (i := 16) rfl (by kernel_rfl) (by rfl) (fun K hK => ?_)
          go_simp
          have hb := (Below.refl V.heap.size W7.drew).setCell (p := ⟨g, 8, none⟩) hg (.int .i32 (halfI (256 * a24 + a25)))
          refine hK.out _ _ hb ?_
          clear hK K
          simp only [List.setIfInBounds_toArray, List.set_cons_zero, List.set_cons_succ]
          refine wpAnyF_done (by kernel_rfl) ?_ _
          have R1' : RB g [a1, 256 * a2 + a3, 256 * a4 + a5, 256 * a6 + a7, lowI (((a8 * 256 + a9) * 256 + a10) * 256 + a11), lowI (((a12 * 256 + a13) * 256 + a14) * 256 + a15), lowI (((a16 * 256 + a17) * 256 + a18) * 256 + a19), lowI (((a20 * 256 + a21) * 256 + a22) * 256 + a23), halfI (256 * a24 + a25), 0, 0] (W7.setCell ⟨g, 8, none⟩ (.int .i32 (halfI (256 * a24 + a25)))).drew := (R1.set rfl).drew
          have hB' : Below V.heap.size V (W7.setCell ⟨g, 8, none⟩ (.int .i32 (halfI (256 * a24 + a25)))).drew := (hB0.setCell (p := ⟨g, 8, none⟩) hg _).drew
          clear R1 hB0 cs fs bx by' hb
          generalize (W7.setCell ⟨g, 8, none⟩ (.int .i32 (halfI (256 * a24 + a25)))).drew = W8 at *
          have R1 := R1'
          have hB0 := hB'
          clear R1' hB'
          go_wp2_with fail
          rw [rounds_succ]
          have bx := CB.out.bd 26 rfl
          have by' := CB.out.bd 27 rfl
          have cs : W8.cell? ⟨g, 9, none⟩ = some (.int .i32 0) := R1.cell 9 rfl
          have fs := R1.frozen 9
          go_wp2_with fail
          refine wp_region_F' (B := V.heap.size) (n := 17) (l := #[false, false, false, false, false, false, false, false, false, false, false, false, false, false, false, false, false]) (by kernel_rfl) (by kernel_rfl) (by kernel_rfl) ?_
          refine wpAnyF_take (i := 0) (v := ?vp1_0_1) (some 71) rfl rfl (by kernel_rfl) (by kernel_rfl) (by kernel_rfl) (fun _ _ _ h => h) (by rfl) ?hvp1_0_1 ?restp1_0_1
          case hvp1_0_1 => (intro w' hb; go_simp; try with_reducible rfl)
          simp only [Act.put, List.setIfInBounds_toArray, List.set_cons_zero, List.set_cons_succ]
          refine wpAnyF_take (i := 1) (v := ?vp1_1_2) (some 72) rfl rfl (by kernel_rfl) (by kernel_rfl) (by kernel_rfl) (fun _ _ _ h => h) (by rfl) ?hvp1_1_2 ?restp1_1_2
          case hvp1_1_2 => (intro w' hb; go_simp; try with_reducible rfl)
          simp only [Act.put, List.setIfInBounds_toArray, List.set_cons_zero, List.set_cons_succ]
          refine wpAnyF_take (i := 2) (v := ?vp1_2_3) (some 73) rfl rfl (by kernel_rfl) (by kernel_rfl) (by kernel_rfl) (fun _ _ _ h => h) (by rfl) ?hvp1_2_3 ?restp1_2_3
          case hvp1_2_3 => (intro w' hb; go_simp; try with_reducible rfl)
          simp only [Act.put, List.setIfInBounds_toArray, List.set_cons_zero, List.set_cons_succ]
          refine wpAnyF_take (i := 3) (v := ?vp1_3_4) (some 74) rfl rfl (by kernel_rfl) (by kernel_rfl) (by kernel_rfl) (fun _ _ _ h => h) (by rfl) ?hvp1_3_4 ?restp1_3_4
          case hvp1_3_4 => (intro w' hb; go_simp; try with_reducible rfl)
          simp only [Act.put, List.setIfInBounds_toArray, List.set_cons_zero, List.set_cons_succ]
          refine wpAnyF_take (i := 4) (v := ?vp1_4_5) (some 75) rfl rfl (by kernel_rfl) (by kernel_rfl) (by kernel_rfl) (fun _ _ _ h => h) (by rfl) ?hvp1_4_5 ?restp1_4_5
          case hvp1_4_5 => (intro w' hb; go_simp; try with_reducible rfl)
          simp only [Act.put, List.setIfInBounds_toArray, List.set_cons_zero, List.set_cons_succ]
          refine wpAnyF_take (i := 5) (v := ?vp1_5_6) (some 76) rfl rfl (by kernel_rfl) (by kernel_rfl) (by kernel_rfl) (fun _ _ _ h => h) (by rfl) ?hvp1_5_6 ?restp1_5_6
          case hvp1_5_6 => (intro w' hb; go_simp; try with_reducible rfl)
          simp only [Act.put, List.setIfInBounds_toArray, List.set_cons_zero, List.set_cons_succ]
          refine wpAnyF_take (i := 6) (v := ?vp1_6_7) (some 77) rfl rfl (by kernel_rfl) (by kernel_rfl) (by kernel_rfl) (fun _ _ _ h => h) (by rfl) ?hvp1_6_7 ?restp1_6_7
          case hvp1_6_7 => (intro w' hb; (have hcw := CB.out.cell (hB0.trans (Below.drewl hb)) 26 rfl; go_simp; try with_reducible rfl))
          simp only [Act.put, List.setIfInBounds_toArray, List.set_cons_zero, List.set_cons_succ]
          refine wpAnyF_take (i := 7) (v := ?vp1_7_8) (some 78) rfl rfl (by kernel_rfl) (by kernel_rfl) (by kernel_rfl) (fun _ _ _ h => h) (by rfl) ?hvp1_7_8 ?restp1_7_8
          case hvp1_7_8 => (intro w' hb; go_simp; try with_reducible rfl)
          simp only [Act.put, List.setIfInBounds_toArray, List.set_cons_zero, List.set_cons_succ]
          refine wpAnyF_take (i := 8) (v := ?vp1_8_9) (some 79) rfl rfl (by kernel_rfl) (by kernel_rfl) (by kernel_rfl) (fun _ _ _ h => h) (by rfl) ?hvp1_8_9 ?restp1_8_9
          case hvp1_8_9 => (intro w' hb; go_simp; try with_reducible rfl)
          simp only [Act.put, List.setIfInBounds_toArray, List.set_cons_zero, List.set_cons_succ]
          refine wpAnyF_take (i := 9) (v := ?vp1_9_10) (some 80) rfl rfl (by kernel_rfl) (by kernel_rfl) (by kernel_rfl) (fun _ _ _ h => h) (by rfl) ?hvp1_9_10 ?restp1_9_10
          case hvp1_9_10 => (intro w' hb; go_simp; try with_reducible rfl)
          simp only [Act.put, List.setIfInBounds_toArray, List.set_cons_zero, List.set_cons_succ]
          refine wpAnyF_take (i := 10) (v := ?vp1_10_11) (some 81) rfl rfl (by kernel_rfl) (by kernel_rfl) (by kernel_rfl) (fun _ _ _ h => h) (by rfl) ?hvp1_10_11 ?restp1_10_11
          case hvp1_10_11 => (intro w' hb; go_simp; try with_reducible rfl)
          simp only [Act.put, List.setIfInBounds_toArray, List.set_cons_zero, List.set_cons_succ]
          refine wpAnyF_take (i := 11) (v := ?vp1_11_12) (some 82) rfl rfl (by kernel_rfl) (by kernel_rfl) (by kernel_rfl) (fun _ _ _ h => h) (by rfl) ?hvp1_11_12 ?restp1_11_12
          case hvp1_11_12 => (intro w' hb; go_simp; try with_reducible rfl)
          simp only [Act.put, List.setIfInBounds_toArray, List.set_cons_zero, List.set_cons_succ]
          refine wpAnyF_take (i := 12) (v := ?vp1_12_13) (some 83) rfl rfl (by kernel_rfl) (by kernel_rfl) (by kernel_rfl) (fun _ _ _ h => h) (by rfl) ?hvp1_12_13 ?restp1_12_13
          case hvp1_12_13 => (intro w' hb; (have hcw := CB.out.cell (hB0.trans (Below.drewl hb)) 27 rfl; go_simp; try with_reducible rfl))
          simp only [Act.put, List.setIfInBounds_toArray, List.set_cons_zero, List.set_cons_succ]
          refine wpAnyF_take (i := 14) (v := ?vp1_14_14) (some 85) rfl rfl (by kernel_rfl) (by kernel_rfl) (by kernel_rfl) (fun _ _ _ h => h) (by rfl) ?hvp1_14_14 ?restp1_14_14
          case hvp1_14_14 => (intro w' hb; go_simp; try with_reducible rfl)
          simp only [Act.put, List.setIfInBounds_toArray, List.set_cons_zero, List.set_cons_succ]
          refine wpAnyF_alone (i := 13) rfl (by kernel_rfl) (by rfl) (fun K hK => ?_)
          go_simp
          refine (rpair_any a26 a27 _ bx by').mono ?_
          rintro e w4 ⟨rfl, rfl⟩
          refine hK.out _ _ (Below.refl _ _) ?_
          clear hK K
          simp only [List.setIfInBounds_toArray, List.set_cons_zero, List.set_cons_succ]
          refine wpAnyF_take (i := 15) (v := ?vp1_15_15) (some 86) rfl rfl (by kernel_rfl) (by kernel_rfl) (by kernel_rfl) (fun _ _ _ h => h) (by rfl) ?hvp1_15_15 ?restp1_15_15
          case hvp1_15_15 => (intro w' hb; go_simp; try with_reducible rfl)
          simp only [Act.put, List.setIfInBounds_toArray, List.set_cons_zero, List.set_cons_succ]
          refine wpAnyF_alone (i := 16) rfl (by kernel_rfl) (by rfl) (fun K hK => ?_)
          go_simp
          have hb := (Below.refl V.heap.size W8.drew).setCell (p := ⟨g, 9, none⟩) hg (.int .i32 (halfI (256 * a26 + a27)))
          refine hK.out _ _ hb ?_
          clear hK K
          simp only [List.setIfInBounds_toArray, List.set_cons_zero, List.set_cons_succ]
          refine wpAnyF_done (by kernel_rfl) ?_ _
          have R1' : RB g [a1, 256 * a2 + a3, 256 * a4 + a5, 256 * a6 + a7, lowI (((a8 * 256 + a9) * 256 + a10) * 256 + a11), lowI (((a12 * 256 + a13) * 256 + a14) * 256 + a15), lowI (((a16 * 256 + a17) * 256 + a18) * 256 + a19), lowI (((a20 * 256 + a21) * 256 + a22) * 256 + a23), halfI (256 * a24 + a25), halfI (256 * a26 + a27), 0] (W8.setCell ⟨g, 9, none⟩ (.int .i32 (halfI (256 * a26 + a27)))).drew := (R1.set rfl).drew
          have hB' : Below V.heap.size V (W8.setCell ⟨g, 9, none⟩ (.int .i32 (halfI (256 * a26 + a27)))).drew := (hB0.setCell (p := ⟨g, 9, none⟩) hg _).drew
          clear R1 hB0 cs fs bx by' hb
          generalize (W8.setCell ⟨g, 9, none⟩ (.int .i32 (halfI (256 * a26 + a27)))).drew = W9 at *
          have R1 := R1'
          have hB0 := hB'
          clear R1' hB'
          go_wp2_with fail
          rw [rounds_succ]
          have bx := CB.out.bd 28 rfl
          have by' := CB.out.bd 29 rfl
          have cs : W9.cell? ⟨g, 10, none⟩ = some (.int .i32 0) := R1.cell 10 rfl
          have fs := R1.frozen 10
          go_wp2_with fail
          refine wp_region_F' (B := V.heap.size) (n := 17) (l := #[false, false, false, false, false, false, false, false, false, false, false, false, false, false, false, false, false]) (by kernel_rfl) (by kernel_rfl) (by kernel_rfl) ?_
          refine wpAnyF_take (i := 0) (v := ?vp2_0_1) (some 71) rfl rfl (by kernel_rfl) (by kernel_rfl) (by kernel_rfl) (fun _ _ _ h => h) (by rfl) ?hvp2_0_1 ?restp2_0_1
          case hvp2_0_1 => (intro w' hb; go_simp; try with_reducible rfl)
          simp only [Act.put, List.setIfInBounds_toArray, List.set_cons_zero, List.set_cons_succ]
          refine wpAnyF_take (i := 1) (v := ?vp2_1_2) (some 72) rfl rfl (by kernel_rfl) (by kernel_rfl) (by kernel_rfl) (fun _ _ _ h => h) (by rfl) ?hvp2_1_2 ?restp2_1_2
          case hvp2_1_2 => (intro w' hb; go_simp; try with_reducible rfl)
          simp only [Act.put, List.setIfInBounds_toArray, List.set_cons_zero, List.set_cons_succ]
          refine wpAnyF_take (i := 2) (v := ?vp2_2_3) (some 73) rfl rfl (by kernel_rfl) (by kernel_rfl) (by kernel_rfl) (fun _ _ _ h => h) (by rfl) ?hvp2_2_3 ?restp2_2_3
          case hvp2_2_3 => (intro w' hb; go_simp; try with_reducible rfl)
          simp only [Act.put, List.setIfInBounds_toArray, List.set_cons_zero, List.set_cons_succ]
          refine wpAnyF_take (i := 3) (v := ?vp2_3_4) (some 74) rfl rfl (by kernel_rfl) (by kernel_rfl) (by kernel_rfl) (fun _ _ _ h => h) (by rfl) ?hvp2_3_4 ?restp2_3_4
          case hvp2_3_4 => (intro w' hb; go_simp; try with_reducible rfl)
          simp only [Act.put, List.setIfInBounds_toArray, List.set_cons_zero, List.set_cons_succ]
          refine wpAnyF_take (i := 4) (v := ?vp2_4_5) (some 75) rfl rfl (by kernel_rfl) (by kernel_rfl) (by kernel_rfl) (fun _ _ _ h => h) (by rfl) ?hvp2_4_5 ?restp2_4_5
          case hvp2_4_5 => (intro w' hb; go_simp; try with_reducible rfl)
          simp only [Act.put, List.setIfInBounds_toArray, List.set_cons_zero, List.set_cons_succ]
          refine wpAnyF_take (i := 5) (v := ?vp2_5_6) (some 76) rfl rfl (by kernel_rfl) (by kernel_rfl) (by kernel_rfl) (fun _ _ _ h => h) (by rfl) ?hvp2_5_6 ?restp2_5_6
          case hvp2_5_6 => (intro w' hb; go_simp; try with_reducible rfl)
          simp only [Act.put, List.setIfInBounds_toArray, List.set_cons_zero, List.set_cons_succ]
          refine wpAnyF_take (i := 6) (v := ?vp2_6_7) (some 77) rfl rfl (by kernel_rfl) (by kernel_rfl) (by kernel_rfl) (fun _ _ _ h => h) (by rfl) ?hvp2_6_7 ?restp2_6_7
          case hvp2_6_7 => (intro w' hb; (have hcw := CB.out.cell (hB0.trans (Below.drewl hb)) 28 rfl; go_simp; try with_reducible rfl))
          simp only [Act.put, List.setIfInBounds_toArray, List.set_cons_zero, List.set_cons_succ]
          refine wpAnyF_take (i := 7) (v := ?vp2_7_8) (some 78) rfl rfl (by kernel_rfl) (by kernel_rfl) (by kernel_rfl) (fun _ _ _ h => h) (by rfl) ?hvp2_7_8 ?restp2_7_8
          case hvp2_7_8 => (intro w' hb; go_simp; try with_reducible rfl)
          simp only [Act.put, List.setIfInBounds_toArray, List.set_cons_zero, List.set_cons_succ]
          refine wpAnyF_take (i := 8) (v := ?vp2_8_9) (some 79) rfl rfl (by kernel_rfl) (by kernel_rfl) (by kernel_rfl) (fun _ _ _ h => h) (by rfl) ?hvp2_8_9 ?restp2_8_9
          case hvp2_8_9 => (intro w' hb; go_simp; try with_reducible rfl)
          simp only [Act.put, List.setIfInBounds_toArray, List.set_cons_zero, List.set_cons_succ]
          refine wpAnyF_take (i := 9) (v := ?vp2_9_10) (some 80) rfl rfl (by kernel_rfl) (by kernel_rfl) (by kernel_rfl) (fun _ _ _ h => h) (by rfl) ?hvp2_9_10 ?restp2_9_10
          case hvp2_9_10 => (intro w' hb; go_simp; try with_reducible rfl)
          simp only [Act.put, List.setIfInBounds_toArray, List.set_cons_zero, List.set_cons_succ]
          refine wpAnyF_take (i := 10) (v := ?vp2_10_11) (some 81) rfl rfl (by kernel_rfl) (by kernel_rfl) (by kernel_rfl) (fun _ _ _ h => h) (by rfl) ?hvp2_10_11 ?restp2_10_11
          case hvp2_10_11 => (intro w' hb; go_simp; try with_reducible rfl)
          simp only [Act.put, List.setIfInBounds_toArray, List.set_cons_zero, List.set_cons_succ]
          refine wpAnyF_take (i := 11) (v := ?vp2_11_12) (some 82) rfl rfl (by kernel_rfl) (by kernel_rfl) (by kernel_rfl) (fun _ _ _ h => h) (by rfl) ?hvp2_11_12 ?restp2_11_12
          case hvp2_11_12 => (intro w' hb; go_simp; try with_reducible rfl)
          simp only [Act.put, List.setIfInBounds_toArray, List.set_cons_zero, List.set_cons_succ]
          refine wpAnyF_take (i := 12) (v := ?vp2_12_13) (some 83) rfl rfl (by kernel_rfl) (by kernel_rfl) (by kernel_rfl) (fun _ _ _ h => h) (by rfl) ?hvp2_12_13 ?restp2_12_13
          case hvp2_12_13 => (intro w' hb; (have hcw := CB.out.cell (hB0.trans (Below.drewl hb)) 29 rfl; go_simp; try with_reducible rfl))
          simp only [Act.put, List.setIfInBounds_toArray, List.set_cons_zero, List.set_cons_succ]
          refine wpAnyF_take (i := 14) (v := ?vp2_14_14) (some 85) rfl rfl (by kernel_rfl) (by kernel_rfl) (by kernel_rfl) (fun _ _ _ h => h) (by rfl) ?hvp2_14_14 ?restp2_14_14
          case hvp2_14_14 => (intro w' hb; go_simp; try with_reducible rfl)
          simp only [Act.put, List.setIfInBounds_toArray, List.set_cons_zero, List.set_cons_succ]
          refine wpAnyF_alone (i := 13) rfl (by kernel_rfl) (by rfl) (fun K hK => ?_)
          go_simp
          refine (rpair_any a28 a29 _ bx by').mono ?_
          rintro e w4 ⟨rfl, rfl⟩
          refine hK.out _ _ (Below.refl _ _) ?_
          clear hK K
          simp only [List.setIfInBounds_toArray, List.set_cons_zero, List.set_cons_succ]
          refine wpAnyF_take (i := 15) (v := ?vp2_15_15) (some 86) rfl rfl (by kernel_rfl) (by kernel_rfl) (by kernel_rfl) (fun _ _ _ h => h) (by rfl) ?hvp2_15_15 ?restp2_15_15
          case hvp2_15_15 => (intro w' hb; go_simp; try with_reducible rfl)
          simp only [Act.put, List.setIfInBounds_toArray, List.set_cons_zero, List.set_cons_succ]
          refine wpAnyF_alone (i := 16) rfl (by kernel_rfl) (by rfl) (fun K hK => ?_)
          go_simp
          have hb := (Below.refl V.heap.size W9.drew).setCell (p := ⟨g, 10, none⟩) hg (.int .i32 (halfI (256 * a28 + a29)))
          refine hK.out _ _ hb ?_
          clear hK K
          simp only [List.setIfInBounds_toArray, List.set_cons_zero, List.set_cons_succ]
          refine wpAnyF_done (by kernel_rfl) ?_ _
          have R1' : RB g [a1, 256 * a2 + a3, 256 * a4 + a5, 256 * a6 + a7, lowI (((a8 * 256 + a9) * 256 + a10) * 256 + a11), lowI (((a12 * 256 + a13) * 256 + a14) * 256 + a15), lowI (((a16 * 256 + a17) * 256 + a18) * 256 + a19), lowI (((a20 * 256 + a21) * 256 + a22) * 256 + a23), halfI (256 * a24 + a25), halfI (256 * a26 + a27), halfI (256 * a28 + a29)] (W9.setCell ⟨g, 10, none⟩ (.int .i32 (halfI (256 * a28 + a29)))).drew := (R1.set rfl).drew
          have hB' : Below V.heap.size V (W9.setCell ⟨g, 10, none⟩ (.int .i32 (halfI (256 * a28 + a29)))).drew := (hB0.setCell (p := ⟨g, 10, none⟩) hg _).drew
          clear R1 hB0 cs fs bx by' hb
          generalize (W9.setCell ⟨g, 10, none⟩ (.int .i32 (halfI (256 * a28 + a29)))).drew = W10 at *
          have R1 := R1'
          have hB0 := hB'
          clear R1' hB'
          go_wp2_with fail
          as_aux_lemma =>
            rw [rounds_succ]
            have R0 : RB w.heap.size zeroR W10 := HR2.out.later hB0
            have hB9 := HB2.out.trans (hB0.mono HB2.out.size)
            go_wp2_with (first | ((with_reducible refine at_op (.load 50 (.tmp 6)) ?_); refine wpR_load rfl (.tmp 6) rfl g rfl [a1, 256 * a2 + a3, 256 * a4 + a5, 256 * a6 + a7, lowI (((a8 * 256 + a9) * 256 + a10) * 256 + a11), lowI (((a12 * 256 + a13) * 256 + a14) * 256 + a15), lowI (((a16 * 256 + a17) * 256 + a18) * 256 + a19), lowI (((a20 * 256 + a21) * 256 + a22) * 256 + a23), halfI (256 * a24 + a25), halfI (256 * a26 + a27), halfI (256 * a28 + a29)] rfl _ _ R1 ?_) | ((with_reducible refine at_op (.store 50 (.tmp 2) (.tmp 87)) ?_); refine wpR_store rfl (.tmp 2) (.tmp 87) rfl w.heap.size [a1, 256 * a2 + a3, 256 * a4 + a5, 256 * a6 + a7, lowI (((a8 * 256 + a9) * 256 + a10) * 256 + a11), lowI (((a12 * 256 + a13) * 256 + a14) * 256 + a15), lowI (((a16 * 256 + a17) * 256 + a18) * 256 + a19), lowI (((a20 * 256 + a21) * 256 + a22) * 256 + a23), halfI (256 * a24 + a25), halfI (256 * a26 + a27), halfI (256 * a28 + a29)] zeroR rfl rfl rfl rfl _ R0 ?_))
            have s1 := setRow_heap W10 w.heap.size _ (rcells [a1, 256 * a2 + a3, 256 * a4 + a5, 256 * a6 + a7, lowI (((a8 * 256 + a9) * 256 + a10) * 256 + a11), lowI (((a12 * 256 + a13) * 256 + a14) * 256 + a15), lowI (((a16 * 256 + a17) * 256 + a18) * 256 + a19), lowI (((a20 * 256 + a21) * 256 + a22) * 256 + a23), halfI (256 * a24 + a25), halfI (256 * a26 + a27), halfI (256 * a28 + a29)]) _ _ R0
            have sB := below_setRow hB9 (Nat.le_refl _) (rcells [a1, 256 * a2 + a3, 256 * a4 + a5, 256 * a6 + a7, lowI (((a8 * 256 + a9) * 256 + a10) * 256 + a11), lowI (((a12 * 256 + a13) * 256 + a14) * 256 + a15), lowI (((a16 * 256 + a17) * 256 + a18) * 256 + a19), lowI (((a20 * 256 + a21) * 256 + a22) * 256 + a23), halfI (256 * a24 + a25), halfI (256 * a26 + a27), halfI (256 * a28 + a29)])
            have lv := run_loadVar_row (P := Tryd.prog) _ w.heap.size _ 50 _ _ _ s1 Tryd.underlying50 rfl (by rw [rcells_size _ rfl]; kernel_rfl)
            exact bodyPost_ret (v := .tuple #[.agg (rcells [a1, 256 * a2 + a3, 256 * a4 + a5, 256 * a6 + a7, lowI (((a8 * 256 + a9) * 256 + a10) * 256 + a11), lowI (((a12 * 256 + a13) * 256 + a14) * 256 + a15), lowI (((a16 * 256 + a17) * 256 + a18) * 256 + a19), lowI (((a20 * 256 + a21) * 256 + a22) * 256 + a23), halfI (256 * a24 + a25), halfI (256 * a26 + a27), halfI (256 * a28 + a29)]), .int .i64 0]) (by simp [results, Tryd.results40, asAddr, lv]) rfl ⟨rfl, sB⟩
theorem rget_ok (v : Value) (L : List Int) (w : World) (hr : Reads .u8 w v L) (hL : L.length = 32) (hok : L = sealL (L.take 30)) (h0 : L.getD 0 0 = 1) (h1 : L.getD 1 0 ≤ 15) :
    Calls Tryd.prog 40 #[v] w fun e w' => e = .returned (.tuple #[.agg (rcells (getR L)), .int .i64 0]) ∧ Below w.heap.size w w' := by
  have hlt : (L.take 30).length = 30 := by simp; omega
  obtain ⟨a0, a1, a2, a3, a4, a5, a6, a7, a8, a9, a10, a11, a12, a13, a14, a15, a16, a17, a18, a19, a20, a21, a22, a23, a24, a25, a26, a27, a28, a29, hY⟩ := thirty_list (L.take 30) hlt
  have g0 : (L.take 30).getD 0 0 = 1 := by simpa [List.getD, List.getElem?_take] using h0
  have g1 : (L.take 30).getD 1 0 ≤ 15 := by simpa [List.getD, List.getElem?_take] using h1
  rw [hY] at g0 g1
  have := rget_ok0 a0 a1 a2 a3 a4 a5 a6 a7 a8 a9 a10 a11 a12 a13 a14 a15 a16 a17 a18 a19 a20 a21 a22 a23 a24 a25 a26 a27 a28 a29 v L w hr hL hok hY g0 g1
  rwa [← hY, getR_take] at this
theorem rget_any (v : Value) (L : List Int) (w : World) (hr : Reads .u8 w v L) :
    Calls Tryd.prog 40 #[v] w fun e w' => e = .returned (.tuple #[.agg (rcells (gotR L)), .int .i64 (getE L)]) ∧ Below w.heap.size w w' := by
  have hm : L.length ≤ 9223372036854775807 := by
    obtain ⟨_, _, _, h1, h2, _⟩ := id hr
    unfold maxLen at h2; omega
  by_cases g1 : L.length < 32
  · have e : getE L = 4 := by unfold getE; rw [if_pos g1]
    have e2 : gotR L = zeroR := by unfold gotR; rw [e]; rfl
    obtain ⟨a, c, rfl, -⟩ := hr
    rw [e, e2]; exact rget_short a _ c w g1 hm
  · by_cases g2 : 32 < L.length
    · have e : getE L = 5 := by unfold getE; rw [if_neg g1, if_pos g2]
      have e2 : gotR L = zeroR := by unfold gotR; rw [e]; rfl
      obtain ⟨a, c, rfl, -⟩ := hr
      rw [e, e2]; exact rget_long a _ c w g2 hm
    · have hL : L.length = 32 := by omega
      by_cases g3 : L = sealL (L.take 30)
      · by_cases g4 : L.getD 0 0 ≠ 1 ∨ 15 < L.getD 1 0
        · have e : getE L = 3 := by unfold getE; rw [if_neg g1, if_neg g2, if_neg (fun h => h g3), if_pos g4]
          have e2 : gotR L = zeroR := by unfold gotR; rw [e]; rfl
          rw [e, e2]
          by_cases h0 : L.getD 0 0 = 1
          · exact rget_form1 v L w hr hL g3 h0 (by rcases g4 with h | h; exact absurd h0 h; exact h)
          · exact rget_form0 v L w hr hL g3 h0
        · have e : getE L = 0 := by unfold getE; rw [if_neg g1, if_neg g2, if_neg (fun h => h g3), if_neg g4]
          have e2 : gotR L = getR L := by unfold gotR; rw [if_pos e]
          rw [e, e2]; exact rget_ok v L w hr hL g3 (by omega) (by omega)
      · have e : getE L = 7 := by unfold getE; rw [if_neg g1, if_neg g2, if_pos g3]
        have e2 : gotR L = zeroR := by unfold gotR; rw [e]; rfl
        rw [e, e2]; exact rget_sum v L w hr hL g3
end Go.Proofs.YtecbfegohdllbaaDoor
