/- Layer 36 (frame): read: a contract. -/
import Derived.Test.YtecbfegohdllbaaDoorRepEq
namespace Go.Proofs.YtecbfegohdllbaaDoor
open Go.RowKit
set_option linter.unusedVariables false
set_option linter.unusedSimpArgs false
/-- a report's box -/
def RB (g : Nat) (Z : List Int) (W : World) : Prop := W.heap[g]? = some (.cells (rcells Z) 50 (0, 0))
theorem RB.set {g j : Nat} {Z Z' : List Int} {v : Value} {W : World} (h : RB g Z W) (e : (rcells Z).setIfInBounds j v = rcells Z') : RB g Z' (W.setCell ⟨g, j, none⟩ v) := by
  unfold RB at *
  rw [← e]
  simp [World.setCell, Array.getElem?_modify, h]
theorem RB.other {g g' j : Nat} {Z : List Int} {v : Value} {W : World} (h : RB g Z W) (hne : g ≠ g') : RB g Z (W.setCell ⟨g', j, none⟩ v) :=
  (Below.heap_setCell _ _ _ g (fun e => hne (by simpa using e))).trans h
theorem RB.drew {g : Nat} {Z : List Int} {W : World} (h : RB g Z W) : RB g Z W.drew := h
theorem RB.later {g : Nat} {Z : List Int} {W W' : World} (h : RB g Z W) (hb : Below W.heap.size W W') : RB g Z W' := (hb.block _ (lt_of_row h)).trans h
theorem RB.cell {g : Nat} {Z : List Int} {W : World} (h : RB g Z W) (j : Nat) {v : Value} (e : (rcells Z)[j]? = some v) : W.cell? ⟨g, j, none⟩ = some v := (cell_of_row W g j _ _ _ h).trans e
theorem RB.frozen {g : Nat} {Z : List Int} {W : World} (h : RB g Z W) (j : Nat) : W.frozen? ⟨g, j, none⟩ = false := frozen_of_row W g j _ _ h
theorem Below.drewl {B : Nat} {w w' : World} (h : Below B w.drew w') : Below B w w' := ((Below.refl B w).drew).trans h
/-- bytes at their places -/
def BytesAt (b off : Nat) (Y : List Int) (w : World) : Prop := b < w.heap.size ∧ ∀ (i : Nat) (x : Int), Y[i]? = some x → w.cell? ⟨b, off + i, none⟩ = some (.int .u8 x) ∧ 0 ≤ x ∧ x ≤ 255
theorem BytesAt.cell {b off : Nat} {Y : List Int} {w W : World} (h : BytesAt b off Y w) (hb : Below w.heap.size w W) (i : Nat) {x : Int} (e : Y[i]? = some x) : W.cell? ⟨b, off + i, none⟩ = some (.int .u8 x) := (hb.cell (p := ⟨b, off + i, none⟩) h.1).trans (h.2 i x e).1
theorem BytesAt.bd {b off : Nat} {Y : List Int} {w : World} (h : BytesAt b off Y w) (i : Nat) {x : Int} (e : Y[i]? = some x) : 0 ≤ x ∧ x ≤ 255 := (h.2 i x e).2
theorem or_two {x y : Int} (hx : 0 ≤ x ∧ x ≤ 255) (hy : 0 ≤ y ∧ y ≤ 255) : bits .or .i64 (x * 256) y = 256 * x + y := by
  have h := or_join .i64 8 x y (by decide) (by omega) (by omega)
  rw [show ((2:Int) ^ 8) = 256 from rfl] at h
  rw [h, i64wrap]; omega
theorem or_two' {x y : Int} (hx : 0 ≤ x ∧ x ≤ 255) (hy : 0 ≤ y ∧ y ≤ 255) : bits .or .i64 (IntKind.i64.wrap (IntKind.i64.wrap x * 256)) (IntKind.i64.wrap y) = 256 * x + y := by
  rw [IntWalk.i64_in x (by omega), IntWalk.i64_in y (by omega), IntWalk.i64_in (x * 256) (by omega)]
  exact or_two hx hy
@[local go_sem] theorem ixp_0 (p0 p1 p2 : Addr) (w : World) : (Instr.index 150 (.agg #[.pointer (some p0), .pointer (some p1), .pointer (some p2)]) (.int .i64 0)).run Tryd.prog w = .ok (.pointer (some p0)) w := by kernel_rfl
@[local go_sem] theorem ixp_1 (p0 p1 p2 : Addr) (w : World) : (Instr.index 150 (.agg #[.pointer (some p0), .pointer (some p1), .pointer (some p2)]) (.int .i64 1)).run Tryd.prog w = .ok (.pointer (some p1)) w := by kernel_rfl
@[local go_sem] theorem ixp_2 (p0 p1 p2 : Addr) (w : World) : (Instr.index 150 (.agg #[.pointer (some p0), .pointer (some p1), .pointer (some p2)]) (.int .i64 2)).run Tryd.prog w = .ok (.pointer (some p2)) w := by kernel_rfl
@[local go_sem] theorem iw_0 : IntKind.i64.wrap 0 = 0 := by decide
@[local go_sem] theorem iw_1 : IntKind.i64.wrap 1 = 1 := by decide
@[local go_sem] theorem iw_2 : IntKind.i64.wrap 2 = 2 := by decide
@[local go_sem] theorem iw_3 : IntKind.i64.wrap 3 = 3 := by decide
@[local go_sem] theorem iw_4 : IntKind.i64.wrap 4 = 4 := by decide
@[local go_sem] theorem iw_5 : IntKind.i64.wrap 5 = 5 := by decide
@[local go_sem] theorem iw_6 : IntKind.i64.wrap 6 = 6 := by decide
@[local go_sem] theorem iw_7 : IntKind.i64.wrap 7 = 7 := by decide
@[local go_sem] theorem iw_8 : IntKind.i64.wrap 8 = 8 := by decide
@[local go_sem] theorem iw_9 : IntKind.i64.wrap 9 = 9 := by decide
@[local go_sem] theorem iw_10 : IntKind.i64.wrap 10 = 10 := by decide
@[local go_sem] theorem iw_11 : IntKind.i64.wrap 11 = 11 := by decide
@[local go_sem] theorem iw_12 : IntKind.i64.wrap 12 = 12 := by decide
@[local go_sem] theorem iw_13 : IntKind.i64.wrap 13 = 13 := by decide
@[local go_sem] theorem iw_14 : IntKind.i64.wrap 14 = 14 := by decide
@[local go_sem] theorem iw_15 : IntKind.i64.wrap 15 = 15 := by decide
@[local go_sem] theorem iw_16 : IntKind.i64.wrap 16 = 16 := by decide
@[local go_sem] theorem iw_17 : IntKind.i64.wrap 17 = 17 := by decide
@[local go_sem] theorem iw_18 : IntKind.i64.wrap 18 = 18 := by decide
@[local go_sem] theorem iw_19 : IntKind.i64.wrap 19 = 19 := by decide
@[local go_sem] theorem iw_20 : IntKind.i64.wrap 20 = 20 := by decide
@[local go_sem] theorem iw_21 : IntKind.i64.wrap 21 = 21 := by decide
@[local go_sem] theorem iw_22 : IntKind.i64.wrap 22 = 22 := by decide
@[local go_sem] theorem iw_23 : IntKind.i64.wrap 23 = 23 := by decide
@[local go_sem] theorem iw_24 : IntKind.i64.wrap 24 = 24 := by decide
@[local go_sem] theorem iw_25 : IntKind.i64.wrap 25 = 25 := by decide
@[local go_sem] theorem iw_26 : IntKind.i64.wrap 26 = 26 := by decide
@[local go_sem] theorem iw_27 : IntKind.i64.wrap 27 = 27 := by decide
@[local go_sem] theorem iw_28 : IntKind.i64.wrap 28 = 28 := by decide
@[local go_sem] theorem iw_29 : IntKind.i64.wrap 29 = 29 := by decide
@[local go_sem] theorem iw_30 : IntKind.i64.wrap 30 = 30 := by decide
@[local go_sem] theorem iw_31 : IntKind.i64.wrap 31 = 31 := by decide
set_option maxRecDepth 100000 in
set_option maxHeartbeats 4000000 in
theorem fread_ok (a0 a1 a2 a3 a4 a5 a6 a7 a8 a9 a10 a11 a12 a13 a14 a15 a16 a17 a18 a19 a20 a21 a22 a23 a24 a25 a26 a27 a28 a29 : Int) (b off c : Nat) (w : World) (H : BytesAt b off [a0, a1, a2, a3, a4, a5, a6, a7, a8, a9, a10, a11, a12, a13, a14, a15, a16, a17, a18, a19, a20, a21, a22, a23, a24, a25, a26, a27, a28, a29] w) (hc : 30 ≤ c) (h0 : a0 = 1) (h1 : a1 ≤ 15) :
    Calls Tryd.prog 76 #[.slice (some ⟨b, off, none⟩) 30 c] w fun e w' => e = .returned (.tuple #[.agg (rcells (getR [a0, a1, a2, a3, a4, a5, a6, a7, a8, a9, a10, a11, a12, a13, a14, a15, a16, a17, a18, a19, a20, a21, a22, a23, a24, a25, a26, a27, a28, a29])), .nilIface]) ∧ Below w.heap.size w w' := by
  subst h0
  obtain ⟨b1, b1'⟩ := H.bd 1 rfl
  have AN := (andnot_zero a1 (by omega) 4 (by decide) 15 (by decide)).2 ⟨b1, h1⟩
  have k0 := H.cell (Below.refl _ w) 0 rfl
  have k1 := H.cell (Below.refl _ w) 1 rfl
  rw [Nat.add_zero] at k0
  have hlt := H.1
  have CB := hid H
  clear H h1
  have hc30 : (30 : Int) ≤ c := by omega
  go_enter Tryd.func76, Tryd.ntmps76
  go_wp2_with fail
  have R0 : RB w.heap.size zeroR ((w.alloc (.cells (rcells zeroR) 50)).alloc (.cells (rcells [a1, 0, 0, 0, 0, 0, 0, 0, 0, 0, 0]) 50)) := (Below.heap_alloc _ _ _ (by simp)).trans (heap_alloc_new w _)
  have R1 : RB (w.heap.size + 1) [a1, 0, 0, 0, 0, 0, 0, 0, 0, 0, 0] ((w.alloc (.cells (rcells zeroR) 50)).alloc (.cells (rcells [a1, 0, 0, 0, 0, 0, 0, 0, 0, 0, 0]) 50)) := heap_alloc2_new w _ _
  have hB0 := ((Below.refl _ w).alloc (Nat.le_refl _) (.cells (rcells zeroR) 50)).alloc (by simp) (.cells (rcells [a1, 0, 0, 0, 0, 0, 0, 0, 0, 0, 0]) 50)
  have e0 : ((w.alloc (.cells (#[Value.int .i64 0, Value.int .i64 0, Value.int .i64 0, Value.int .i64 0, Value.int .i32 0, Value.int .i32 0, Value.int .i32 0, Value.int .i32 0, Value.int .i32 0, Value.int .i32 0, Value.int .i32 0] : Array Value) 50)).alloc (.cells (#[Value.int .i64 a1, Value.int .i64 0, Value.int .i64 0, Value.int .i64 0, Value.int .i32 0, Value.int .i32 0, Value.int .i32 0, Value.int .i32 0, Value.int .i32 0, Value.int .i32 0, Value.int .i32 0] : Array Value) 50)) = ((w.alloc (.cells (rcells zeroR) 50)).alloc (.cells (rcells [a1, 0, 0, 0, 0, 0, 0, 0, 0, 0, 0]) 50)) := rfl
  rw [e0]
  clear e0 k0 k1 AN
  generalize (w.alloc (.cells (rcells zeroR) 50)).alloc (.cells (rcells [a1, 0, 0, 0, 0, 0, 0, 0, 0, 0, 0]) 50) = W0 at *
  refine wp_loop_rounds 4 ?_
  rw [rounds_succ]
  have bx := CB.out.bd 2 rfl
  have by' := CB.out.bd 3 rfl
  have OR := or_two' bx by'
  have cs : W0.cell? ⟨w.heap.size + 1, 1, none⟩ = some (.int .i64 0) := R1.cell 1 rfl
  have fs := R1.frozen 1
  go_wp2_with fail
  refine wp_region_F' (B := w.heap.size) (n := 19) (l := #[false, false, false, false, false, false, false, false, false, false, false, false, false, false, false, false, false, false, false]) (by kernel_rfl) (by kernel_rfl) (by kernel_rfl) ?_
  refine wpAnyF_take (i := 0) (v := ?vr0_0_1) (some 40) rfl rfl (by kernel_rfl) (by kernel_rfl) (by kernel_rfl) (fun _ _ _ h => h) (by rfl) ?hvr0_0_1 ?restr0_0_1
  case hvr0_0_1 => (intro w' hb; go_simp; try with_reducible rfl)
  simp only [Act.put, List.setIfInBounds_toArray, List.set_cons_zero, List.set_cons_succ]
  refine wpAnyF_take (i := 1) (v := ?vr0_1_2) (some 41) rfl rfl (by kernel_rfl) (by kernel_rfl) (by kernel_rfl) (fun _ _ _ h => h) (by rfl) ?hvr0_1_2 ?restr0_1_2
  case hvr0_1_2 => (intro w' hb; go_simp; try with_reducible rfl)
  simp only [Act.put, List.setIfInBounds_toArray, List.set_cons_zero, List.set_cons_succ]
  refine wpAnyF_take (i := 2) (v := ?vr0_2_3) (some 42) rfl rfl (by kernel_rfl) (by kernel_rfl) (by kernel_rfl) (fun _ _ _ h => h) (by rfl) ?hvr0_2_3 ?restr0_2_3
  case hvr0_2_3 => (intro w' hb; go_simp; try with_reducible rfl)
  simp only [Act.put, List.setIfInBounds_toArray, List.set_cons_zero, List.set_cons_succ]
  refine wpAnyF_take (i := 3) (v := ?vr0_3_4) (some 43) rfl rfl (by kernel_rfl) (by kernel_rfl) (by kernel_rfl) (fun _ _ _ h => h) (by rfl) ?hvr0_3_4 ?restr0_3_4
  case hvr0_3_4 => (intro w' hb; go_simp; try with_reducible rfl)
  simp only [Act.put, List.setIfInBounds_toArray, List.set_cons_zero, List.set_cons_succ]
  refine wpAnyF_take (i := 4) (v := ?vr0_4_5) (some 44) rfl rfl (by kernel_rfl) (by kernel_rfl) (by kernel_rfl) (fun _ _ _ h => h) (by rfl) ?hvr0_4_5 ?restr0_4_5
  case hvr0_4_5 => (intro w' hb; go_simp; try with_reducible rfl)
  simp only [Act.put, List.setIfInBounds_toArray, List.set_cons_zero, List.set_cons_succ]
  refine wpAnyF_take (i := 5) (v := ?vr0_5_6) (some 45) rfl rfl (by kernel_rfl) (by kernel_rfl) (by kernel_rfl) (fun _ _ _ h => h) (by rfl) ?hvr0_5_6 ?restr0_5_6
  case hvr0_5_6 => (intro w' hb; go_simp; try with_reducible rfl)
  simp only [Act.put, List.setIfInBounds_toArray, List.set_cons_zero, List.set_cons_succ]
  refine wpAnyF_take (i := 6) (v := ?vr0_6_7) (some 46) rfl rfl (by kernel_rfl) (by kernel_rfl) (by kernel_rfl) (fun _ _ _ h => h) (by rfl) ?hvr0_6_7 ?restr0_6_7
  case hvr0_6_7 => (intro w' hb; (have hcw := CB.out.cell (hB0.trans (Below.drewl hb)) 2 rfl; go_simp; try with_reducible rfl))
  simp only [Act.put, List.setIfInBounds_toArray, List.set_cons_zero, List.set_cons_succ]
  refine wpAnyF_take (i := 7) (v := ?vr0_7_8) (some 47) rfl rfl (by kernel_rfl) (by kernel_rfl) (by kernel_rfl) (fun _ _ _ h => h) (by rfl) ?hvr0_7_8 ?restr0_7_8
  case hvr0_7_8 => (intro w' hb; go_simp; try with_reducible rfl)
  simp only [Act.put, List.setIfInBounds_toArray, List.set_cons_zero, List.set_cons_succ]
  refine wpAnyF_take (i := 8) (v := ?vr0_8_9) (some 48) rfl rfl (by kernel_rfl) (by kernel_rfl) (by kernel_rfl) (fun _ _ _ h => h) (by rfl) ?hvr0_8_9 ?restr0_8_9
  case hvr0_8_9 => (intro w' hb; go_simp; try with_reducible rfl)
  simp only [Act.put, List.setIfInBounds_toArray, List.set_cons_zero, List.set_cons_succ]
  refine wpAnyF_take (i := 9) (v := ?vr0_9_10) (some 49) rfl rfl (by kernel_rfl) (by kernel_rfl) (by kernel_rfl) (fun _ _ _ h => h) (by rfl) ?hvr0_9_10 ?restr0_9_10
  case hvr0_9_10 => (intro w' hb; go_simp; try with_reducible rfl)
  simp only [Act.put, List.setIfInBounds_toArray, List.set_cons_zero, List.set_cons_succ]
  refine wpAnyF_take (i := 10) (v := ?vr0_10_11) (some 50) rfl rfl (by kernel_rfl) (by kernel_rfl) (by kernel_rfl) (fun _ _ _ h => h) (by rfl) ?hvr0_10_11 ?restr0_10_11
  case hvr0_10_11 => (intro w' hb; go_simp; try with_reducible rfl)
  simp only [Act.put, List.setIfInBounds_toArray, List.set_cons_zero, List.set_cons_succ]
  refine wpAnyF_take (i := 11) (v := ?vr0_11_12) (some 51) rfl rfl (by kernel_rfl) (by kernel_rfl) (by kernel_rfl) (fun _ _ _ h => h) (by rfl) ?hvr0_11_12 ?restr0_11_12
  case hvr0_11_12 => (intro w' hb; go_simp; try with_reducible rfl)
  simp only [Act.put, List.setIfInBounds_toArray, List.set_cons_zero, List.set_cons_succ]
  refine wpAnyF_take (i := 12) (v := ?vr0_12_13) (some 52) rfl rfl (by kernel_rfl) (by kernel_rfl) (by kernel_rfl) (fun _ _ _ h => h) (by rfl) ?hvr0_12_13 ?restr0_12_13
  case hvr0_12_13 => (intro w' hb; go_simp; try with_reducible rfl)
  simp only [Act.put, List.setIfInBounds_toArray, List.set_cons_zero, List.set_cons_succ]
  refine wpAnyF_take (i := 13) (v := ?vr0_13_14) (some 53) rfl rfl (by kernel_rfl) (by kernel_rfl) (by kernel_rfl) (fun _ _ _ h => h) (by rfl) ?hvr0_13_14 ?restr0_13_14
  case hvr0_13_14 => (intro w' hb; go_simp; try with_reducible rfl)
  simp only [Act.put, List.setIfInBounds_toArray, List.set_cons_zero, List.set_cons_succ]
  refine wpAnyF_take (i := 14) (v := ?vr0_14_15) (some 54) rfl rfl (by kernel_rfl) (by kernel_rfl) (by kernel_rfl) (fun _ _ _ h => h) (by rfl) ?hvr0_14_15 ?restr0_14_15
  case hvr0_14_15 => (intro w' hb; (have hcw := CB.out.cell (hB0.trans (Below.drewl hb)) 3 rfl; go_simp; try with_reducible rfl))
  simp only [Act.put, List.setIfInBounds_toArray, List.set_cons_zero, List.set_cons_succ]
  refine wpAnyF_take (i := 15) (v := ?vr0_15_16) (some 55) rfl rfl (by kernel_rfl) (by kernel_rfl) (by kernel_rfl) (fun _ _ _ h => h) (by rfl) ?hvr0_15_16 ?restr0_15_16
  case hvr0_15_16 => (intro w' hb; go_simp; try with_reducible rfl)
  simp only [Act.put, List.setIfInBounds_toArray, List.set_cons_zero, List.set_cons_succ]
  refine wpAnyF_take (i := 16) (v := ?vr0_16_17) (some 56) rfl rfl (by kernel_rfl) (by kernel_rfl) (by kernel_rfl) (fun _ _ _ h => h) (by rfl) ?hvr0_16_17 ?restr0_16_17
  case hvr0_16_17 => (intro w' hb; go_simp; try with_reducible rfl)
  simp only [Act.put, List.setIfInBounds_toArray, List.set_cons_zero, List.set_cons_succ]
  refine wpAnyF_take (i := 17) (v := ?vr0_17_18) (some 57) rfl rfl (by kernel_rfl) (by kernel_rfl) (by kernel_rfl) (fun _ _ _ h => h) (by rfl) ?hvr0_17_18 ?restr0_17_18
  case hvr0_17_18 => (intro w' hb; go_simp; try with_reducible rfl)
  simp only [Act.put, List.setIfInBounds_toArray, List.set_cons_zero, List.set_cons_succ]
  refine wpAnyF_alone (i := 18) rfl (by kernel_rfl) (by rfl) (fun K hK => ?_)
  go_simp
  have hb := (Below.refl w.heap.size W0.drew).setCell (p := ⟨w.heap.size + 1, 1, none⟩) (by simp) (.int .i64 (256 * a2 + a3))
  refine hK.out _ _ hb ?_
  clear hK K
  simp only [List.setIfInBounds_toArray, List.set_cons_zero, List.set_cons_succ]
  refine wpAnyF_done (by kernel_rfl) ?_ _
  have R1' : RB (w.heap.size + 1) [a1, 256 * a2 + a3, 0, 0, 0, 0, 0, 0, 0, 0, 0] (W0.setCell ⟨w.heap.size + 1, 1, none⟩ (.int .i64 (256 * a2 + a3))).drew := (R1.set rfl).drew
  have R0' : RB w.heap.size zeroR (W0.setCell ⟨w.heap.size + 1, 1, none⟩ (.int .i64 (256 * a2 + a3))).drew := (R0.other (by omega)).drew
  have hB' : Below w.heap.size w (W0.setCell ⟨w.heap.size + 1, 1, none⟩ (.int .i64 (256 * a2 + a3))).drew := (hB0.setCell (p := ⟨w.heap.size + 1, 1, none⟩) (by simp) _).drew
  clear R1 R0 hB0 cs fs bx by' OR hb
  generalize (W0.setCell ⟨w.heap.size + 1, 1, none⟩ (.int .i64 (256 * a2 + a3))).drew = W1 at *
  have R1 := R1'
  have R0 := R0'
  have hB0 := hB'
  clear R1' R0' hB'
  go_wp2_with fail
  rw [rounds_succ]
  have bx := CB.out.bd 4 rfl
  have by' := CB.out.bd 5 rfl
  have OR := or_two' bx by'
  have cs : W1.cell? ⟨w.heap.size + 1, 2, none⟩ = some (.int .i64 0) := R1.cell 2 rfl
  have fs := R1.frozen 2
  go_wp2_with fail
  refine wp_region_F' (B := w.heap.size) (n := 19) (l := #[false, false, false, false, false, false, false, false, false, false, false, false, false, false, false, false, false, false, false]) (by kernel_rfl) (by kernel_rfl) (by kernel_rfl) ?_
  refine wpAnyF_take (i := 0) (v := ?vr1_0_1) (some 40) rfl rfl (by kernel_rfl) (by kernel_rfl) (by kernel_rfl) (fun _ _ _ h => h) (by rfl) ?hvr1_0_1 ?restr1_0_1
  case hvr1_0_1 => (intro w' hb; go_simp; try with_reducible rfl)
  simp only [Act.put, List.setIfInBounds_toArray, List.set_cons_zero, List.set_cons_succ]
  refine wpAnyF_take (i := 1) (v := ?vr1_1_2) (some 41) rfl rfl (by kernel_rfl) (by kernel_rfl) (by kernel_rfl) (fun _ _ _ h => h) (by rfl) ?hvr1_1_2 ?restr1_1_2
  case hvr1_1_2 => (intro w' hb; go_simp; try with_reducible rfl)
  simp only [Act.put, List.setIfInBounds_toArray, List.set_cons_zero, List.set_cons_succ]
  refine wpAnyF_take (i := 2) (v := ?vr1_2_3) (some 42) rfl rfl (by kernel_rfl) (by kernel_rfl) (by kernel_rfl) (fun _ _ _ h => h) (by rfl) ?hvr1_2_3 ?restr1_2_3
  case hvr1_2_3 => (intro w' hb; go_simp; try with_reducible rfl)
  simp only [Act.put, List.setIfInBounds_toArray, List.set_cons_zero, List.set_cons_succ]
  refine wpAnyF_take (i := 3) (v := ?vr1_3_4) (some 43) rfl rfl (by kernel_rfl) (by kernel_rfl) (by kernel_rfl) (fun _ _ _ h => h) (by rfl) ?hvr1_3_4 ?restr1_3_4
  case hvr1_3_4 => (intro w' hb; go_simp; try with_reducible rfl)
  simp only [Act.put, List.setIfInBounds_toArray, List.set_cons_zero, List.set_cons_succ]
  refine wpAnyF_take (i := 4) (v := ?vr1_4_5) (some 44) rfl rfl (by kernel_rfl) (by kernel_rfl) (by kernel_rfl) (fun _ _ _ h => h) (by rfl) ?hvr1_4_5 ?restr1_4_5
  case hvr1_4_5 => (intro w' hb; go_simp; try with_reducible rfl)
  simp only [Act.put, List.setIfInBounds_toArray, List.set_cons_zero, List.set_cons_succ]
  refine wpAnyF_take (i := 5) (v := ?vr1_5_6) (some 45) rfl rfl (by kernel_rfl) (by kernel_rfl) (by kernel_rfl) (fun _ _ _ h => h) (by rfl) ?hvr1_5_6 ?restr1_5_6
  case hvr1_5_6 => (intro w' hb; go_simp; try with_reducible rfl)
  simp only [Act.put, List.setIfInBounds_toArray, List.set_cons_zero, List.set_cons_succ]
  refine wpAnyF_take (i := 6) (v := ?vr1_6_7) (some 46) rfl rfl (by kernel_rfl) (by kernel_rfl) (by kernel_rfl) (fun _ _ _ h => h) (by rfl) ?hvr1_6_7 ?restr1_6_7
  case hvr1_6_7 => (intro w' hb; (have hcw := CB.out.cell (hB0.trans (Below.drewl hb)) 4 rfl; go_simp; try with_reducible rfl))
  simp only [Act.put, List.setIfInBounds_toArray, List.set_cons_zero, List.set_cons_succ]
  refine wpAnyF_take (i := 7) (v := ?vr1_7_8) (some 47) rfl rfl (by kernel_rfl) (by kernel_rfl) (by kernel_rfl) (fun _ _ _ h => h) (by rfl) ?hvr1_7_8 ?restr1_7_8
  case hvr1_7_8 => (intro w' hb; go_simp; try with_reducible rfl)
  simp only [Act.put, List.setIfInBounds_toArray, List.set_cons_zero, List.set_cons_succ]
  refine wpAnyF_take (i := 8) (v := ?vr1_8_9) (some 48) rfl rfl (by kernel_rfl) (by kernel_rfl) (by kernel_rfl) (fun _ _ _ h => h) (by rfl) ?hvr1_8_9 ?restr1_8_9
  case hvr1_8_9 => (intro w' hb; go_simp; try with_reducible rfl)
  simp only [Act.put, List.setIfInBounds_toArray, List.set_cons_zero, List.set_cons_succ]
  refine wpAnyF_take (i := 9) (v := ?vr1_9_10) (some 49) rfl rfl (by kernel_rfl) (by kernel_rfl) (by kernel_rfl) (fun _ _ _ h => h) (by rfl) ?hvr1_9_10 ?restr1_9_10
  case hvr1_9_10 => (intro w' hb; go_simp; try with_reducible rfl)
  simp only [Act.put, List.setIfInBounds_toArray, List.set_cons_zero, List.set_cons_succ]
  refine wpAnyF_take (i := 10) (v := ?vr1_10_11) (some 50) rfl rfl (by kernel_rfl) (by kernel_rfl) (by kernel_rfl) (fun _ _ _ h => h) (by rfl) ?hvr1_10_11 ?restr1_10_11
  case hvr1_10_11 => (intro w' hb; go_simp; try with_reducible rfl)
  simp only [Act.put, List.setIfInBounds_toArray, List.set_cons_zero, List.set_cons_succ]
  refine wpAnyF_take (i := 11) (v := ?vr1_11_12) (some 51) rfl rfl (by kernel_rfl) (by kernel_rfl) (by kernel_rfl) (fun _ _ _ h => h) (by rfl) ?hvr1_11_12 ?restr1_11_12
  case hvr1_11_12 => (intro w' hb; go_simp; try with_reducible rfl)
  simp only [Act.put, List.setIfInBounds_toArray, List.set_cons_zero, List.set_cons_succ]
  refine wpAnyF_take (i := 12) (v := ?vr1_12_13) (some 52) rfl rfl (by kernel_rfl) (by kernel_rfl) (by kernel_rfl) (fun _ _ _ h => h) (by rfl) ?hvr1_12_13 ?restr1_12_13
  case hvr1_12_13 => (intro w' hb; go_simp; try with_reducible rfl)
  simp only [Act.put, List.setIfInBounds_toArray, List.set_cons_zero, List.set_cons_succ]
  refine wpAnyF_take (i := 13) (v := ?vr1_13_14) (some 53) rfl rfl (by kernel_rfl) (by kernel_rfl) (by kernel_rfl) (fun _ _ _ h => h) (by rfl) ?hvr1_13_14 ?restr1_13_14
  case hvr1_13_14 => (intro w' hb; go_simp; try with_reducible rfl)
  simp only [Act.put, List.setIfInBounds_toArray, List.set_cons_zero, List.set_cons_succ]
  refine wpAnyF_take (i := 14) (v := ?vr1_14_15) (some 54) rfl rfl (by kernel_rfl) (by kernel_rfl) (by kernel_rfl) (fun _ _ _ h => h) (by rfl) ?hvr1_14_15 ?restr1_14_15
  case hvr1_14_15 => (intro w' hb; (have hcw := CB.out.cell (hB0.trans (Below.drewl hb)) 5 rfl; go_simp; try with_reducible rfl))
  simp only [Act.put, List.setIfInBounds_toArray, List.set_cons_zero, List.set_cons_succ]
  refine wpAnyF_take (i := 15) (v := ?vr1_15_16) (some 55) rfl rfl (by kernel_rfl) (by kernel_rfl) (by kernel_rfl) (fun _ _ _ h => h) (by rfl) ?hvr1_15_16 ?restr1_15_16
  case hvr1_15_16 => (intro w' hb; go_simp; try with_reducible rfl)
  simp only [Act.put, List.setIfInBounds_toArray, List.set_cons_zero, List.set_cons_succ]
  refine wpAnyF_take (i := 16) (v := ?vr1_16_17) (some 56) rfl rfl (by kernel_rfl) (by kernel_rfl) (by kernel_rfl) (fun _ _ _ h => h) (by rfl) ?hvr1_16_17 ?restr1_16_17
  case hvr1_16_17 => (intro w' hb; go_simp; try with_reducible rfl)
  simp only [Act.put, List.setIfInBounds_toArray, List.set_cons_zero, List.set_cons_succ]
  refine wpAnyF_take (i := 17) (v := ?vr1_17_18) (some 57) rfl rfl (by kernel_rfl) (by kernel_rfl) (by kernel_rfl) (fun _ _ _ h => h) (by rfl) ?hvr1_17_18 ?restr1_17_18
  case hvr1_17_18 => (intro w' hb; go_simp; try with_reducible rfl)
  simp only [Act.put, List.setIfInBounds_toArray, List.set_cons_zero, List.set_cons_succ]
  refine wpAnyF_alone (i := 18) rfl (by kernel_rfl) (by rfl) (fun K hK => ?_)
  go_simp
  have hb := (Below.refl w.heap.size W1.drew).setCell (p := ⟨w.heap.size + 1, 2, none⟩) (by simp) (.int .i64 (256 * a4 + a5))
  refine hK.out _ _ hb ?_
  clear hK K
  simp only [List.setIfInBounds_toArray, List.set_cons_zero, List.set_cons_succ]
  refine wpAnyF_done (by kernel_rfl) ?_ _
  have R1' : RB (w.heap.size + 1) [a1, 256 * a2 + a3, 256 * a4 + a5, 0, 0, 0, 0, 0, 0, 0, 0] (W1.setCell ⟨w.heap.size + 1, 2, none⟩ (.int .i64 (256 * a4 + a5))).drew := (R1.set rfl).drew
  have R0' : RB w.heap.size zeroR (W1.setCell ⟨w.heap.size + 1, 2, none⟩ (.int .i64 (256 * a4 + a5))).drew := (R0.other (by omega)).drew
  have hB' : Below w.heap.size w (W1.setCell ⟨w.heap.size + 1, 2, none⟩ (.int .i64 (256 * a4 + a5))).drew := (hB0.setCell (p := ⟨w.heap.size + 1, 2, none⟩) (by simp) _).drew
  clear R1 R0 hB0 cs fs bx by' OR hb
  generalize (W1.setCell ⟨w.heap.size + 1, 2, none⟩ (.int .i64 (256 * a4 + a5))).drew = W2 at *
  have R1 := R1'
  have R0 := R0'
  have hB0 := hB'
  clear R1' R0' hB'
  go_wp2_with fail
  rw [rounds_succ]
  have bx := CB.out.bd 6 rfl
  have by' := CB.out.bd 7 rfl
  have OR := or_two' bx by'
  have cs : W2.cell? ⟨w.heap.size + 1, 3, none⟩ = some (.int .i64 0) := R1.cell 3 rfl
  have fs := R1.frozen 3
  go_wp2_with fail
  refine wp_region_F' (B := w.heap.size) (n := 19) (l := #[false, false, false, false, false, false, false, false, false, false, false, false, false, false, false, false, false, false, false]) (by kernel_rfl) (by kernel_rfl) (by kernel_rfl) ?_
  refine wpAnyF_take (i := 0) (v := ?vr2_0_1) (some 40) rfl rfl (by kernel_rfl) (by kernel_rfl) (by kernel_rfl) (fun _ _ _ h => h) (by rfl) ?hvr2_0_1 ?restr2_0_1
  case hvr2_0_1 => (intro w' hb; go_simp; try with_reducible rfl)
  simp only [Act.put, List.setIfInBounds_toArray, List.set_cons_zero, List.set_cons_succ]
  refine wpAnyF_take (i := 1) (v := ?vr2_1_2) (some 41) rfl rfl (by kernel_rfl) (by kernel_rfl) (by kernel_rfl) (fun _ _ _ h => h) (by rfl) ?hvr2_1_2 ?restr2_1_2
  case hvr2_1_2 => (intro w' hb; go_simp; try with_reducible rfl)
  simp only [Act.put, List.setIfInBounds_toArray, List.set_cons_zero, List.set_cons_succ]
  refine wpAnyF_take (i := 2) (v := ?vr2_2_3) (some 42) rfl rfl (by kernel_rfl) (by kernel_rfl) (by kernel_rfl) (fun _ _ _ h => h) (by rfl) ?hvr2_2_3 ?restr2_2_3
  case hvr2_2_3 => (intro w' hb; go_simp; try with_reducible rfl)
  simp only [Act.put, List.setIfInBounds_toArray, List.set_cons_zero, List.set_cons_succ]
  refine wpAnyF_take (i := 3) (v := ?vr2_3_4) (some 43) rfl rfl (by kernel_rfl) (by kernel_rfl) (by kernel_rfl) (fun _ _ _ h => h) (by rfl) ?hvr2_3_4 ?restr2_3_4
  case hvr2_3_4 => (intro w' hb; go_simp; try with_reducible rfl)
  simp only [Act.put, List.setIfInBounds_toArray, List.set_cons_zero, List.set_cons_succ]
  refine wpAnyF_take (i := 4) (v := ?vr2_4_5) (some 44) rfl rfl (by kernel_rfl) (by kernel_rfl) (by kernel_rfl) (fun _ _ _ h => h) (by rfl) ?hvr2_4_5 ?restr2_4_5
  case hvr2_4_5 => (intro w' hb; go_simp; try with_reducible rfl)
  simp only [Act.put, List.setIfInBounds_toArray, List.set_cons_zero, List.set_cons_succ]
  refine wpAnyF_take (i := 5) (v := ?vr2_5_6) (some 45) rfl rfl (by kernel_rfl) (by kernel_rfl) (by kernel_rfl) (fun _ _ _ h => h) (by rfl) ?hvr2_5_6 ?restr2_5_6
  case hvr2_5_6 => (intro w' hb; go_simp; try with_reducible rfl)
  simp only [Act.put, List.setIfInBounds_toArray, List.set_cons_zero, List.set_cons_succ]
  refine wpAnyF_take (i := 6) (v := ?vr2_6_7) (some 46) rfl rfl (by kernel_rfl) (by kernel_rfl) (by kernel_rfl) (fun _ _ _ h => h) (by rfl) ?hvr2_6_7 ?restr2_6_7
  case hvr2_6_7 => (intro w' hb; (have hcw := CB.out.cell (hB0.trans (Below.drewl hb)) 6 rfl; go_simp; try with_reducible rfl))
  simp only [Act.put, List.setIfInBounds_toArray, List.set_cons_zero, List.set_cons_succ]
  refine wpAnyF_take (i := 7) (v := ?vr2_7_8) (some 47) rfl rfl (by kernel_rfl) (by kernel_rfl) (by kernel_rfl) (fun _ _ _ h => h) (by rfl) ?hvr2_7_8 ?restr2_7_8
  case hvr2_7_8 => (intro w' hb; go_simp; try with_reducible rfl)
  simp only [Act.put, List.setIfInBounds_toArray, List.set_cons_zero, List.set_cons_succ]
  refine wpAnyF_take (i := 8) (v := ?vr2_8_9) (some 48) rfl rfl (by kernel_rfl) (by kernel_rfl) (by kernel_rfl) (fun _ _ _ h => h) (by rfl) ?hvr2_8_9 ?restr2_8_9
  case hvr2_8_9 => (intro w' hb; go_simp; try with_reducible rfl)
  simp only [Act.put, List.setIfInBounds_toArray, List.set_cons_zero, List.set_cons_succ]
  refine wpAnyF_take (i := 9) (v := ?vr2_9_10) (some 49) rfl rfl (by kernel_rfl) (by kernel_rfl) (by kernel_rfl) (fun _ _ _ h => h) (by rfl) ?hvr2_9_10 ?restr2_9_10
  case hvr2_9_10 => (intro w' hb; go_simp; try with_reducible rfl)
  simp only [Act.put, List.setIfInBounds_toArray, List.set_cons_zero, List.set_cons_succ]
  refine wpAnyF_take (i := 10) (v := ?vr2_10_11) (some 50) rfl rfl (by kernel_rfl) (by kernel_rfl) (by kernel_rfl) (fun _ _ _ h => h) (by rfl) ?hvr2_10_11 ?restr2_10_11
  case hvr2_10_11 => (intro w' hb; go_simp; try with_reducible rfl)
  simp only [Act.put, List.setIfInBounds_toArray, List.set_cons_zero, List.set_cons_succ]
  refine wpAnyF_take (i := 11) (v := ?vr2_11_12) (some 51) rfl rfl (by kernel_rfl) (by kernel_rfl) (by kernel_rfl) (fun _ _ _ h => h) (by rfl) ?hvr2_11_12 ?restr2_11_12
  case hvr2_11_12 => (intro w' hb; go_simp; try with_reducible rfl)
  simp only [Act.put, List.setIfInBounds_toArray, List.set_cons_zero, List.set_cons_succ]
  refine wpAnyF_take (i := 12) (v := ?vr2_12_13) (some 52) rfl rfl (by kernel_rfl) (by kernel_rfl) (by kernel_rfl) (fun _ _ _ h => h) (by rfl) ?hvr2_12_13 ?restr2_12_13
  case hvr2_12_13 => (intro w' hb; go_simp; try with_reducible rfl)
  simp only [Act.put, List.setIfInBounds_toArray, List.set_cons_zero, List.set_cons_succ]
  refine wpAnyF_take (i := 13) (v := ?vr2_13_14) (some 53) rfl rfl (by kernel_rfl) (by kernel_rfl) (by kernel_rfl) (fun _ _ _ h => h) (by rfl) ?hvr2_13_14 ?restr2_13_14
  case hvr2_13_14 => (intro w' hb; go_simp; try with_reducible rfl)
  simp only [Act.put, List.setIfInBounds_toArray, List.set_cons_zero, List.set_cons_succ]
  refine wpAnyF_take (i := 14) (v := ?vr2_14_15) (some 54) rfl rfl (by kernel_rfl) (by kernel_rfl) (by kernel_rfl) (fun _ _ _ h => h) (by rfl) ?hvr2_14_15 ?restr2_14_15
  case hvr2_14_15 => (intro w' hb; (have hcw := CB.out.cell (hB0.trans (Below.drewl hb)) 7 rfl; go_simp; try with_reducible rfl))
  simp only [Act.put, List.setIfInBounds_toArray, List.set_cons_zero, List.set_cons_succ]
  refine wpAnyF_take (i := 15) (v := ?vr2_15_16) (some 55) rfl rfl (by kernel_rfl) (by kernel_rfl) (by kernel_rfl) (fun _ _ _ h => h) (by rfl) ?hvr2_15_16 ?restr2_15_16
  case hvr2_15_16 => (intro w' hb; go_simp; try with_reducible rfl)
  simp only [Act.put, List.setIfInBounds_toArray, List.set_cons_zero, List.set_cons_succ]
  refine wpAnyF_take (i := 16) (v := ?vr2_16_17) (some 56) rfl rfl (by kernel_rfl) (by kernel_rfl) (by kernel_rfl) (fun _ _ _ h => h) (by rfl) ?hvr2_16_17 ?restr2_16_17
  case hvr2_16_17 => (intro w' hb; go_simp; try with_reducible rfl)
  simp only [Act.put, List.setIfInBounds_toArray, List.set_cons_zero, List.set_cons_succ]
  refine wpAnyF_take (i := 17) (v := ?vr2_17_18) (some 57) rfl rfl (by kernel_rfl) (by kernel_rfl) (by kernel_rfl) (fun _ _ _ h => h) (by rfl) ?hvr2_17_18 ?restr2_17_18
  case hvr2_17_18 => (intro w' hb; go_simp; try with_reducible rfl)
  simp only [Act.put, List.setIfInBounds_toArray, List.set_cons_zero, List.set_cons_succ]
  refine wpAnyF_alone (i := 18) rfl (by kernel_rfl) (by rfl) (fun K hK => ?_)
  go_simp
  have hb := (Below.refl w.heap.size W2.drew).setCell (p := ⟨w.heap.size + 1, 3, none⟩) (by simp) (.int .i64 (256 * a6 + a7))
  refine hK.out _ _ hb ?_
  clear hK K
  simp only [List.setIfInBounds_toArray, List.set_cons_zero, List.set_cons_succ]
  refine wpAnyF_done (by kernel_rfl) ?_ _
  have R1' : RB (w.heap.size + 1) [a1, 256 * a2 + a3, 256 * a4 + a5, 256 * a6 + a7, 0, 0, 0, 0, 0, 0, 0] (W2.setCell ⟨w.heap.size + 1, 3, none⟩ (.int .i64 (256 * a6 + a7))).drew := (R1.set rfl).drew
  have R0' : RB w.heap.size zeroR (W2.setCell ⟨w.heap.size + 1, 3, none⟩ (.int .i64 (256 * a6 + a7))).drew := (R0.other (by omega)).drew
  have hB' : Below w.heap.size w (W2.setCell ⟨w.heap.size + 1, 3, none⟩ (.int .i64 (256 * a6 + a7))).drew := (hB0.setCell (p := ⟨w.heap.size + 1, 3, none⟩) (by simp) _).drew
  clear R1 R0 hB0 cs fs bx by' OR hb
  generalize (W2.setCell ⟨w.heap.size + 1, 3, none⟩ (.int .i64 (256 * a6 + a7))).drew = W3 at *
  have R1 := R1'
  have R0 := R0'
  have hB0 := hB'
  clear R1' R0' hB'
  go_wp2_with fail
  rw [rounds_succ]
  go_wp2_with fail
  refine wp_loop_rounds 5 ?_
  as_aux_lemma =>
    rw [rounds_succ]
    have c0 := CB.out.cell hB0 8 rfl
    have d0 := CB.out.bd 8 rfl
    have c1 := CB.out.cell hB0 9 rfl
    have d1 := CB.out.bd 9 rfl
    have c2 := CB.out.cell hB0 10 rfl
    have d2 := CB.out.bd 10 rfl
    have c3 := CB.out.cell hB0 11 rfl
    have d3 := CB.out.bd 11 rfl
    have FF := hid (fun cc => from_four a8 a9 a10 a11 b (off + 8) cc W3 d0 d1 d2 d3 c0 c1 c2 c3)
    have cs : W3.cell? ⟨w.heap.size + 1, 4, none⟩ = some (.int .i32 0) := R1.cell 4 rfl
    have fs := R1.frozen 4
    clear c0 c1 c2 c3 d0 d1 d2 d3
    go_wp2_with fail
    refine (FF.out _).mono ?_
    rintro e w2 ⟨rfl, rfl⟩
    clear FF
    go_wp2_with fail
    have R1' : RB (w.heap.size + 1) [a1, 256 * a2 + a3, 256 * a4 + a5, 256 * a6 + a7, lowI (((a8 * 256 + a9) * 256 + a10) * 256 + a11), 0, 0, 0, 0, 0, 0] (W3.setCell ⟨w.heap.size + 1, 4, none⟩ (.int .i32 (lowI (((a8 * 256 + a9) * 256 + a10) * 256 + a11)))) := (R1.set rfl)
    have R0' : RB w.heap.size zeroR (W3.setCell ⟨w.heap.size + 1, 4, none⟩ (.int .i32 (lowI (((a8 * 256 + a9) * 256 + a10) * 256 + a11)))) := (R0.other (by omega))
    have hB' : Below w.heap.size w (W3.setCell ⟨w.heap.size + 1, 4, none⟩ (.int .i32 (lowI (((a8 * 256 + a9) * 256 + a10) * 256 + a11)))) := (hB0.setCell (p := ⟨w.heap.size + 1, 4, none⟩) (by simp) _)
    clear R1 R0 hB0 cs fs
    generalize (W3.setCell ⟨w.heap.size + 1, 4, none⟩ (.int .i32 (lowI (((a8 * 256 + a9) * 256 + a10) * 256 + a11)))) = W4 at *
    have R1 := R1'
    have R0 := R0'
    have hB0 := hB'
    clear R1' R0' hB'
    rw [rounds_succ]
    have c0 := CB.out.cell hB0 12 rfl
    have d0 := CB.out.bd 12 rfl
    have c1 := CB.out.cell hB0 13 rfl
    have d1 := CB.out.bd 13 rfl
    have c2 := CB.out.cell hB0 14 rfl
    have d2 := CB.out.bd 14 rfl
    have c3 := CB.out.cell hB0 15 rfl
    have d3 := CB.out.bd 15 rfl
    have FF := hid (fun cc => from_four a12 a13 a14 a15 b (off + 12) cc W4 d0 d1 d2 d3 c0 c1 c2 c3)
    have cs : W4.cell? ⟨w.heap.size + 1, 5, none⟩ = some (.int .i32 0) := R1.cell 5 rfl
    have fs := R1.frozen 5
    clear c0 c1 c2 c3 d0 d1 d2 d3
    go_wp2_with fail
    refine (FF.out _).mono ?_
    rintro e w2 ⟨rfl, rfl⟩
    clear FF
    go_wp2_with fail
    have R1' : RB (w.heap.size + 1) [a1, 256 * a2 + a3, 256 * a4 + a5, 256 * a6 + a7, lowI (((a8 * 256 + a9) * 256 + a10) * 256 + a11), lowI (((a12 * 256 + a13) * 256 + a14) * 256 + a15), 0, 0, 0, 0, 0] (W4.setCell ⟨w.heap.size + 1, 5, none⟩ (.int .i32 (lowI (((a12 * 256 + a13) * 256 + a14) * 256 + a15)))) := (R1.set rfl)
    have R0' : RB w.heap.size zeroR (W4.setCell ⟨w.heap.size + 1, 5, none⟩ (.int .i32 (lowI (((a12 * 256 + a13) * 256 + a14) * 256 + a15)))) := (R0.other (by omega))
    have hB' : Below w.heap.size w (W4.setCell ⟨w.heap.size + 1, 5, none⟩ (.int .i32 (lowI (((a12 * 256 + a13) * 256 + a14) * 256 + a15)))) := (hB0.setCell (p := ⟨w.heap.size + 1, 5, none⟩) (by simp) _)
    clear R1 R0 hB0 cs fs
    generalize (W4.setCell ⟨w.heap.size + 1, 5, none⟩ (.int .i32 (lowI (((a12 * 256 + a13) * 256 + a14) * 256 + a15)))) = W5 at *
    have R1 := R1'
    have R0 := R0'
    have hB0 := hB'
    clear R1' R0' hB'
    rw [rounds_succ]
    have c0 := CB.out.cell hB0 16 rfl
    have d0 := CB.out.bd 16 rfl
    have c1 := CB.out.cell hB0 17 rfl
    have d1 := CB.out.bd 17 rfl
    have c2 := CB.out.cell hB0 18 rfl
    have d2 := CB.out.bd 18 rfl
    have c3 := CB.out.cell hB0 19 rfl
    have d3 := CB.out.bd 19 rfl
    have FF := hid (fun cc => from_four a16 a17 a18 a19 b (off + 16) cc W5 d0 d1 d2 d3 c0 c1 c2 c3)
    have cs : W5.cell? ⟨w.heap.size + 1, 6, none⟩ = some (.int .i32 0) := R1.cell 6 rfl
    have fs := R1.frozen 6
    clear c0 c1 c2 c3 d0 d1 d2 d3
    go_wp2_with fail
    refine (FF.out _).mono ?_
    rintro e w2 ⟨rfl, rfl⟩
    clear FF
    go_wp2_with fail
    have R1' : RB (w.heap.size + 1) [a1, 256 * a2 + a3, 256 * a4 + a5, 256 * a6 + a7, lowI (((a8 * 256 + a9) * 256 + a10) * 256 + a11), lowI (((a12 * 256 + a13) * 256 + a14) * 256 + a15), lowI (((a16 * 256 + a17) * 256 + a18) * 256 + a19), 0, 0, 0, 0] (W5.setCell ⟨w.heap.size + 1, 6, none⟩ (.int .i32 (lowI (((a16 * 256 + a17) * 256 + a18) * 256 + a19)))) := (R1.set rfl)
    have R0' : RB w.heap.size zeroR (W5.setCell ⟨w.heap.size + 1, 6, none⟩ (.int .i32 (lowI (((a16 * 256 + a17) * 256 + a18) * 256 + a19)))) := (R0.other (by omega))
    have hB' : Below w.heap.size w (W5.setCell ⟨w.heap.size + 1, 6, none⟩ (.int .i32 (lowI (((a16 * 256 + a17) * 256 + a18) * 256 + a19)))) := (hB0.setCell (p := ⟨w.heap.size + 1, 6, none⟩) (by simp) _)
    clear R1 R0 hB0 cs fs
    generalize (W5.setCell ⟨w.heap.size + 1, 6, none⟩ (.int .i32 (lowI (((a16 * 256 + a17) * 256 + a18) * 256 + a19)))) = W6 at *
    have R1 := R1'
    have R0 := R0'
    have hB0 := hB'
    clear R1' R0' hB'
    rw [rounds_succ]
    have c0 := CB.out.cell hB0 20 rfl
    have d0 := CB.out.bd 20 rfl
    have c1 := CB.out.cell hB0 21 rfl
    have d1 := CB.out.bd 21 rfl
    have c2 := CB.out.cell hB0 22 rfl
    have d2 := CB.out.bd 22 rfl
    have c3 := CB.out.cell hB0 23 rfl
    have d3 := CB.out.bd 23 rfl
    have FF := hid (fun cc => from_four a20 a21 a22 a23 b (off + 20) cc W6 d0 d1 d2 d3 c0 c1 c2 c3)
    have cs : W6.cell? ⟨w.heap.size + 1, 7, none⟩ = some (.int .i32 0) := R1.cell 7 rfl
    have fs := R1.frozen 7
    clear c0 c1 c2 c3 d0 d1 d2 d3
    go_wp2_with fail
    refine (FF.out _).mono ?_
    rintro e w2 ⟨rfl, rfl⟩
    clear FF
    go_wp2_with fail
    have R1' : RB (w.heap.size + 1) [a1, 256 * a2 + a3, 256 * a4 + a5, 256 * a6 + a7, lowI (((a8 * 256 + a9) * 256 + a10) * 256 + a11), lowI (((a12 * 256 + a13) * 256 + a14) * 256 + a15), lowI (((a16 * 256 + a17) * 256 + a18) * 256 + a19), lowI (((a20 * 256 + a21) * 256 + a22) * 256 + a23), 0, 0, 0] (W6.setCell ⟨w.heap.size + 1, 7, none⟩ (.int .i32 (lowI (((a20 * 256 + a21) * 256 + a22) * 256 + a23)))) := (R1.set rfl)
    have R0' : RB w.heap.size zeroR (W6.setCell ⟨w.heap.size + 1, 7, none⟩ (.int .i32 (lowI (((a20 * 256 + a21) * 256 + a22) * 256 + a23)))) := (R0.other (by omega))
    have hB' : Below w.heap.size w (W6.setCell ⟨w.heap.size + 1, 7, none⟩ (.int .i32 (lowI (((a20 * 256 + a21) * 256 + a22) * 256 + a23)))) := (hB0.setCell (p := ⟨w.heap.size + 1, 7, none⟩) (by simp) _)
    clear R1 R0 hB0 cs fs
    generalize (W6.setCell ⟨w.heap.size + 1, 7, none⟩ (.int .i32 (lowI (((a20 * 256 + a21) * 256 + a22) * 256 + a23)))) = W7 at *
    have R1 := R1'
    have R0 := R0'
    have hB0 := hB'
    clear R1' R0' hB'
    rw [rounds_succ]
    go_wp2_with fail
    refine wp_loop_rounds 4 ?_
    as_aux_lemma =>
      rw [rounds_succ]
      have bx := CB.out.bd 24 rfl
      have by' := CB.out.bd 25 rfl
      have cs : W7.cell? ⟨w.heap.size + 1, 8, none⟩ = some (.int .i32 0) := R1.cell 8 rfl
      have fs := R1.frozen 8
      go_wp2_with fail
      refine wp_region_F' (B := w.heap.size) (n := 17) (l := #[false, false, false, false, false, false, false, false, false, false, false, false, false, false, false, false, false]) (by kernel_rfl) (by kernel_rfl) (by kernel_rfl) ?_
      refine wpAnyF_take (i := 0) (v := ?vp0_0_1) (some 81) rfl rfl (by kernel_rfl) (by kernel_rfl) (by kernel_rfl) (fun _ _ _ h => h) (by rfl) ?hvp0_0_1 ?restp0_0_1
      case hvp0_0_1 => (intro w' hb; go_simp; try with_reducible rfl)
      simp only [Act.put, List.setIfInBounds_toArray, List.set_cons_zero, List.set_cons_succ]
      refine wpAnyF_take (i := 1) (v := ?vp0_1_2) (some 82) rfl rfl (by kernel_rfl) (by kernel_rfl) (by kernel_rfl) (fun _ _ _ h => h) (by rfl) ?hvp0_1_2 ?restp0_1_2
      case hvp0_1_2 => (intro w' hb; go_simp; try with_reducible rfl)
      simp only [Act.put, List.setIfInBounds_toArray, List.set_cons_zero, List.set_cons_succ]
      refine wpAnyF_take (i := 2) (v := ?vp0_2_3) (some 83) rfl rfl (by kernel_rfl) (by kernel_rfl) (by kernel_rfl) (fun _ _ _ h => h) (by rfl) ?hvp0_2_3 ?restp0_2_3
      case hvp0_2_3 => (intro w' hb; go_simp; try with_reducible rfl)
      simp only [Act.put, List.setIfInBounds_toArray, List.set_cons_zero, List.set_cons_succ]
      refine wpAnyF_take (i := 3) (v := ?vp0_3_4) (some 84) rfl rfl (by kernel_rfl) (by kernel_rfl) (by kernel_rfl) (fun _ _ _ h => h) (by rfl) ?hvp0_3_4 ?restp0_3_4
      case hvp0_3_4 => (intro w' hb; go_simp; try with_reducible rfl)
      simp only [Act.put, List.setIfInBounds_toArray, List.set_cons_zero, List.set_cons_succ]
      refine wpAnyF_take (i := 4) (v := ?vp0_4_5) (some 85) rfl rfl (by kernel_rfl) (by kernel_rfl) (by kernel_rfl) (fun _ _ _ h => h) (by rfl) ?hvp0_4_5 ?restp0_4_5
      case hvp0_4_5 => (intro w' hb; go_simp; try with_reducible rfl)
      simp only [Act.put, List.setIfInBounds_toArray, List.set_cons_zero, List.set_cons_succ]
      refine wpAnyF_take (i := 5) (v := ?vp0_5_6) (some 86) rfl rfl (by kernel_rfl) (by kernel_rfl) (by kernel_rfl) (fun _ _ _ h => h) (by rfl) ?hvp0_5_6 ?restp0_5_6
      case hvp0_5_6 => (intro w' hb; go_simp; try with_reducible rfl)
      simp only [Act.put, List.setIfInBounds_toArray, List.set_cons_zero, List.set_cons_succ]
      refine wpAnyF_take (i := 6) (v := ?vp0_6_7) (some 87) rfl rfl (by kernel_rfl) (by kernel_rfl) (by kernel_rfl) (fun _ _ _ h => h) (by rfl) ?hvp0_6_7 ?restp0_6_7
      case hvp0_6_7 => (intro w' hb; (have hcw := CB.out.cell (hB0.trans (Below.drewl hb)) 24 rfl; go_simp; try with_reducible rfl))
      simp only [Act.put, List.setIfInBounds_toArray, List.set_cons_zero, List.set_cons_succ]
      refine wpAnyF_take (i := 7) (v := ?vp0_7_8) (some 88) rfl rfl (by kernel_rfl) (by kernel_rfl) (by kernel_rfl) (fun _ _ _ h => h) (by rfl) ?hvp0_7_8 ?restp0_7_8
      case hvp0_7_8 => (intro w' hb; go_simp; try with_reducible rfl)
      simp only [Act.put, List.setIfInBounds_toArray, List.set_cons_zero, List.set_cons_succ]
      refine wpAnyF_take (i := 8) (v := ?vp0_8_9) (some 89) rfl rfl (by kernel_rfl) (by kernel_rfl) (by kernel_rfl) (fun _ _ _ h => h) (by rfl) ?hvp0_8_9 ?restp0_8_9
      case hvp0_8_9 => (intro w' hb; go_simp; try with_reducible rfl)
      simp only [Act.put, List.setIfInBounds_toArray, List.set_cons_zero, List.set_cons_succ]
      refine wpAnyF_take (i := 9) (v := ?vp0_9_10) (some 90) rfl rfl (by kernel_rfl) (by kernel_rfl) (by kernel_rfl) (fun _ _ _ h => h) (by rfl) ?hvp0_9_10 ?restp0_9_10
      case hvp0_9_10 => (intro w' hb; go_simp; try with_reducible rfl)
      simp only [Act.put, List.setIfInBounds_toArray, List.set_cons_zero, List.set_cons_succ]
      refine wpAnyF_take (i := 10) (v := ?vp0_10_11) (some 91) rfl rfl (by kernel_rfl) (by kernel_rfl) (by kernel_rfl) (fun _ _ _ h => h) (by rfl) ?hvp0_10_11 ?restp0_10_11
      case hvp0_10_11 => (intro w' hb; go_simp; try with_reducible rfl)
      simp only [Act.put, List.setIfInBounds_toArray, List.set_cons_zero, List.set_cons_succ]
      refine wpAnyF_take (i := 11) (v := ?vp0_11_12) (some 92) rfl rfl (by kernel_rfl) (by kernel_rfl) (by kernel_rfl) (fun _ _ _ h => h) (by rfl) ?hvp0_11_12 ?restp0_11_12
      case hvp0_11_12 => (intro w' hb; go_simp; try with_reducible rfl)
      simp only [Act.put, List.setIfInBounds_toArray, List.set_cons_zero, List.set_cons_succ]
      refine wpAnyF_take (i := 12) (v := ?vp0_12_13) (some 93) rfl rfl (by kernel_rfl) (by kernel_rfl) (by kernel_rfl) (fun _ _ _ h => h) (by rfl) ?hvp0_12_13 ?restp0_12_13
      case hvp0_12_13 => (intro w' hb; (have hcw := CB.out.cell (hB0.trans (Below.drewl hb)) 25 rfl; go_simp; try with_reducible rfl))
      simp only [Act.put, List.setIfInBounds_toArray, List.set_cons_zero, List.set_cons_succ]
      refine wpAnyF_take (i := 14) (v := ?vp0_14_14) (some 95) rfl rfl (by kernel_rfl) (by kernel_rfl) (by kernel_rfl) (fun _ _ _ h => h) (by rfl) ?hvp0_14_14 ?restp0_14_14
      case hvp0_14_14 => (intro w' hb; go_simp; try with_reducible rfl)
      simp only [Act.put, List.setIfInBounds_toArray, List.set_cons_zero, List.set_cons_succ]
      refine wpAnyF_alone (i := 13) rfl (by kernel_rfl) (by rfl) (fun K hK => ?_)
      go_simp
      refine (pair_any a24 a25 _ bx by').mono ?_
      rintro e w4 ⟨rfl, rfl⟩
      refine hK.out _ _ (Below.refl _ _) ?_
      clear hK K
      simp only [List.setIfInBounds_toArray, List.set_cons_zero, List.set_cons_succ]
      refine wpAnyF_take (i := 15) (v := ?vp0_15_15) (some 96) rfl rfl (by kernel_rfl) (by kernel_rfl) (by kernel_rfl) (fun _ _ _ h => h) (by rfl) ?hvp0_15_15 ?restp0_15_15
      case hvp0_15_15 => (intro w' hb; go_simp; try with_reducible rfl)
      simp only [Act.put, List.setIfInBounds_toArray, List.set_cons_zero, List.set_cons_succ]
      refine wpAnyF_alone (i := 16) rfl (by kernel_rfl) (by rfl) (fun K hK => ?_)
      go_simp
      have hb := (Below.refl w.heap.size W7.drew).setCell (p := ⟨w.heap.size + 1, 8, none⟩) (by simp) (.int .i32 (halfI (256 * a24 + a25)))
      refine hK.out _ _ hb ?_
      clear hK K
      simp only [List.setIfInBounds_toArray, List.set_cons_zero, List.set_cons_succ]
      refine wpAnyF_done (by kernel_rfl) ?_ _
      have R1' : RB (w.heap.size + 1) [a1, 256 * a2 + a3, 256 * a4 + a5, 256 * a6 + a7, lowI (((a8 * 256 + a9) * 256 + a10) * 256 + a11), lowI (((a12 * 256 + a13) * 256 + a14) * 256 + a15), lowI (((a16 * 256 + a17) * 256 + a18) * 256 + a19), lowI (((a20 * 256 + a21) * 256 + a22) * 256 + a23), halfI (256 * a24 + a25), 0, 0] (W7.setCell ⟨w.heap.size + 1, 8, none⟩ (.int .i32 (halfI (256 * a24 + a25)))).drew := (R1.set rfl).drew
      have R0' : RB w.heap.size zeroR (W7.setCell ⟨w.heap.size + 1, 8, none⟩ (.int .i32 (halfI (256 * a24 + a25)))).drew := (R0.other (by omega)).drew
      have hB' : Below w.heap.size w (W7.setCell ⟨w.heap.size + 1, 8, none⟩ (.int .i32 (halfI (256 * a24 + a25)))).drew := (hB0.setCell (p := ⟨w.heap.size + 1, 8, none⟩) (by simp) _).drew
      clear R1 R0 hB0 cs fs bx by' hb
      generalize (W7.setCell ⟨w.heap.size + 1, 8, none⟩ (.int .i32 (halfI (256 * a24 + a25)))).drew = W8 at *
      have R1 := R1'
      have R0 := R0'
      have hB0 := hB'
      clear R1' R0' hB'
      go_wp2_with fail
      rw [rounds_succ]
      have bx := CB.out.bd 26 rfl
      have by' := CB.out.bd 27 rfl
      have cs : W8.cell? ⟨w.heap.size + 1, 9, none⟩ = some (.int .i32 0) := R1.cell 9 rfl
      have fs := R1.frozen 9
      go_wp2_with fail
      refine wp_region_F' (B := w.heap.size) (n := 17) (l := #[false, false, false, false, false, false, false, false, false, false, false, false, false, false, false, false, false]) (by kernel_rfl) (by kernel_rfl) (by kernel_rfl) ?_
      refine wpAnyF_take (i := 0) (v := ?vp1_0_1) (some 81) rfl rfl (by kernel_rfl) (by kernel_rfl) (by kernel_rfl) (fun _ _ _ h => h) (by rfl) ?hvp1_0_1 ?restp1_0_1
      case hvp1_0_1 => (intro w' hb; go_simp; try with_reducible rfl)
      simp only [Act.put, List.setIfInBounds_toArray, List.set_cons_zero, List.set_cons_succ]
      refine wpAnyF_take (i := 1) (v := ?vp1_1_2) (some 82) rfl rfl (by kernel_rfl) (by kernel_rfl) (by kernel_rfl) (fun _ _ _ h => h) (by rfl) ?hvp1_1_2 ?restp1_1_2
      case hvp1_1_2 => (intro w' hb; go_simp; try with_reducible rfl)
      simp only [Act.put, List.setIfInBounds_toArray, List.set_cons_zero, List.set_cons_succ]
      refine wpAnyF_take (i := 2) (v := ?vp1_2_3) (some 83) rfl rfl (by kernel_rfl) (by kernel_rfl) (by kernel_rfl) (fun _ _ _ h => h) (by rfl) ?hvp1_2_3 ?restp1_2_3
      case hvp1_2_3 => (intro w' hb; go_simp; try with_reducible rfl)
      simp only [Act.put, List.setIfInBounds_toArray, List.set_cons_zero, List.set_cons_succ]
      refine wpAnyF_take (i := 3) (v := ?vp1_3_4) (some 84) rfl rfl (by kernel_rfl) (by kernel_rfl) (by kernel_rfl) (fun _ _ _ h => h) (by rfl) ?hvp1_3_4 ?restp1_3_4
      case hvp1_3_4 => (intro w' hb; go_simp; try with_reducible rfl)
      simp only [Act.put, List.setIfInBounds_toArray, List.set_cons_zero, List.set_cons_succ]
      refine wpAnyF_take (i := 4) (v := ?vp1_4_5) (some 85) rfl rfl (by kernel_rfl) (by kernel_rfl) (by kernel_rfl) (fun _ _ _ h => h) (by rfl) ?hvp1_4_5 ?restp1_4_5
      case hvp1_4_5 => (intro w' hb; go_simp; try with_reducible rfl)
      simp only [Act.put, List.setIfInBounds_toArray, List.set_cons_zero, List.set_cons_succ]
      refine wpAnyF_take (i := 5) (v := ?vp1_5_6) (some 86) rfl rfl (by kernel_rfl) (by kernel_rfl) (by kernel_rfl) (fun _ _ _ h => h) (by rfl) ?hvp1_5_6 ?restp1_5_6
      case hvp1_5_6 => (intro w' hb; go_simp; try with_reducible rfl)
      simp only [Act.put, List.setIfInBounds_toArray, List.set_cons_zero, List.set_cons_succ]
      refine wpAnyF_take (i := 6) (v := ?vp1_6_7) (some 87) rfl rfl (by kernel_rfl) (by kernel_rfl) (by kernel_rfl) (fun _ _ _ h => h) (by rfl) ?hvp1_6_7 ?restp1_6_7
      case hvp1_6_7 => (intro w' hb; (have hcw := CB.out.cell (hB0.trans (Below.drewl hb)) 26 rfl; go_simp; try with_reducible rfl))
      simp only [Act.put, List.setIfInBounds_toArray, List.set_cons_zero, List.set_cons_succ]
      refine wpAnyF_take (i := 7) (v := ?vp1_7_8) (some 88) rfl rfl (by kernel_rfl) (by kernel_rfl) (by kernel_rfl) (fun _ _ _ h => h) (by rfl) ?hvp1_7_8 ?restp1_7_8
      case hvp1_7_8 => (intro w' hb; go_simp; try with_reducible rfl)
      simp only [Act.put, List.setIfInBounds_toArray, List.set_cons_zero, List.set_cons_succ]
      refine wpAnyF_take (i := 8) (v := ?vp1_8_9) (some 89) rfl rfl (by kernel_rfl) (by kernel_rfl) (by kernel_rfl) (fun _ _ _ h => h) (by rfl) ?hvp1_8_9 ?restp1_8_9
      case hvp1_8_9 => (intro w' hb; go_simp; try with_reducible rfl)
      simp only [Act.put, List.setIfInBounds_toArray, List.set_cons_zero, List.set_cons_succ]
      refine wpAnyF_take (i := 9) (v := ?vp1_9_10) (some 90) rfl rfl (by kernel_rfl) (by kernel_rfl) (by kernel_rfl) (fun _ _ _ h => h) (by rfl) ?hvp1_9_10 ?restp1_9_10
      case hvp1_9_10 => (intro w' hb; go_simp; try with_reducible rfl)
      simp only [Act.put, List.setIfInBounds_toArray, List.set_cons_zero, List.set_cons_succ]
      refine wpAnyF_take (i := 10) (v := ?vp1_10_11) (some 91) rfl rfl (by kernel_rfl) (by kernel_rfl) (by kernel_rfl) (fun _ _ _ h => h) (by rfl) ?hvp1_10_11 ?restp1_10_11
      case hvp1_10_11 => (intro w' hb; go_simp; try with_reducible rfl)
      simp only [Act.put, List.setIfInBounds_toArray, List.set_cons_zero, List.set_cons_succ]
      refine wpAnyF_take (i := 11) (v := ?vp1_11_12) (some 92) rfl rfl (by kernel_rfl) (by kernel_rfl) (by kernel_rfl) (fun _ _ _ h => h) (by rfl) ?hvp1_11_12 ?restp1_11_12
      case hvp1_11_12 => (intro w' hb; go_simp; try with_reducible rfl)
      simp only [Act.put, List.setIfInBounds_toArray, List.set_cons_zero, List.set_cons_succ]
      refine wpAnyF_take (i := 12) (v := ?vp1_12_13) (some 93) rfl rfl (by kernel_rfl) (by kernel_rfl) (by kernel_rfl) (fun _ _ _ h => h) (by rfl) ?hvp1_12_13 ?restp1_12_13
      case hvp1_12_13 => (intro w' hb; (have hcw := CB.out.cell (hB0.trans (Below.drewl hb)) 27 rfl; go_simp; try with_reducible rfl))
      simp only [Act.put, List.setIfInBounds_toArray, List.set_cons_zero, List.set_cons_succ]
      refine wpAnyF_take (i := 14) (v := ?vp1_14_14) (some 95) rfl rfl (by kernel_rfl) (by kernel_rfl) (by kernel_rfl) (fun _ _ _ h => h) (by rfl) ?hvp1_14_14 ?restp1_14_14
      case hvp1_14_14 => (intro w' hb; go_simp; try with_reducible rfl)
      simp only [Act.put, List.setIfInBounds_toArray, List.set_cons_zero, List.set_cons_succ]
      refine wpAnyF_alone (i := 13) rfl (by kernel_rfl) (by rfl) (fun K hK => ?_)
      go_simp
      refine (pair_any a26 a27 _ bx by').mono ?_
      rintro e w4 ⟨rfl, rfl⟩
      refine hK.out _ _ (Below.refl _ _) ?_
      clear hK K
      simp only [List.setIfInBounds_toArray, List.set_cons_zero, List.set_cons_succ]
      refine wpAnyF_take (i := 15) (v := ?vp1_15_15) (some 96) rfl rfl (by kernel_rfl) (by kernel_rfl) (by kernel_rfl) (fun _ _ _ h => h) (by rfl) ?hvp1_15_15 ?restp1_15_15
      case hvp1_15_15 => (intro w' hb; go_simp; try with_reducible rfl)
      simp only [Act.put, List.setIfInBounds_toArray, List.set_cons_zero, List.set_cons_succ]
      refine wpAnyF_alone (i := 16) rfl (by kernel_rfl) (by rfl) (fun K hK => ?_)
      go_simp
      have hb := (Below.refl w.heap.size W8.drew).setCell (p := ⟨w.heap.size + 1, 9, none⟩) (by simp) (.int .i32 (halfI (256 * a26 + a27)))
      refine hK.out _ _ hb ?_
      clear hK K
      simp only [List.setIfInBounds_toArray, List.set_cons_zero, List.set_cons_succ]
      refine wpAnyF_done (by kernel_rfl) ?_ _
      have R1' : RB (w.heap.size + 1) [a1, 256 * a2 + a3, 256 * a4 + a5, 256 * a6 + a7, lowI (((a8 * 256 + a9) * 256 + a10) * 256 + a11), lowI (((a12 * 256 + a13) * 256 + a14) * 256 + a15), lowI (((a16 * 256 + a17) * 256 + a18) * 256 + a19), lowI (((a20 * 256 + a21) * 256 + a22) * 256 + a23), halfI (256 * a24 + a25), halfI (256 * a26 + a27), 0] (W8.setCell ⟨w.heap.size + 1, 9, none⟩ (.int .i32 (halfI (256 * a26 + a27)))).drew := (R1.set rfl).drew
      have R0' : RB w.heap.size zeroR (W8.setCell ⟨w.heap.size + 1, 9, none⟩ (.int .i32 (halfI (256 * a26 + a27)))).drew := (R0.other (by omega)).drew
      have hB' : Below w.heap.size w (W8.setCell ⟨w.heap.size + 1, 9, none⟩ (.int .i32 (halfI (256 * a26 + a27)))).drew := (hB0.setCell (p := ⟨w.heap.size + 1, 9, none⟩) (by simp) _).drew
      clear R1 R0 hB0 cs fs bx by' hb
      generalize (W8.setCell ⟨w.heap.size + 1, 9, none⟩ (.int .i32 (halfI (256 * a26 + a27)))).drew = W9 at *
      have R1 := R1'
      have R0 := R0'
      have hB0 := hB'
      clear R1' R0' hB'
      go_wp2_with fail
      rw [rounds_succ]
      have bx := CB.out.bd 28 rfl
      have by' := CB.out.bd 29 rfl
      have cs : W9.cell? ⟨w.heap.size + 1, 10, none⟩ = some (.int .i32 0) := R1.cell 10 rfl
      have fs := R1.frozen 10
      go_wp2_with fail
      refine wp_region_F' (B := w.heap.size) (n := 17) (l := #[false, false, false, false, false, false, false, false, false, false, false, false, false, false, false, false, false]) (by kernel_rfl) (by kernel_rfl) (by kernel_rfl) ?_
      refine wpAnyF_take (i := 0) (v := ?vp2_0_1) (some 81) rfl rfl (by kernel_rfl) (by kernel_rfl) (by kernel_rfl) (fun _ _ _ h => h) (by rfl) ?hvp2_0_1 ?restp2_0_1
      case hvp2_0_1 => (intro w' hb; go_simp; try with_reducible rfl)
      simp only [Act.put, List.setIfInBounds_toArray, List.set_cons_zero, List.set_cons_succ]
      refine wpAnyF_take (i := 1) (v := ?vp2_1_2) (some 82) rfl rfl (by kernel_rfl) (by kernel_rfl) (by kernel_rfl) (fun _ _ _ h => h) (by rfl) ?hvp2_1_2 ?restp2_1_2
      case hvp2_1_2 => (intro w' hb; go_simp; try with_reducible rfl)
      simp only [Act.put, List.setIfInBounds_toArray, List.set_cons_zero, List.set_cons_succ]
      refine wpAnyF_take (i := 2) (v := ?vp2_2_3) (some 83) rfl rfl (by kernel_rfl) (by kernel_rfl) (by kernel_rfl) (fun _ _ _ h => h) (by rfl) ?hvp2_2_3 ?restp2_2_3
      case hvp2_2_3 => (intro w' hb; go_simp; try with_reducible rfl)
      simp only [Act.put, List.setIfInBounds_toArray, List.set_cons_zero, List.set_cons_succ]
      refine wpAnyF_take (i := 3) (v := ?vp2_3_4) (some 84) rfl rfl (by kernel_rfl) (by kernel_rfl) (by kernel_rfl) (fun _ _ _ h => h) (by rfl) ?hvp2_3_4 ?restp2_3_4
      case hvp2_3_4 => (intro w' hb; go_simp; try with_reducible rfl)
      simp only [Act.put, List.setIfInBounds_toArray, List.set_cons_zero, List.set_cons_succ]
      refine wpAnyF_take (i := 4) (v := ?vp2_4_5) (some 85) rfl rfl (by kernel_rfl) (by kernel_rfl) (by kernel_rfl) (fun _ _ _ h => h) (by rfl) ?hvp2_4_5 ?restp2_4_5
      case hvp2_4_5 => (intro w' hb; go_simp; try with_reducible rfl)
      simp only [Act.put, List.setIfInBounds_toArray, List.set_cons_zero, List.set_cons_succ]
      refine wpAnyF_take (i := 5) (v := ?vp2_5_6) (some 86) rfl rfl (by kernel_rfl) (by kernel_rfl) (by kernel_rfl) (fun _ _ _ h => h) (by rfl) ?hvp2_5_6 ?restp2_5_6
      case hvp2_5_6 => (intro w' hb; go_simp; try with_reducible rfl)
      simp only [Act.put, List.setIfInBounds_toArray, List.set_cons_zero, List.set_cons_succ]
      refine wpAnyF_take (i := 6) (v := ?vp2_6_7) (some 87) rfl rfl (by kernel_rfl) (by kernel_rfl) (by kernel_rfl) (fun _ _ _ h => h) (by rfl) ?hvp2_6_7 ?restp2_6_7
      case hvp2_6_7 => (intro w' hb; (have hcw := CB.out.cell (hB0.trans (Below.drewl hb)) 28 rfl; go_simp; try with_reducible rfl))
      simp only [Act.put, List.setIfInBounds_toArray, List.set_cons_zero, List.set_cons_succ]
      refine wpAnyF_take (i := 7) (v := ?vp2_7_8) (some 88) rfl rfl (by kernel_rfl) (by kernel_rfl) (by kernel_rfl) (fun _ _ _ h => h) (by rfl) ?hvp2_7_8 ?restp2_7_8
      case hvp2_7_8 => (intro w' hb; go_simp; try with_reducible rfl)
      simp only [Act.put, List.setIfInBounds_toArray, List.set_cons_zero, List.set_cons_succ]
      refine wpAnyF_take (i := 8) (v := ?vp2_8_9) (some 89) rfl rfl (by kernel_rfl) (by kernel_rfl) (by kernel_rfl) (fun _ _ _ h => h) (by rfl) ?hvp2_8_9 ?restp2_8_9
      case hvp2_8_9 => (intro w' hb; go_simp; try with_reducible rfl)
      simp only [Act.put, List.setIfInBounds_toArray, List.set_cons_zero, List.set_cons_succ]
      refine wpAnyF_take (i := 9) (v := ?vp2_9_10) (some 90) rfl rfl (by kernel_rfl) (by kernel_rfl) (by kernel_rfl) (fun _ _ _ h => h) (by rfl) ?hvp2_9_10 ?restp2_9_10
      case hvp2_9_10 => (intro w' hb; go_simp; try with_reducible rfl)
      simp only [Act.put, List.setIfInBounds_toArray, List.set_cons_zero, List.set_cons_succ]
      refine wpAnyF_take (i := 10) (v := ?vp2_10_11) (some 91) rfl rfl (by kernel_rfl) (by kernel_rfl) (by kernel_rfl) (fun _ _ _ h => h) (by rfl) ?hvp2_10_11 ?restp2_10_11
      case hvp2_10_11 => (intro w' hb; go_simp; try with_reducible rfl)
      simp only [Act.put, List.setIfInBounds_toArray, List.set_cons_zero, List.set_cons_succ]
      refine wpAnyF_take (i := 11) (v := ?vp2_11_12) (some 92) rfl rfl (by kernel_rfl) (by kernel_rfl) (by kernel_rfl) (fun _ _ _ h => h) (by rfl) ?hvp2_11_12 ?restp2_11_12
      case hvp2_11_12 => (intro w' hb; go_simp; try with_reducible rfl)
      simp only [Act.put, List.setIfInBounds_toArray, List.set_cons_zero, List.set_cons_succ]
      refine wpAnyF_take (i := 12) (v := ?vp2_12_13) (some 93) rfl rfl (by kernel_rfl) (by kernel_rfl) (by kernel_rfl) (fun _ _ _ h => h) (by rfl) ?hvp2_12_13 ?restp2_12_13
      case hvp2_12_13 => (intro w' hb; (have hcw := CB.out.cell (hB0.trans (Below.drewl hb)) 29 rfl; go_simp; try with_reducible rfl))
      simp only [Act.put, List.setIfInBounds_toArray, List.set_cons_zero, List.set_cons_succ]
      refine wpAnyF_take (i := 14) (v := ?vp2_14_14) (some 95) rfl rfl (by kernel_rfl) (by kernel_rfl) (by kernel_rfl) (fun _ _ _ h => h) (by rfl) ?hvp2_14_14 ?restp2_14_14
      case hvp2_14_14 => (intro w' hb; go_simp; try with_reducible rfl)
      simp only [Act.put, List.setIfInBounds_toArray, List.set_cons_zero, List.set_cons_succ]
      refine wpAnyF_alone (i := 13) rfl (by kernel_rfl) (by rfl) (fun K hK => ?_)
      go_simp
      refine (pair_any a28 a29 _ bx by').mono ?_
      rintro e w4 ⟨rfl, rfl⟩
      refine hK.out _ _ (Below.refl _ _) ?_
      clear hK K
      simp only [List.setIfInBounds_toArray, List.set_cons_zero, List.set_cons_succ]
      refine wpAnyF_take (i := 15) (v := ?vp2_15_15) (some 96) rfl rfl (by kernel_rfl) (by kernel_rfl) (by kernel_rfl) (fun _ _ _ h => h) (by rfl) ?hvp2_15_15 ?restp2_15_15
      case hvp2_15_15 => (intro w' hb; go_simp; try with_reducible rfl)
      simp only [Act.put, List.setIfInBounds_toArray, List.set_cons_zero, List.set_cons_succ]
      refine wpAnyF_alone (i := 16) rfl (by kernel_rfl) (by rfl) (fun K hK => ?_)
      go_simp
      have hb := (Below.refl w.heap.size W9.drew).setCell (p := ⟨w.heap.size + 1, 10, none⟩) (by simp) (.int .i32 (halfI (256 * a28 + a29)))
      refine hK.out _ _ hb ?_
      clear hK K
      simp only [List.setIfInBounds_toArray, List.set_cons_zero, List.set_cons_succ]
      refine wpAnyF_done (by kernel_rfl) ?_ _
      have R1' : RB (w.heap.size + 1) [a1, 256 * a2 + a3, 256 * a4 + a5, 256 * a6 + a7, lowI (((a8 * 256 + a9) * 256 + a10) * 256 + a11), lowI (((a12 * 256 + a13) * 256 + a14) * 256 + a15), lowI (((a16 * 256 + a17) * 256 + a18) * 256 + a19), lowI (((a20 * 256 + a21) * 256 + a22) * 256 + a23), halfI (256 * a24 + a25), halfI (256 * a26 + a27), halfI (256 * a28 + a29)] (W9.setCell ⟨w.heap.size + 1, 10, none⟩ (.int .i32 (halfI (256 * a28 + a29)))).drew := (R1.set rfl).drew
      have R0' : RB w.heap.size zeroR (W9.setCell ⟨w.heap.size + 1, 10, none⟩ (.int .i32 (halfI (256 * a28 + a29)))).drew := (R0.other (by omega)).drew
      have hB' : Below w.heap.size w (W9.setCell ⟨w.heap.size + 1, 10, none⟩ (.int .i32 (halfI (256 * a28 + a29)))).drew := (hB0.setCell (p := ⟨w.heap.size + 1, 10, none⟩) (by simp) _).drew
      clear R1 R0 hB0 cs fs bx by' hb
      generalize (W9.setCell ⟨w.heap.size + 1, 10, none⟩ (.int .i32 (halfI (256 * a28 + a29)))).drew = W10 at *
      have R1 := R1'
      have R0 := R0'
      have hB0 := hB'
      clear R1' R0' hB'
      go_wp2_with fail
      as_aux_lemma =>
        rw [rounds_succ]
        go_wp2_with (first | ((with_reducible refine at_op (.load 50 (.tmp 4)) ?_); refine wpR_load rfl (.tmp 4) rfl (w.heap.size + 1) rfl [a1, 256 * a2 + a3, 256 * a4 + a5, 256 * a6 + a7, lowI (((a8 * 256 + a9) * 256 + a10) * 256 + a11), lowI (((a12 * 256 + a13) * 256 + a14) * 256 + a15), lowI (((a16 * 256 + a17) * 256 + a18) * 256 + a19), lowI (((a20 * 256 + a21) * 256 + a22) * 256 + a23), halfI (256 * a24 + a25), halfI (256 * a26 + a27), halfI (256 * a28 + a29)] rfl _ _ R1 ?_) | ((with_reducible refine at_op (.store 50 (.tmp 2) (.tmp 98)) ?_); refine wpR_store rfl (.tmp 2) (.tmp 98) rfl w.heap.size [a1, 256 * a2 + a3, 256 * a4 + a5, 256 * a6 + a7, lowI (((a8 * 256 + a9) * 256 + a10) * 256 + a11), lowI (((a12 * 256 + a13) * 256 + a14) * 256 + a15), lowI (((a16 * 256 + a17) * 256 + a18) * 256 + a19), lowI (((a20 * 256 + a21) * 256 + a22) * 256 + a23), halfI (256 * a24 + a25), halfI (256 * a26 + a27), halfI (256 * a28 + a29)] zeroR rfl rfl rfl rfl _ R0 ?_))
        have s1 := setRow_heap W10 w.heap.size _ (rcells [a1, 256 * a2 + a3, 256 * a4 + a5, 256 * a6 + a7, lowI (((a8 * 256 + a9) * 256 + a10) * 256 + a11), lowI (((a12 * 256 + a13) * 256 + a14) * 256 + a15), lowI (((a16 * 256 + a17) * 256 + a18) * 256 + a19), lowI (((a20 * 256 + a21) * 256 + a22) * 256 + a23), halfI (256 * a24 + a25), halfI (256 * a26 + a27), halfI (256 * a28 + a29)]) _ _ R0
        have sB := below_setRow hB0 (Nat.le_refl _) (rcells [a1, 256 * a2 + a3, 256 * a4 + a5, 256 * a6 + a7, lowI (((a8 * 256 + a9) * 256 + a10) * 256 + a11), lowI (((a12 * 256 + a13) * 256 + a14) * 256 + a15), lowI (((a16 * 256 + a17) * 256 + a18) * 256 + a19), lowI (((a20 * 256 + a21) * 256 + a22) * 256 + a23), halfI (256 * a24 + a25), halfI (256 * a26 + a27), halfI (256 * a28 + a29)])
        have lv := run_loadVar_row (P := Tryd.prog) _ w.heap.size _ 50 _ _ _ s1 Tryd.underlying50 rfl (by rw [rcells_size _ rfl]; kernel_rfl)
        exact bodyPost_ret (v := .tuple #[.agg (rcells [a1, 256 * a2 + a3, 256 * a4 + a5, 256 * a6 + a7, lowI (((a8 * 256 + a9) * 256 + a10) * 256 + a11), lowI (((a12 * 256 + a13) * 256 + a14) * 256 + a15), lowI (((a16 * 256 + a17) * 256 + a18) * 256 + a19), lowI (((a20 * 256 + a21) * 256 + a22) * 256 + a23), halfI (256 * a24 + a25), halfI (256 * a26 + a27), halfI (256 * a28 + a29)]), .nilIface]) (by simp [results, Tryd.results76, asAddr, lv]) rfl ⟨rfl, sB⟩
end Go.Proofs.YtecbfegohdllbaaDoor
