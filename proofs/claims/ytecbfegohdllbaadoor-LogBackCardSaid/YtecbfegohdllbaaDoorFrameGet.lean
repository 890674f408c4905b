/- Layer 36 (frame): Get: a contract. -/
import Derived.Test.YtecbfegohdllbaaDoorFrameRead
import Derived.Laws.CopyRow
namespace Go.Proofs.YtecbfegohdllbaaDoor
open Go.RowKit
set_option linter.unusedVariables false
set_option linter.unusedSimpArgs false
set_option maxRecDepth 100000 in
set_option maxHeartbeats 4000000 in
theorem fread_bad0 (x0 x1 : Int) (b off n c : Nat) (e1 : Addr) (w : World) (hlt : b < w.heap.size) (k0 : w.cell? ⟨b, off, none⟩ = some (.int .u8 x0)) (k1 : w.cell? ⟨b, off + 1, none⟩ = some (.int .u8 x1)) (b1 : 0 ≤ x1) (b1' : x1 ≤ 255) (hn : (1 : Int) < n) (h0 : x0 ≠ 1)
    (hg : w.cell? ⟨2, 0, none⟩ = some (.iface 174 (.pointer (some e1)))) :
    Calls Tryd.prog 76 #[.slice (some ⟨b, off, none⟩) n c] w fun e w' => Below w.heap.size w w' ∧ ∃ p, e = .returned (.tuple #[.agg (rcells zeroR), .iface 144 (.pointer (some ⟨p, 0, none⟩))]) ∧ w'.cell? ⟨p, 1, none⟩ = some (.iface 174 (.pointer (some e1))) := by
  have hne : (x0 != 1) = true := by simpa using h0
  have HG := hid hg
  have HL := hid hlt
  have hn0 : (0 : Int) < n := by omega
  go_enter Tryd.func76, Tryd.ntmps76
  go_wp2_with fail
  have R0 : RB w.heap.size zeroR ((w.alloc (.cells (rcells zeroR) 50)).alloc (.cells (rcells [x1, 0, 0, 0, 0, 0, 0, 0, 0, 0, 0]) 50)) := (Below.heap_alloc _ _ _ (by simp)).trans (heap_alloc_new w _)
  have hB0 := ((Below.refl _ w).alloc (Nat.le_refl _) (.cells (rcells zeroR) 50)).alloc (by simp) (.cells (rcells [x1, 0, 0, 0, 0, 0, 0, 0, 0, 0, 0]) 50)
  have e0 : ((w.alloc (.cells (#[Value.int .i64 0, Value.int .i64 0, Value.int .i64 0, Value.int .i64 0, Value.int .i32 0, Value.int .i32 0, Value.int .i32 0, Value.int .i32 0, Value.int .i32 0, Value.int .i32 0, Value.int .i32 0] : Array Value) 50)).alloc (.cells (#[Value.int .i64 x1, Value.int .i64 0, Value.int .i64 0, Value.int .i64 0, Value.int .i32 0, Value.int .i32 0, Value.int .i32 0, Value.int .i32 0, Value.int .i32 0, Value.int .i32 0, Value.int .i32 0] : Array Value) 50)) = ((w.alloc (.cells (rcells zeroR) 50)).alloc (.cells (rcells [x1, 0, 0, 0, 0, 0, 0, 0, 0, 0, 0]) 50)) := rfl
  rw [e0]
  clear e0 k0 k1
  generalize (w.alloc (.cells (rcells zeroR) 50)).alloc (.cells (rcells [x1, 0, 0, 0, 0, 0, 0, 0, 0, 0, 0]) 50) = W0 at *
  have hs0 := lt_of_row R0
  have hglt := lt_of_cell HG.out
  have hgW := (hB0.cell (p := ⟨2, 0, none⟩) hglt).trans HG.out
  refine wp_region_F' (B := w.heap.size) (n := 7) (l := #[false, false, false, false, false, false, false]) (by kernel_rfl) (by kernel_rfl) (by kernel_rfl) ?_
  refine wpAnyF_take (i := 0) (v := ?vb0_0_1) (some 18) rfl rfl (by kernel_rfl) (by kernel_rfl) (by kernel_rfl) (fun _ _ _ h => h) (by rfl) ?hvb0_0_1 ?restb0_0_1
  case hvb0_0_1 => (intro w' hb; go_simp; try with_reducible rfl)
  simp only [Act.put, List.setIfInBounds_toArray, List.set_cons_zero, List.set_cons_succ]
  refine wpAnyF_take (i := 1) (v := ?vb0_1_2) (some 19) rfl rfl (by kernel_rfl) (by kernel_rfl) (by kernel_rfl) (fun _ _ _ h => h) (by rfl) ?hvb0_1_2 ?restb0_1_2
  case hvb0_1_2 => (intro w' hb; (have hcw := (hb.cell (p := ⟨2, 0, none⟩) hglt).trans hgW; go_simp; try with_reducible rfl))
  simp only [Act.put, List.setIfInBounds_toArray, List.set_cons_zero, List.set_cons_succ]
  refine wpAnyF_take (i := 2) (v := ?vb0_2_3) (some 20) rfl rfl (by kernel_rfl) (by kernel_rfl) (by kernel_rfl) (fun _ _ _ h => h) (by rfl) ?hvb0_2_3 ?restb0_2_3
  case hvb0_2_3 => (intro w' hb; go_simp; try with_reducible rfl)
  simp only [Act.put, List.setIfInBounds_toArray, List.set_cons_zero, List.set_cons_succ]
  refine wpAnyF_two (i := 3) (j := 5) (by kernel_rfl) rfl (by rfl) rfl (by rfl) (fun K hK => ?_) (fun K hK => ?_)
  · go_simp
    refine hK.out _ _ ⟨(((Below.refl _ _).alloc (by simp; omega) _)), ?_⟩
    clear hK K
    simp only [List.setIfInBounds_toArray, List.set_cons_zero, List.set_cons_succ]
    refine wpAnyF_take (i := 4) (v := ?vb0_4_4) (some 22) rfl rfl (by kernel_rfl) (by kernel_rfl) (by kernel_rfl) (fun _ _ _ h => h) (by rfl) ?hvb0_4_4 ?restb0_4_4
    case hvb0_4_4 => (intro w' hb; go_simp; try with_reducible rfl)
    simp only [Act.put, List.setIfInBounds_toArray, List.set_cons_zero, List.set_cons_succ]
    refine wpAnyF_alone (i := 5) rfl (by kernel_rfl) (by rfl) (fun K hK => ?_)
    refine wp_store_row 50 (.tmp 2) (.tmp 18) rfl w.heap.size (rcells zeroR) rfl rfl _ (rcells zeroR) (by first | exact R0 | exact (Below.heap_alloc _ _ _ hs0).trans R0) (by rw [rcells_size _ rfl]; kernel_rfl) rfl (rcells_one _) ?_
    rw [setRow_self _ w.heap.size (rcells zeroR) 50 (0, 0) (by first | exact R0 | exact (Below.heap_alloc _ _ _ hs0).trans R0)]
    refine hK.out _ _ (Below.refl _ _) ?_
    clear hK K
    simp only [List.setIfInBounds_toArray, List.set_cons_zero, List.set_cons_succ]
    refine wpAnyF_take (i := 6) (v := ?vb0_6_5) (some 3) rfl rfl (by kernel_rfl) (by kernel_rfl) (by kernel_rfl) (fun _ _ _ h => h) (by rfl) ?hvb0_6_5 ?restb0_6_5
    case hvb0_6_5 => (intro w' hb; go_simp; try with_reducible rfl)
    simp only [Act.put, List.setIfInBounds_toArray, List.set_cons_zero, List.set_cons_succ]
    refine wpAnyF_done (by kernel_rfl) ?_ _
    go_wp2_with fail
    have s1 : RB w.heap.size zeroR (W0.alloc (.cells #[.int .i64 0, .iface 174 (.pointer (some e1))] 146)).drew := (Below.heap_alloc _ _ _ hs0).trans R0
    have lv := run_loadVar_row (P := Tryd.prog) _ w.heap.size _ 50 _ _ _ s1 Tryd.underlying50 rfl (by rw [rcells_size _ rfl]; kernel_rfl)
    exact bodyPost_ret (v := .tuple #[.agg (rcells zeroR), .iface 144 (.pointer (some ⟨W0.heap.size, 0, none⟩))]) (by simp [results, Tryd.results76, asAddr, lv]) rfl ⟨(hB0.alloc (by omega) _).drew, W0.heap.size, rfl, (cell_of_row _ _ 1 _ _ _ (heap_alloc_new W0 _)).trans rfl⟩
  · refine wp_store_row 50 (.tmp 2) (.tmp 18) rfl w.heap.size (rcells zeroR) rfl rfl _ (rcells zeroR) (by first | exact R0 | exact (Below.heap_alloc _ _ _ hs0).trans R0) (by rw [rcells_size _ rfl]; kernel_rfl) rfl (rcells_one _) ?_
    rw [setRow_self _ w.heap.size (rcells zeroR) 50 (0, 0) (by first | exact R0 | exact (Below.heap_alloc _ _ _ hs0).trans R0)]
    refine hK.out _ _ ⟨(Below.refl _ _), ?_⟩
    clear hK K
    simp only [List.setIfInBounds_toArray, List.set_cons_zero, List.set_cons_succ]
    refine wpAnyF_alone (i := 3) rfl (by kernel_rfl) (by rfl) (fun K hK => ?_)
    go_simp
    refine hK.out _ _ (((Below.refl _ _).alloc (by simp; omega) _)) ?_
    clear hK K
    simp only [List.setIfInBounds_toArray, List.set_cons_zero, List.set_cons_succ]
    refine wpAnyF_take (i := 4) (v := ?vb0_4_6) (some 22) rfl rfl (by kernel_rfl) (by kernel_rfl) (by kernel_rfl) (fun _ _ _ h => h) (by rfl) ?hvb0_4_6 ?restb0_4_6
    case hvb0_4_6 => (intro w' hb; go_simp; try with_reducible rfl)
    simp only [Act.put, List.setIfInBounds_toArray, List.set_cons_zero, List.set_cons_succ]
    refine wpAnyF_take (i := 6) (v := ?vb0_6_7) (some 3) rfl rfl (by kernel_rfl) (by kernel_rfl) (by kernel_rfl) (fun _ _ _ h => h) (by rfl) ?hvb0_6_7 ?restb0_6_7
    case hvb0_6_7 => (intro w' hb; go_simp; try with_reducible rfl)
    simp only [Act.put, List.setIfInBounds_toArray, List.set_cons_zero, List.set_cons_succ]
    refine wpAnyF_done (by kernel_rfl) ?_ _
    go_wp2_with fail
    have s1 : RB w.heap.size zeroR (W0.alloc (.cells #[.int .i64 0, .iface 174 (.pointer (some e1))] 146)).drew := (Below.heap_alloc _ _ _ hs0).trans R0
    have lv := run_loadVar_row (P := Tryd.prog) _ w.heap.size _ 50 _ _ _ s1 Tryd.underlying50 rfl (by rw [rcells_size _ rfl]; kernel_rfl)
    exact bodyPost_ret (v := .tuple #[.agg (rcells zeroR), .iface 144 (.pointer (some ⟨W0.heap.size, 0, none⟩))]) (by simp [results, Tryd.results76, asAddr, lv]) rfl ⟨(hB0.alloc (by omega) _).drew, W0.heap.size, rfl, (cell_of_row _ _ 1 _ _ _ (heap_alloc_new W0 _)).trans rfl⟩
set_option maxRecDepth 100000 in
set_option maxHeartbeats 4000000 in
theorem fread_bad1 (x0 x1 : Int) (b off n c : Nat) (e1 : Addr) (w : World) (hlt : b < w.heap.size) (k0 : w.cell? ⟨b, off, none⟩ = some (.int .u8 x0)) (k1 : w.cell? ⟨b, off + 1, none⟩ = some (.int .u8 x1)) (b1 : 0 ≤ x1) (b1' : x1 ≤ 255) (hn : (1 : Int) < n) (h0 : x0 = 1) (h1 : 15 < x1)
    (hg : w.cell? ⟨2, 0, none⟩ = some (.iface 174 (.pointer (some e1)))) :
    Calls Tryd.prog 76 #[.slice (some ⟨b, off, none⟩) n c] w fun e w' => Below w.heap.size w w' ∧ ∃ p, e = .returned (.tuple #[.agg (rcells zeroR), .iface 144 (.pointer (some ⟨p, 0, none⟩))]) ∧ w'.cell? ⟨p, 1, none⟩ = some (.iface 174 (.pointer (some e1))) := by
  subst h0
  have AN : (bits .andNot .i64 x1 15 != 0) = true := by
    have := andnot_zero x1 (by omega) 4 (by decide) 15 (by decide)
    have h : ¬ bits .andNot .i64 x1 15 = 0 := fun h => by have := (this.1 h).2; omega
    simpa using h
  have HG := hid hg
  have HL := hid hlt
  have hn0 : (0 : Int) < n := by omega
  go_enter Tryd.func76, Tryd.ntmps76
  go_wp2_with fail
  have R0 : RB w.heap.size zeroR ((w.alloc (.cells (rcells zeroR) 50)).alloc (.cells (rcells [x1, 0, 0, 0, 0, 0, 0, 0, 0, 0, 0]) 50)) := (Below.heap_alloc _ _ _ (by simp)).trans (heap_alloc_new w _)
  have hB0 := ((Below.refl _ w).alloc (Nat.le_refl _) (.cells (rcells zeroR) 50)).alloc (by simp) (.cells (rcells [x1, 0, 0, 0, 0, 0, 0, 0, 0, 0, 0]) 50)
  have e0 : ((w.alloc (.cells (#[Value.int .i64 0, Value.int .i64 0, Value.int .i64 0, Value.int .i64 0, Value.int .i32 0, Value.int .i32 0, Value.int .i32 0, Value.int .i32 0, Value.int .i32 0, Value.int .i32 0, Value.int .i32 0] : Array Value) 50)).alloc (.cells (#[Value.int .i64 x1, Value.int .i64 0, Value.int .i64 0, Value.int .i64 0, Value.int .i32 0, Value.int .i32 0, Value.int .i32 0, Value.int .i32 0, Value.int .i32 0, Value.int .i32 0, Value.int .i32 0] : Array Value) 50)) = ((w.alloc (.cells (rcells zeroR) 50)).alloc (.cells (rcells [x1, 0, 0, 0, 0, 0, 0, 0, 0, 0, 0]) 50)) := rfl
  rw [e0]
  clear e0 k0 k1
  generalize (w.alloc (.cells (rcells zeroR) 50)).alloc (.cells (rcells [x1, 0, 0, 0, 0, 0, 0, 0, 0, 0, 0]) 50) = W0 at *
  have hs0 := lt_of_row R0
  have hglt := lt_of_cell HG.out
  have hgW := (hB0.cell (p := ⟨2, 0, none⟩) hglt).trans HG.out
  refine wp_region_F' (B := w.heap.size) (n := 7) (l := #[false, false, false, false, false, false, false]) (by kernel_rfl) (by kernel_rfl) (by kernel_rfl) ?_
  refine wpAnyF_take (i := 0) (v := ?vb1_0_1) (some 27) rfl rfl (by kernel_rfl) (by kernel_rfl) (by kernel_rfl) (fun _ _ _ h => h) (by rfl) ?hvb1_0_1 ?restb1_0_1
  case hvb1_0_1 => (intro w' hb; go_simp; try with_reducible rfl)
  simp only [Act.put, List.setIfInBounds_toArray, List.set_cons_zero, List.set_cons_succ]
  refine wpAnyF_take (i := 1) (v := ?vb1_1_2) (some 28) rfl rfl (by kernel_rfl) (by kernel_rfl) (by kernel_rfl) (fun _ _ _ h => h) (by rfl) ?hvb1_1_2 ?restb1_1_2
  case hvb1_1_2 => (intro w' hb; (have hcw := (hb.cell (p := ⟨2, 0, none⟩) hglt).trans hgW; go_simp; try with_reducible rfl))
  simp only [Act.put, List.setIfInBounds_toArray, List.set_cons_zero, List.set_cons_succ]
  refine wpAnyF_take (i := 2) (v := ?vb1_2_3) (some 29) rfl rfl (by kernel_rfl) (by kernel_rfl) (by kernel_rfl) (fun _ _ _ h => h) (by rfl) ?hvb1_2_3 ?restb1_2_3
  case hvb1_2_3 => (intro w' hb; go_simp; try with_reducible rfl)
  simp only [Act.put, List.setIfInBounds_toArray, List.set_cons_zero, List.set_cons_succ]
  refine wpAnyF_two (i := 3) (j := 5) (by kernel_rfl) rfl (by rfl) rfl (by rfl) (fun K hK => ?_) (fun K hK => ?_)
  · go_simp
    refine hK.out _ _ ⟨(((Below.refl _ _).alloc (by simp; omega) _)), ?_⟩
    clear hK K
    simp only [List.setIfInBounds_toArray, List.set_cons_zero, List.set_cons_succ]
    refine wpAnyF_take (i := 4) (v := ?vb1_4_4) (some 31) rfl rfl (by kernel_rfl) (by kernel_rfl) (by kernel_rfl) (fun _ _ _ h => h) (by rfl) ?hvb1_4_4 ?restb1_4_4
    case hvb1_4_4 => (intro w' hb; go_simp; try with_reducible rfl)
    simp only [Act.put, List.setIfInBounds_toArray, List.set_cons_zero, List.set_cons_succ]
    refine wpAnyF_alone (i := 5) rfl (by kernel_rfl) (by rfl) (fun K hK => ?_)
    refine wp_store_row 50 (.tmp 2) (.tmp 27) rfl w.heap.size (rcells zeroR) rfl rfl _ (rcells zeroR) (by first | exact R0 | exact (Below.heap_alloc _ _ _ hs0).trans R0) (by rw [rcells_size _ rfl]; kernel_rfl) rfl (rcells_one _) ?_
    rw [setRow_self _ w.heap.size (rcells zeroR) 50 (0, 0) (by first | exact R0 | exact (Below.heap_alloc _ _ _ hs0).trans R0)]
    refine hK.out _ _ (Below.refl _ _) ?_
    clear hK K
    simp only [List.setIfInBounds_toArray, List.set_cons_zero, List.set_cons_succ]
    refine wpAnyF_take (i := 6) (v := ?vb1_6_5) (some 3) rfl rfl (by kernel_rfl) (by kernel_rfl) (by kernel_rfl) (fun _ _ _ h => h) (by rfl) ?hvb1_6_5 ?restb1_6_5
    case hvb1_6_5 => (intro w' hb; go_simp; try with_reducible rfl)
    simp only [Act.put, List.setIfInBounds_toArray, List.set_cons_zero, List.set_cons_succ]
    refine wpAnyF_done (by kernel_rfl) ?_ _
    go_wp2_with fail
    have s1 : RB w.heap.size zeroR (W0.alloc (.cells #[.int .i64 1, .iface 174 (.pointer (some e1))] 146)).drew := (Below.heap_alloc _ _ _ hs0).trans R0
    have lv := run_loadVar_row (P := Tryd.prog) _ w.heap.size _ 50 _ _ _ s1 Tryd.underlying50 rfl (by rw [rcells_size _ rfl]; kernel_rfl)
    exact bodyPost_ret (v := .tuple #[.agg (rcells zeroR), .iface 144 (.pointer (some ⟨W0.heap.size, 0, none⟩))]) (by simp [results, Tryd.results76, asAddr, lv]) rfl ⟨(hB0.alloc (by omega) _).drew, W0.heap.size, rfl, (cell_of_row _ _ 1 _ _ _ (heap_alloc_new W0 _)).trans rfl⟩
  · refine wp_store_row 50 (.tmp 2) (.tmp 27) rfl w.heap.size (rcells zeroR) rfl rfl _ (rcells zeroR) (by first | exact R0 | exact (Below.heap_alloc _ _ _ hs0).trans R0) (by rw [rcells_size _ rfl]; kernel_rfl) rfl (rcells_one _) ?_
    rw [setRow_self _ w.heap.size (rcells zeroR) 50 (0, 0) (by first | exact R0 | exact (Below.heap_alloc _ _ _ hs0).trans R0)]
    refine hK.out _ _ ⟨(Below.refl _ _), ?_⟩
    clear hK K
    simp only [List.setIfInBounds_toArray, List.set_cons_zero, List.set_cons_succ]
    refine wpAnyF_alone (i := 3) rfl (by kernel_rfl) (by rfl) (fun K hK => ?_)
    go_simp
    refine hK.out _ _ (((Below.refl _ _).alloc (by simp; omega) _)) ?_
    clear hK K
    simp only [List.setIfInBounds_toArray, List.set_cons_zero, List.set_cons_succ]
    refine wpAnyF_take (i := 4) (v := ?vb1_4_6) (some 31) rfl rfl (by kernel_rfl) (by kernel_rfl) (by kernel_rfl) (fun _ _ _ h => h) (by rfl) ?hvb1_4_6 ?restb1_4_6
    case hvb1_4_6 => (intro w' hb; go_simp; try with_reducible rfl)
    simp only [Act.put, List.setIfInBounds_toArray, List.set_cons_zero, List.set_cons_succ]
    refine wpAnyF_take (i := 6) (v := ?vb1_6_7) (some 3) rfl rfl (by kernel_rfl) (by kernel_rfl) (by kernel_rfl) (fun _ _ _ h => h) (by rfl) ?hvb1_6_7 ?restb1_6_7
    case hvb1_6_7 => (intro w' hb; go_simp; try with_reducible rfl)
    simp only [Act.put, List.setIfInBounds_toArray, List.set_cons_zero, List.set_cons_succ]
    refine wpAnyF_done (by kernel_rfl) ?_ _
    go_wp2_with fail
    have s1 : RB w.heap.size zeroR (W0.alloc (.cells #[.int .i64 1, .iface 174 (.pointer (some e1))] 146)).drew := (Below.heap_alloc _ _ _ hs0).trans R0
    have lv := run_loadVar_row (P := Tryd.prog) _ w.heap.size _ 50 _ _ _ s1 Tryd.underlying50 rfl (by rw [rcells_size _ rfl]; kernel_rfl)
    exact bodyPost_ret (v := .tuple #[.agg (rcells zeroR), .iface 144 (.pointer (some ⟨W0.heap.size, 0, none⟩))]) (by simp [results, Tryd.results76, asAddr, lv]) rfl ⟨(hB0.alloc (by omega) _).drew, W0.heap.size, rfl, (cell_of_row _ _ 1 _ _ _ (heap_alloc_new W0 _)).trans rfl⟩
theorem reads_bytes {v : Value} {L : List Int} {w : World} (hr : Reads .u8 w v L) (hl : 0 < L.length) : ∃ b off c, v = .slice (some ⟨b, off, none⟩) L.length c ∧ L.length ≤ c ∧ c ≤ maxLen ∧ BytesAt b off L w := by
  have hwf := Reads.wf hr
  obtain ⟨b, off, c, rfl, h1, h2, h3, h4⟩ := hr.plain hl
  refine ⟨b, off, c, rfl, h1, h2, h3, fun i x hx => ?_⟩
  obtain ⟨hi, rfl⟩ := List.getElem?_eq_some_iff.1 hx
  exact ⟨h4 i hi, bd_u8 (hwf _ (List.getElem_mem hi))⟩
theorem getR_take (L : List Int) : getR (L.take 30) = getR L := by
  have e : ∀ i, i < 30 → (L.take 30).getD i 0 = L.getD i 0 := fun i hi => by simp [List.getD, List.getElem?_take, hi]
  simp only [getR, e 1 (by decide), e 2 (by decide), e 3 (by decide), e 4 (by decide), e 5 (by decide), e 6 (by decide), e 7 (by decide), e 8 (by decide), e 9 (by decide), e 10 (by decide), e 11 (by decide), e 12 (by decide), e 13 (by decide), e 14 (by decide), e 15 (by decide), e 16 (by decide), e 17 (by decide), e 18 (by decide), e 19 (by decide), e 20 (by decide), e 21 (by decide), e 22 (by decide), e 23 (by decide), e 24 (by decide), e 25 (by decide), e 26 (by decide), e 27 (by decide), e 28 (by decide), e 29 (by decide)]
theorem zero_rcells : rcells zeroR = #[.int .i64 0, .int .i64 0, .int .i64 0, .int .i64 0, .int .i32 0, .int .i32 0, .int .i32 0, .int .i32 0, .int .i32 0, .int .i32 0, .int .i32 0] := rfl
theorem getR_len (L : List Int) : (getR L).length = 11 := rfl
set_option maxRecDepth 100000 in
theorem fget_short (a : Option Addr) (n c : Nat) (w : World) (hn : n < 32) (hm : n ≤ 9223372036854775807) :
    Calls Tryd.prog 39 #[.slice a n c] w fun e w' => e = .returned (.tuple #[.agg (rcells zeroR), .int .i64 4]) ∧ Below w.heap.size w w' := by
  rw [zero_rcells]
  go_enter Tryd.func39, Tryd.ntmps39
  go_wp2
  exact bodyPost_ret (v := .tuple #[.agg (#[Value.int .i64 0, Value.int .i64 0, Value.int .i64 0, Value.int .i64 0, Value.int .i32 0, Value.int .i32 0, Value.int .i32 0, Value.int .i32 0, Value.int .i32 0, Value.int .i32 0, Value.int .i32 0] : Array Value), .int .i64 4]) (by simp [results, Tryd.results39, go_sem]) rfl ⟨rfl, (Below.refl _ w).alloc (Nat.le_refl _) _⟩
set_option maxRecDepth 100000 in
theorem fget_long (a : Option Addr) (n c : Nat) (w : World) (hn : 32 < n) (hm : n ≤ 9223372036854775807) :
    Calls Tryd.prog 39 #[.slice a n c] w fun e w' => e = .returned (.tuple #[.agg (rcells zeroR), .int .i64 5]) ∧ Below w.heap.size w w' := by
  rw [zero_rcells]
  go_enter Tryd.func39, Tryd.ntmps39
  go_wp2
  exact bodyPost_ret (v := .tuple #[.agg (#[Value.int .i64 0, Value.int .i64 0, Value.int .i64 0, Value.int .i64 0, Value.int .i32 0, Value.int .i32 0, Value.int .i32 0, Value.int .i32 0, Value.int .i32 0, Value.int .i32 0, Value.int .i32 0] : Array Value), .int .i64 5]) (by simp [results, Tryd.results39, go_sem]) rfl ⟨rfl, (Below.refl _ w).alloc (Nat.le_refl _) _⟩
set_option maxRecDepth 100000 in
set_option maxHeartbeats 1000000 in
theorem fget_sum (v : Value) (L : List Int) (a0 a1 : Addr) (w : World) (hr : Reads .u8 w v L) (h4 : Four w) (E : ErrsAt w a0 a1) (hL : L.length = 32) (hbad : L ≠ sealL (L.take 30)) :
    Calls Tryd.prog 39 #[v] w fun e w' => e = .returned (.tuple #[.agg (rcells zeroR), .int .i64 7]) ∧ Below w.heap.size w w' := by
  have hB1 := (Below.refl w.heap.size w).alloc (Nat.le_refl _) (.cells (rcells zeroR) 50)
  have R0 : RB w.heap.size zeroR (w.alloc (.cells (rcells zeroR) 50)) := heap_alloc_new w _
  have hr1 := hid (hr.later hB1)
  have F1 := hid (h4.later hB1)
  have E1 := hid (E.later hB1)
  have HL := hid hL
  obtain ⟨a, c, rfl, -, -, -, -, -⟩ := id hr
  rw [hL] at hr1 ⊢
  clear hr h4 E hL
  go_enter Tryd.func39, Tryd.ntmps39
  go_wp2_with fail
  rw [show w.alloc (.cells (#[Value.int .i64 0, Value.int .i64 0, Value.int .i64 0, Value.int .i64 0, Value.int .i32 0, Value.int .i32 0, Value.int .i32 0, Value.int .i32 0, Value.int .i32 0, Value.int .i32 0, Value.int .i32 0] : Array Value) 50) = w.alloc (.cells (rcells zeroR) 50) from rfl]
  generalize w.alloc (.cells (rcells zeroR) 50) = W1 at *
  refine (open_bad _ L 30 HL.out W1 hr1.out F1.out hbad).mono ?_
  rintro e W2 ⟨rfl, hb2⟩
  have R2 := R0.later hb2
  have hB2 := hB1.trans (hb2.mono hB1.size)
  clear hr1 F1 E1 HL hbad
  go_wp2_with (first | ((with_reducible refine at_op (.store 50 (.tmp 2) (.tmp 26)) ?_); refine wpR_store rfl (.tmp 2) (.tmp 26) rfl w.heap.size zeroR zeroR rfl rfl rfl rfl _ R2 ?_))
  rw [setRow_self _ w.heap.size (rcells zeroR) 50 (0, 0) R2]
  have lv := run_loadVar_row (P := Tryd.prog) _ w.heap.size _ 50 _ _ _ R2 Tryd.underlying50 rfl (by rw [rcells_size _ rfl]; kernel_rfl)
  exact bodyPost_ret (v := .tuple #[.agg (rcells zeroR), .int .i64 7]) (by simp [results, Tryd.results39, asAddr, lv]) rfl ⟨rfl, hB2⟩
set_option maxRecDepth 100000 in
set_option maxHeartbeats 1000000 in
theorem fget_form (v : Value) (L : List Int) (a0 a1 : Addr) (w : World) (hr : Reads .u8 w v L) (h4 : Four w) (E : ErrsAt w a0 a1) (hL : L.length = 32) (hok : L = sealL (L.take 30)) (hform : L.getD 0 0 ≠ 1 ∨ 15 < L.getD 1 0) :
    Calls Tryd.prog 39 #[v] w fun e w' => e = .returned (.tuple #[.agg (rcells zeroR), .int .i64 3]) ∧ Below w.heap.size w w' := by
  have hwf := Reads.wf hr
  have hB1 := (Below.refl w.heap.size w).alloc (Nat.le_refl _) (.cells (rcells zeroR) 50)
  have R0 : RB w.heap.size zeroR (w.alloc (.cells (rcells zeroR) 50)) := heap_alloc_new w _
  have hr1 := hid (hr.later hB1)
  have F1 := hid (h4.later hB1)
  have E1 := hid (E.later hB1)
  have HL := hid hL
  obtain ⟨a, c, rfl, -, -, -, -, -⟩ := id hr
  rw [hL] at hr1 ⊢
  clear hr h4 E hL
  go_enter Tryd.func39, Tryd.ntmps39
  go_wp2_with fail
  rw [show w.alloc (.cells (#[Value.int .i64 0, Value.int .i64 0, Value.int .i64 0, Value.int .i64 0, Value.int .i32 0, Value.int .i32 0, Value.int .i32 0, Value.int .i32 0, Value.int .i32 0, Value.int .i32 0, Value.int .i32 0] : Array Value) 50) = w.alloc (.cells (rcells zeroR) 50) from rfl]
  generalize w.alloc (.cells (rcells zeroR) 50) = W1 at *
  refine (open_ok _ L 30 HL.out W1 hr1.out F1.out hok (by have := HL.out; omega)).mono ?_
  rintro e W2 ⟨v2, rfl, hb2, hown2⟩
  have R2 := R0.later hb2
  have hB2 := hB1.trans (hb2.mono hB1.size)
  have hr2 := reads_of_owns hown2 (fun x hx => hwf x (List.mem_of_mem_take hx))
  have hlt2 : (L.take 30).length = 30 := by have := HL.out; simp; omega
  obtain ⟨b2, o2, c2, rfl, hc2, -, HB2⟩ := reads_bytes hr2 (by omega)
  have E2 := E1.out.later hb2
  rw [hlt2] at hc2 ⊢
  have g0 : (L.take 30)[0]? = some (L.getD 0 0) := by have := HL.out; simp [List.getElem?_take, List.getD, List.getElem?_eq_getElem (show 0 < L.length by omega)]
  have g1 : (L.take 30)[1]? = some (L.getD 1 0) := by have := HL.out; simp [List.getElem?_take, List.getD, List.getElem?_eq_getElem (show 1 < L.length by omega)]
  generalize L.getD 0 0 = x0 at *
  generalize L.getD 1 0 = x1 at *
  have k0 := (HB2.2 0 x0 g0).1
  rw [Nat.add_zero] at k0
  have k1 := (HB2.2 1 x1 g1).1
  have b1 := HB2.bd 1 g1
  have RD : Calls Tryd.prog 76 #[.slice (some ⟨b2, o2, none⟩) 30 c2] W2 fun e w' => Below W2.heap.size W2 w' ∧ ∃ p, e = .returned (.tuple #[.agg (rcells zeroR), .iface 144 (.pointer (some ⟨p, 0, none⟩))]) ∧ w'.cell? ⟨p, 1, none⟩ = some (.iface 174 (.pointer (some a1))) := by
    by_cases h0 : x0 = 1
    · exact fread_bad1 x0 x1 b2 o2 30 c2 a1 W2 HB2.1 k0 k1 b1.1 b1.2 (by decide) h0 (by rcases hform with h | h; exact absurd h0 h; exact h) E2.2.1
    · exact fread_bad0 x0 x1 b2 o2 30 c2 a1 W2 HB2.1 k0 k1 b1.1 b1.2 (by decide) h0 E2.2.1
  clear hr1 F1 E1 HL hok hwf hform hown2 hr2 HB2 g0 g1 k0 k1 b1 hlt2
  go_wp2_with fail
  refine RD.mono ?_
  rintro e W3 ⟨hb3, p, rfl, hp⟩
  have R3 := R2.later hb3
  have hB3 := hB2.trans (hb3.mono hB2.size)
  have E3 := E2.later hb3
  have hB4 := hB3.alloc hB3.size (.cells (rcells zeroR) 50)
  have R4 : RB w.heap.size zeroR (W3.alloc (.cells (rcells zeroR) 50)) := (Below.heap_alloc _ _ _ (lt_of_row R3)).trans R3
  have hb34 := (Below.refl W3.heap.size W3).alloc (Nat.le_refl _) (.cells (rcells zeroR) 50)
  have NF := hid (num_form p a0 a1 _ (E3.later hb34) ((hb34.cell (lt_of_cell hp)).trans hp))
  clear RD hb3 E2 E3 hp
  go_wp2_with (first | ((with_reducible refine at_op (.store 50 (.tmp 6) (.tmp 31)) ?_); refine wpR_store rfl (.tmp 6) (.tmp 31) rfl W3.heap.size zeroR zeroR rfl rfl rfl rfl _ (heap_alloc_new W3 _) ?_))
  rw [show W3.alloc (.cells (#[Value.int .i64 0, Value.int .i64 0, Value.int .i64 0, Value.int .i64 0, Value.int .i32 0, Value.int .i32 0, Value.int .i32 0, Value.int .i32 0, Value.int .i32 0, Value.int .i32 0, Value.int .i32 0] : Array Value) 50) = W3.alloc (.cells (rcells zeroR) 50) from rfl]
  rw [setRow_self _ W3.heap.size (rcells zeroR) 50 (0, 0) (heap_alloc_new W3 _)]
  generalize W3.alloc (.cells (rcells zeroR) 50) = W4 at *
  refine NF.out.mono ?_
  rintro e W5 ⟨rfl, rfl⟩
  clear NF hb34
  go_wp2_with (first | ((with_reducible refine at_op (.store 50 (.tmp 2) (.tmp 37)) ?_); refine wpR_store rfl (.tmp 2) (.tmp 37) rfl w.heap.size zeroR zeroR rfl rfl rfl rfl _ R4 ?_))
  rw [setRow_self _ w.heap.size (rcells zeroR) 50 (0, 0) R4]
  have lv := run_loadVar_row (P := Tryd.prog) _ w.heap.size _ 50 _ _ _ R4 Tryd.underlying50 rfl (by rw [rcells_size _ rfl]; kernel_rfl)
  exact bodyPost_ret (v := .tuple #[.agg (rcells zeroR), .int .i64 3]) (by simp [results, Tryd.results39, asAddr, lv]) rfl ⟨rfl, hB4⟩
theorem read_ok (Y : List Int) (hY : Y.length = 30) (b off c : Nat) (w : World) (H : BytesAt b off Y w) (hc : 30 ≤ c) (h0 : Y.getD 0 0 = 1) (h1 : Y.getD 1 0 ≤ 15) :
    Calls Tryd.prog 76 #[.slice (some ⟨b, off, none⟩) 30 c] w fun e w' => e = .returned (.tuple #[.agg (rcells (getR Y)), .nilIface]) ∧ Below w.heap.size w w' := by
  obtain ⟨a0, a1, a2, a3, a4, a5, a6, a7, a8, a9, a10, a11, a12, a13, a14, a15, a16, a17, a18, a19, a20, a21, a22, a23, a24, a25, a26, a27, a28, a29, rfl⟩ := thirty_list Y hY
  exact fread_ok a0 a1 a2 a3 a4 a5 a6 a7 a8 a9 a10 a11 a12 a13 a14 a15 a16 a17 a18 a19 a20 a21 a22 a23 a24 a25 a26 a27 a28 a29 b off c w H hc h0 h1
set_option maxRecDepth 100000 in
set_option maxHeartbeats 1000000 in
theorem fget_ok (v : Value) (L : List Int) (a0 a1 : Addr) (w : World) (hr : Reads .u8 w v L) (h4 : Four w) (E : ErrsAt w a0 a1) (hL : L.length = 32) (hok : L = sealL (L.take 30)) (h0 : L.getD 0 0 = 1) (h1 : L.getD 1 0 ≤ 15) :
    Calls Tryd.prog 39 #[v] w fun e w' => e = .returned (.tuple #[.agg (rcells (getR L)), .int .i64 0]) ∧ Below w.heap.size w w' := by
  have hwf := Reads.wf hr
  have hB1 := (Below.refl w.heap.size w).alloc (Nat.le_refl _) (.cells (rcells zeroR) 50)
  have R0 : RB w.heap.size zeroR (w.alloc (.cells (rcells zeroR) 50)) := heap_alloc_new w _
  have hr1 := hid (hr.later hB1)
  have F1 := hid (h4.later hB1)
  have E1 := hid (E.later hB1)
  have HL := hid hL
  obtain ⟨a, c, rfl, -, -, -, -, -⟩ := id hr
  rw [hL] at hr1 ⊢
  clear hr h4 E hL
  go_enter Tryd.func39, Tryd.ntmps39
  go_wp2_with fail
  rw [show w.alloc (.cells (#[Value.int .i64 0, Value.int .i64 0, Value.int .i64 0, Value.int .i64 0, Value.int .i32 0, Value.int .i32 0, Value.int .i32 0, Value.int .i32 0, Value.int .i32 0, Value.int .i32 0, Value.int .i32 0] : Array Value) 50) = w.alloc (.cells (rcells zeroR) 50) from rfl]
  generalize w.alloc (.cells (rcells zeroR) 50) = W1 at *
  refine (open_ok _ L 30 HL.out W1 hr1.out F1.out hok (by have := HL.out; omega)).mono ?_
  rintro e W2 ⟨v2, rfl, hb2, hown2⟩
  have R2 := R0.later hb2
  have hB2 := hB1.trans (hb2.mono hB1.size)
  have hr2 := reads_of_owns hown2 (fun x hx => hwf x (List.mem_of_mem_take hx))
  have hlt2 : (L.take 30).length = 30 := by have := HL.out; simp; omega
  obtain ⟨b2, o2, c2, rfl, hc2, -, HB2⟩ := reads_bytes hr2 (by omega)
  rw [hlt2] at hc2 ⊢
  have g0 : (L.take 30).getD 0 0 = 1 := by simpa [List.getD, List.getElem?_take] using h0
  have g1 : (L.take 30).getD 1 0 ≤ 15 := by simpa [List.getD, List.getElem?_take] using h1
  have RD := read_ok (L.take 30) hlt2 b2 o2 c2 W2 HB2 hc2 g0 g1
  rw [getR_take] at RD
  clear hr1 F1 E1 HL hok hwf hown2 hr2 HB2 g0 g1 h0 h1 hlt2
  generalize hZ : getR L = Z at RD
  have HZ : Z.length = 11 := by rw [← hZ]; rfl
  have HE := hid hZ
  clear hZ
  go_wp2_with fail
  refine RD.mono ?_
  rintro e W3 ⟨rfl, hb3⟩
  have R3 := R2.later hb3
  have hB3 := hB2.trans (hb3.mono hB2.size)
  have hB4 := below_setRow (hB3.alloc hB3.size (.cells (rcells zeroR) 50)) hB3.size (rcells Z)
  have R4 : RB w.heap.size zeroR ((W3.alloc (.cells (rcells zeroR) 50)).setRow W3.heap.size (rcells Z)) := (setRow_other _ _ _ _ (by have := lt_of_row R3; omega)).trans ((Below.heap_alloc _ _ _ (lt_of_row R3)).trans R3)
  have Q4 : RB W3.heap.size Z ((W3.alloc (.cells (rcells zeroR) 50)).setRow W3.heap.size (rcells Z)) := setRow_heap _ _ _ _ _ _ (heap_alloc_new W3 _)
  clear RD hb3
  go_wp2_with (first | ((with_reducible refine at_op (.store 50 (.tmp 6) (.tmp 31)) ?_); refine wpR_store rfl (.tmp 6) (.tmp 31) rfl W3.heap.size Z zeroR HZ rfl rfl rfl _ (heap_alloc_new W3 _) ?_))
  rw [show W3.alloc (.cells (#[Value.int .i64 0, Value.int .i64 0, Value.int .i64 0, Value.int .i64 0, Value.int .i32 0, Value.int .i32 0, Value.int .i32 0, Value.int .i32 0, Value.int .i32 0, Value.int .i32 0, Value.int .i32 0] : Array Value) 50) = W3.alloc (.cells (rcells zeroR) 50) from rfl]
  generalize (W3.alloc (.cells (rcells zeroR) 50)).setRow W3.heap.size (rcells Z) = W4 at *
  refine (num_nil W4).mono ?_
  rintro e W5 ⟨rfl, rfl⟩
  go_wp2_with (first | ((with_reducible refine at_op (.load 50 (.tmp 6)) ?_); refine wpR_load rfl (.tmp 6) rfl W3.heap.size rfl Z HZ _ _ Q4 ?_) | ((with_reducible refine at_op (.store 50 (.tmp 2) (.tmp 39)) ?_); refine wpR_store rfl (.tmp 2) (.tmp 39) rfl w.heap.size Z zeroR HZ rfl rfl rfl _ R4 ?_))
  have s1 := setRow_heap W4 w.heap.size _ (rcells Z) _ _ R4
  have sB := below_setRow hB4 (Nat.le_refl _) (rcells Z)
  have lv := run_loadVar_row (P := Tryd.prog) _ w.heap.size _ 50 _ _ _ s1 Tryd.underlying50 rfl (by rw [rcells_size _ HZ]; kernel_rfl)
  exact bodyPost_ret (v := .tuple #[.agg (rcells Z), .int .i64 0]) (by simp [results, Tryd.results39, asAddr, lv]) rfl ⟨by rw [HE.out], sB⟩
theorem fget_any (v : Value) (L : List Int) (a0 a1 : Addr) (w : World) (hr : Reads .u8 w v L) (h4 : Four w) (E : ErrsAt w a0 a1) :
    Calls Tryd.prog 39 #[v] w fun e w' => e = .returned (.tuple #[.agg (rcells (gotR L)), .int .i64 (getE L)]) ∧ Below w.heap.size w w' := by
  have hm : L.length ≤ 9223372036854775807 := by
    obtain ⟨_, _, _, h1, h2, _⟩ := id hr
    unfold maxLen at h2; omega
  by_cases g1 : L.length < 32
  · have e : getE L = 4 := by unfold getE; rw [if_pos g1]
    have e2 : gotR L = zeroR := by unfold gotR; rw [e]; rfl
    obtain ⟨a, c, rfl, -⟩ := hr
    rw [e, e2]; exact fget_short a _ c w g1 hm
  · by_cases g2 : 32 < L.length
    · have e : getE L = 5 := by unfold getE; rw [if_neg g1, if_pos g2]
      have e2 : gotR L = zeroR := by unfold gotR; rw [e]; rfl
      obtain ⟨a, c, rfl, -⟩ := hr
      rw [e, e2]; exact fget_long a _ c w g2 hm
    · have hL : L.length = 32 := by omega
      by_cases g3 : L = sealL (L.take 30)
      · by_cases g4 : L.getD 0 0 ≠ 1 ∨ 15 < L.getD 1 0
        · have e : getE L = 3 := by unfold getE; rw [if_neg g1, if_neg g2, if_neg (fun h => h g3), if_pos g4]
          have e2 : gotR L = zeroR := by unfold gotR; rw [e]; rfl
          rw [e, e2]; exact fget_form v L a0 a1 w hr h4 E hL g3 g4
        · have e : getE L = 0 := by unfold getE; rw [if_neg g1, if_neg g2, if_neg (fun h => h g3), if_neg g4]
          have e2 : gotR L = getR L := by unfold gotR; rw [if_pos e]
          rw [e, e2]; exact fget_ok v L a0 a1 w hr h4 E hL g3 (by omega) (by omega)
      · have e : getE L = 7 := by unfold getE; rw [if_neg g1, if_neg g2, if_pos g3]
        have e2 : gotR L = zeroR := by unfold gotR; rw [e]; rfl
        rw [e, e2]; exact fget_sum v L a0 a1 w hr h4 E hL g3
end Go.Proofs.YtecbfegohdllbaaDoor
