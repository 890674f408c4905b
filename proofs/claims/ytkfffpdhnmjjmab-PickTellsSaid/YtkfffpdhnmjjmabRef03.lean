/- The reference of layer 3 (pick): masks, choices. -/
import Derived.Test.YtkfffpdhnmjjmabRef02b
namespace Go.Proofs.Ytkfffpdhnmjjmab
open Go.RowKit
set_option linter.unusedVariables false
def selV (m a b : BitVec 32) : BitVec 32 := (a &&& m) ||| (b &&& ~~~m)
def selF (m a b : BitVec 32) (k j : Nat) : Int := if j < k then bt (selV m a b) j else bt b j
def flipF (x m : BitVec 32) (k j : Nat) : Int := if j < k then bt (x ^^^ m) j else bt x j
theorem sel_start (m a b : BitVec 32) : rowF (bt b) = rowF (selF m a b 0) := rowF_congr (fun i hi => by unfold selF; rw [if_neg (by omega)])
theorem flip_start (x m : BitVec 32) : rowF (bt x) = rowF (flipF x m 0) := rowF_congr (fun i hi => by unfold flipF; rw [if_neg (by omega)])
theorem sel_end (m a b : BitVec 32) : rowF (selF m a b 32) = rowF (bt (selV m a b)) := rowF_congr (fun i hi => by unfold selF; rw [if_pos hi])
theorem flip_end (x m : BitVec 32) : rowF (flipF x m 32) = rowF (bt (x ^^^ m)) := rowF_congr (fun i hi => by unfold flipF; rw [if_pos hi])
theorem sel_bit (m a b : BitVec 32) (k : Nat) (hk : k < 32) : bt (selV m a b) k = if bt m k = 1 then bt a k else bt b k := by
  unfold bt selV
  rw [BitVec.getLsbD_or, BitVec.getLsbD_and, BitVec.getLsbD_and, BitVec.getLsbD_not]
  cases m.getLsbD k <;> cases a.getLsbD k <;> cases b.getLsbD k <;> simp [hk]
theorem flip_bit (x m : BitVec 32) (k : Nat) : (bt x k + bt m k) % 2 = bt (x ^^^ m) k := by
  unfold bt
  rw [BitVec.getLsbD_xor]
  cases m.getLsbD k <;> cases x.getLsbD k <;> simp
theorem sel_yes (m a b : BitVec 32) (k : Nat) (hk : k < 32) (h : bt m k = 1) (i : Nat) (hi : i < 32) : (if i = k then bt a k else selF m a b k i) = selF m a b (k + 1) i := by
  have hs := sel_bit m a b k hk
  rw [if_pos h] at hs
  unfold selF
  by_cases e : i = k
  · subst e; rw [if_pos rfl, if_pos (by omega), hs]
  · rw [if_neg e]
    by_cases h2 : i < k
    · rw [if_pos h2, if_pos (by omega)]
    · rw [if_neg h2, if_neg (by omega)]
theorem sel_no (m a b : BitVec 32) (k : Nat) (hk : k < 32) (h : bt m k = 0) : rowF (selF m a b k) = rowF (selF m a b (k + 1)) := rowF_congr (fun i hi => by
  have hs := sel_bit m a b k hk
  rw [if_neg (by omega)] at hs
  unfold selF
  by_cases e : i = k
  · subst e; rw [if_neg (by omega), if_pos (by omega), hs]
  · by_cases h2 : i < k
    · rw [if_pos h2, if_pos (by omega)]
    · rw [if_neg h2, if_neg (by omega)])
theorem flip_step (x m : BitVec 32) (k : Nat) (i : Nat) (hi : i < 32) : (if i = k then (bt x k + bt m k) % 2 else flipF x m k i) = flipF x m (k + 1) i := by
  unfold flipF
  by_cases e : i = k
  · subst e; rw [if_pos rfl, if_pos (by omega), flip_bit]
  · rw [if_neg e]
    by_cases h2 : i < k
    · rw [if_pos h2, if_pos (by omega)]
    · rw [if_neg h2, if_neg (by omega)]
theorem flipF_at (x m : BitVec 32) (k : Nat) : flipF x m k k = bt x k := by unfold flipF; rw [if_neg (by omega)]
/-- a guard of an arm: the operation that stands next -/
theorem at_op {P : Program} {ops : Array Oper} {Q : Exit → Act → World → Prop} {rest : List Oper} {a : Act} {w : World} (op : Op) {d : Option Tmp} {t : TypeId} {p : String} {af : Array Edge} {g : Option (Nat × Bool)}
    (h : wpList P ops Q (⟨d, op, t, p, af, g⟩ :: rest) a w) : wpList P ops Q (⟨d, op, t, p, af, g⟩ :: rest) a w := h
theorem rone_any (p : Bool) (w : World) :
    Calls Try.prog 70 #[.bool p] w fun e w' => e = .returned (.int .i32 (if p then 1 else 0)) ∧ w = w' := by
  cases p
  all_goals
    go_enter Try.func70, Try.ntmps70
    go_wp2
    go_ret
    exact ⟨rfl, rfl⟩
section
variable {w : World} {t : TypeId} {z1 z2 z3 A B C : Array Value}
theorem heap3_a (o1 o2 o3 : Obj) : (((w.alloc o1).alloc o2).alloc o3).heap[w.heap.size]? = some o1 := by
  rw [Below.heap_alloc _ _ _ (by simp; omega), Below.heap_alloc _ _ _ (by simp)]; exact heap_alloc_new _ _
theorem heap3_b (o1 o2 o3 : Obj) : (((w.alloc o1).alloc o2).alloc o3).heap[w.heap.size + 1]? = some o2 := by
  rw [Below.heap_alloc _ _ _ (by simp)]
  have := heap_alloc_new (w.alloc o1) o2
  rwa [World.size_alloc] at this
theorem heap3_c (o1 o2 o3 : Obj) : (((w.alloc o1).alloc o2).alloc o3).heap[w.heap.size + 2]? = some o3 := by
  have := heap_alloc_new ((w.alloc o1).alloc o2) o3
  rwa [World.size_alloc, World.size_alloc] at this
theorem heap2_b (o1 o2 : Obj) : ((w.alloc o1).alloc o2).heap[w.heap.size + 1]? = some o2 := by
  have := heap_alloc_new (w.alloc o1) o2
  rwa [World.size_alloc] at this
theorem heap2_a (o1 o2 : Obj) : ((w.alloc o1).alloc o2).heap[w.heap.size]? = some o1 := by
  rw [Below.heap_alloc _ _ _ (by simp)]; exact heap_alloc_new _ _
theorem rows3 {w0 : World} (hb : Below w0.heap.size w0 w) (A B C : Array Value) :
    (((((((w.alloc (.cells z1 t)).alloc (.cells z2 t)).alloc (.cells z3 t)).setRow w.heap.size A).setRow (w.heap.size + 1) B).setRow (w.heap.size + 2) C).heap[w.heap.size]? = some (.cells A t (0, 0))) ∧
    (((((((w.alloc (.cells z1 t)).alloc (.cells z2 t)).alloc (.cells z3 t)).setRow w.heap.size A).setRow (w.heap.size + 1) B).setRow (w.heap.size + 2) C).heap[w.heap.size + 1]? = some (.cells B t (0, 0))) ∧
    (((((((w.alloc (.cells z1 t)).alloc (.cells z2 t)).alloc (.cells z3 t)).setRow w.heap.size A).setRow (w.heap.size + 1) B).setRow (w.heap.size + 2) C).heap[w.heap.size + 2]? = some (.cells C t (0, 0))) ∧
    Below w0.heap.size w0 ((((((w.alloc (.cells z1 t)).alloc (.cells z2 t)).alloc (.cells z3 t)).setRow w.heap.size A).setRow (w.heap.size + 1) B).setRow (w.heap.size + 2) C) := by
  have hz := hb.size
  refine ⟨?_, ?_, ?_, ?_⟩
  · rw [setRow_other _ _ _ _ (by omega), setRow_other _ _ _ _ (by omega)]; exact setRow_heap _ _ _ _ _ _ (heap3_a _ _ _)
  · rw [setRow_other _ _ _ _ (by omega)]; exact setRow_heap _ _ _ _ _ _ ((setRow_other _ _ _ _ (by omega)).trans (heap3_b _ _ _))
  · exact setRow_heap _ _ _ _ _ _ ((setRow_other _ _ _ _ (by omega)).trans ((setRow_other _ _ _ _ (by omega)).trans (heap3_c _ _ _)))
  · exact below_setRow (below_setRow (below_setRow (((hb.alloc hz _).alloc (by simp; omega) _).alloc (by simp; omega) _) (by omega) _) (by omega) _) (by omega) _
theorem rows2 {w0 : World} (hb : Below w0.heap.size w0 w) (A B : Array Value) :
    (((((w.alloc (.cells z1 t)).alloc (.cells z2 t)).setRow w.heap.size A).setRow (w.heap.size + 1) B).heap[w.heap.size]? = some (.cells A t (0, 0))) ∧
    (((((w.alloc (.cells z1 t)).alloc (.cells z2 t)).setRow w.heap.size A).setRow (w.heap.size + 1) B).heap[w.heap.size + 1]? = some (.cells B t (0, 0))) ∧
    Below w0.heap.size w0 ((((w.alloc (.cells z1 t)).alloc (.cells z2 t)).setRow w.heap.size A).setRow (w.heap.size + 1) B) := by
  have hz := hb.size
  refine ⟨?_, ?_, ?_⟩
  · rw [setRow_other _ _ _ _ (by omega)]; exact setRow_heap _ _ _ _ _ _ (heap2_a _ _)
  · exact setRow_heap _ _ _ _ _ _ ((setRow_other _ _ _ _ (by omega)).trans (heap2_b _ _))
  · exact below_setRow (below_setRow ((hb.alloc hz _).alloc (by simp; omega) _) (by omega) _) (by omega) _
end
set_option maxRecDepth 20000 in
set_option maxHeartbeats 1000000 in
theorem rsel_bv (m a b : BitVec 32) (w : World) :
    Calls Try.prog 35 #[.int .i32 (S m), .int .i32 (S a), .int .i32 (S b)] w fun e w' => e = .returned (.int .i32 (S (selV m a b))) ∧ Below w.heap.size w w' := by
  go_enter Try.func35, Try.ntmps35
  go_wp2_with fail
  refine (bits_bv m _).mono ?_
  rintro e w2 ⟨rfl, hb⟩
  have hB := hb
  clear hb
  go_wp2_with fail
  refine (bits_bv a _).mono ?_
  rintro e w3 ⟨rfl, hb⟩
  replace hB := chain hB hb
  clear hb
  go_wp2_with fail
  refine (bits_bv b _).mono ?_
  rintro e w4 ⟨rfl, hb⟩
  replace hB := chain hB hb
  clear hb
  go_wp2_with (first | ((with_reducible refine at_op (.store 52 (.tmp 7) (.tmp 12)) ?_); refine wpList_store_row rfl 52 (.tmp 7) (.tmp 12) rfl w4.heap.size (rowF (bt m)) rfl rfl _ _ (heap3_a _ _ _) (by rw [rowF_size]; kernel_rfl) (by rw [rowF_size]; rfl) (rowF_one _) ?_) | ((with_reducible refine at_op (.store 52 (.tmp 8) (.tmp 14)) ?_); refine wpList_store_row rfl 52 (.tmp 8) (.tmp 14) rfl (w4.heap.size + 1) (rowF (bt a)) rfl rfl _ _ ((setRow_other _ _ _ _ (by omega)).trans (heap3_b _ _ _)) (by rw [rowF_size]; kernel_rfl) (by rw [rowF_size]; rfl) (rowF_one _) ?_) | ((with_reducible refine at_op (.store 52 (.tmp 9) (.tmp 16)) ?_); refine wpList_store_row rfl 52 (.tmp 9) (.tmp 16) rfl (w4.heap.size + 2) (rowF (bt b)) rfl rfl _ _ ((setRow_other _ _ _ _ (by omega)).trans ((setRow_other _ _ _ _ (by omega)).trans (heap3_c _ _ _))) (by rw [rowF_size]; kernel_rfl) (by rw [rowF_size]; rfl) (rowF_one _) ?_))
  go_loopw [10] (fun i wr => ∃ k : Nat, k ≤ 32 ∧ i = .int .i64 k ∧ wr.heap[w4.heap.size]? = some (.cells (rowF (bt m)) 52 (0, 0)) ∧ wr.heap[w4.heap.size + 1]? = some (.cells (rowF (bt a)) 52 (0, 0)) ∧ wr.heap[w4.heap.size + 2]? = some (.cells (rowF (selF m a b k)) 52 (0, 0)) ∧ Below w.heap.size w wr) (fun i _ => 32 - (intOf i).toNat)
  case atStart =>
    obtain ⟨r0, r1, r2, r3⟩ := rows3 hB (rowF (bt m)) (rowF (bt a)) (rowF (bt b))
    exact ⟨0, by omega, rfl, r0, r1, r2.trans (by rw [sel_start m a b]), r3⟩
  case round =>
    obtain ⟨k, hk, rfl, h0, h1, h2, hwr⟩ := hrel
    have hz := hB.size
    by_cases hlt : k < 32
    · have c0 := cell_of_row wr w4.heap.size k _ _ _ h0
      have c1 := cell_of_row wr (w4.heap.size + 1) k _ _ _ h1
      have c2 := cell_of_row wr (w4.heap.size + 2) k _ _ _ h2
      rw [rowF_get _ k hlt] at c0 c1 c2
      have hf := frozen_of_row wr (w4.heap.size + 2) k _ _ h2
      have H0 := hid h0
      have H1 := hid h1
      have H2 := hid h2
      clear h0 h1 h2
      rcases bt_01 m k with hb | hb
      · have HN := hid (sel_no m a b k hlt hb)
        rw [hb] at c0
        clear hb
        go_wp2_with fail
        go_roundw
        case rel => exact ⟨k + 1, by omega, by go_num, H0.out, H1.out, H2.out.trans (by rw [HN.out]), hwr⟩
        case measure => simp [intOf]; omega
      · have HY := hid (sel_yes m a b k hlt hb)
        rw [hb] at c0
        clear hb
        have hb := bt_bd a k
        generalize bt a k = y at *
        generalize selF m a b k k = old at *
        go_wp2_with fail
        go_roundw
        case rel => exact ⟨k + 1, by omega, by go_num, row_far H0.out (by simp <;> omega) _, row_far H1.out (by simp <;> omega) _, row_next k y (selF m a b (k + 1)) HY.out H2.out, hwr.setCell (by simp; omega) _⟩
        case measure => simp [intOf]; omega
    · obtain rfl : k = 32 := by omega
      rw [sel_end] at h2
      go_wp2_with (refine wpList_load_row rfl 52 (.tmp 9) rfl (w4.heap.size + 2) rfl _ _ _ _ h2 Try.underlying52 rfl (by rw [rowF_size]; kernel_rfl) ?_)
      refine (of_bv (selV m a b) _).mono ?_
      rintro e w5 ⟨rfl, hb⟩
      replace hwr := chain hwr hb
      go_wp2
      go_ret
      exact ⟨rfl, hwr⟩
set_option maxRecDepth 20000 in
set_option maxHeartbeats 1000000 in
theorem rflip_bv (x m : BitVec 32) (w : World) :
    Calls Try.prog 37 #[.int .i32 (S x), .int .i32 (S m)] w fun e w' => e = .returned (.int .i32 (lowI (S (x ^^^ m) - S m))) ∧ Below w.heap.size w w' := by
  have hm := S_bd m
  have hx := S_bd (x ^^^ m)
  have hl := lowI_bd (S (x ^^^ m) - S m)
  go_enter Try.func37, Try.ntmps37
  go_wp2_with fail
  refine (bits_bv x _).mono ?_
  rintro e w2 ⟨rfl, hb⟩
  have hB := hb
  clear hb
  go_wp2_with fail
  refine (bits_bv m _).mono ?_
  rintro e w4 ⟨rfl, hb⟩
  replace hB := chain hB hb
  clear hb
  go_wp2_with (first | ((with_reducible refine at_op (.store 52 (.tmp 5) (.tmp 9)) ?_); refine wpList_store_row rfl 52 (.tmp 5) (.tmp 9) rfl w4.heap.size (rowF (bt x)) rfl rfl _ _ (heap2_a _ _) (by rw [rowF_size]; kernel_rfl) (by rw [rowF_size]; rfl) (rowF_one _) ?_) | ((with_reducible refine at_op (.store 52 (.tmp 6) (.tmp 11)) ?_); refine wpList_store_row rfl 52 (.tmp 6) (.tmp 11) rfl (w4.heap.size + 1) (rowF (bt m)) rfl rfl _ _ ((setRow_other _ _ _ _ (by omega)).trans (heap2_b _ _)) (by rw [rowF_size]; kernel_rfl) (by rw [rowF_size]; rfl) (rowF_one _) ?_))
  go_loopw [7] (fun i wr => ∃ k : Nat, k ≤ 32 ∧ i = .int .i64 k ∧ wr.heap[w4.heap.size]? = some (.cells (rowF (flipF x m k)) 52 (0, 0)) ∧ wr.heap[w4.heap.size + 1]? = some (.cells (rowF (bt m)) 52 (0, 0)) ∧ Below w.heap.size w wr) (fun i _ => 32 - (intOf i).toNat)
  case atStart =>
    obtain ⟨r0, r1, r2⟩ := rows2 hB (rowF (bt x)) (rowF (bt m))
    exact ⟨0, by omega, rfl, r0.trans (by rw [flip_start x m]), r1, r2⟩
  case round =>
    obtain ⟨k, hk, rfl, h0, h1, hwr⟩ := hrel
    have hz := hB.size
    by_cases hlt : k < 32
    · have c0 := cell_of_row wr w4.heap.size k _ _ _ h0
      have c1 := cell_of_row wr (w4.heap.size + 1) k _ _ _ h1
      rw [rowF_get _ k hlt] at c0 c1
      rw [flipF_at] at c0
      have hf := frozen_of_row wr w4.heap.size k _ _ h0
      have hi : (k : Int) < 32 := by omega
      have H0 := hid h0
      have H1 := hid h1
      clear h0 h1
      have FS := hid (flip_step x m k)
      have b0 := bt_bd x k
      have b1 := bt_bd m k
      generalize bt x k = p at *
      generalize bt m k = q at *
      have e1 : IntKind.i64.wrap (p + q) = p + q := IntWalk.i64_in _ (by omega)
      obtain ⟨r, hr⟩ : ∃ r, (p + q) % 2 = r := ⟨_, rfl⟩
      have e2 : (p + q).tmod 2 = r := by rw [Int.tmod_eq_emod_of_nonneg (by omega)]; exact hr
      rw [hr] at FS
      clear hr
      go_wp2_with fail
      go_region
      all_goals
        go_wp2_with fail
        go_roundw
        case rel => exact ⟨k + 1, by omega, by go_num, row_next k r (flipF x m (k + 1)) FS.out H0.out, row_far (p := ⟨w4.heap.size, k, none⟩) H1.out (by simp) _, (hwr.setCell (p := ⟨w4.heap.size, k, none⟩) (by simp; omega) _).drew⟩
        case measure => simp [intOf]; omega
    · obtain rfl : k = 32 := by omega
      rw [flip_end] at h0
      go_wp2_with (refine wpList_load_row rfl 52 (.tmp 5) rfl w4.heap.size rfl _ _ _ _ h0 Try.underlying52 rfl (by rw [rowF_size]; kernel_rfl) ?_)
      refine (of_bv (x ^^^ m) _).mono ?_
      rintro e w5 ⟨rfl, hb⟩
      replace hwr := chain hwr hb
      generalize hga : S (x ^^^ m) = a at *
      generalize hgc : S m = c at *
      have HA := hid hga
      have HC := hid hgc
      clear hga hgc
      go_wp2_with fail
      refine (rlow_any _ _ (by omega)).mono ?_
      rintro e w6 ⟨rfl, rfl⟩
      go_wp2
      go_ret
      exact ⟨ret_int (by rw [HA.out, HC.out]), hwr⟩
end Go.Proofs.Ytkfffpdhnmjjmab
