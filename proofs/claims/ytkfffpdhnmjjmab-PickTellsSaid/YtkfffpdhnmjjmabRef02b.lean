/- The reference of layer 2 (shift): shifts, counts, turns. -/
import Derived.Test.YtkfffpdhnmjjmabRef02
import Derived.Test.YtkfffpdhnmjjmabCount
import Derived.Lib.ItoaNum
namespace Go.Proofs.Ytkfffpdhnmjjmab
open Go.RowKit
set_option linter.unusedVariables false
theorem bt_shl (v : BitVec 32) (m i : Nat) (hi : i < 32) : bt (v <<< m) i = if m ≤ i then bt v (i - m) else 0 := by
  unfold bt
  rw [BitVec.getLsbD_shiftLeft]
  by_cases h : m ≤ i
  · simp [h, hi, show ¬ i < m by omega]
  · simp [h, show i < m by omega]
theorem bt_shr (v : BitVec 32) (m i : Nat) : bt (v >>> m) i = bt v (i + m) := by
  unfold bt
  rw [BitVec.getLsbD_ushiftRight, Nat.add_comm]
theorem bt_rol (v : BitVec 32) (m i : Nat) (hm : m < 32) (hi : i < 32) : bt (v.rotateLeft m) i = bt v ((i + (32 - m)) % 32) := by
  unfold bt
  rw [BitVec.getLsbD_rotateLeft_of_le hm]
  by_cases h : i < m
  · rw [show (i + (32 - m)) % 32 = 32 - m + i by omega]; simp [h]
  · rw [show (i + (32 - m)) % 32 = i - m by omega]; simp [h, hi]
theorem below_two {w w2 : World} {o : Obj} (hb : Below (w.alloc o).heap.size (w.alloc o) w2) : Below w.heap.size w w2 := ((Below.refl _ w).alloc (Nat.le_refl _) _).trans (hb.mono (by simp))
theorem first_kept {w w2 : World} {o : Obj} (hb : Below (w.alloc o).heap.size (w.alloc o) w2) : w2.heap[w.heap.size]? = some o := (hb.block _ (by simp)).trans (heap_alloc_new w o)
/-- a row known whole, behind a store into another one -/
theorem row_other {w : World} {g k : Nat} {o o' : Obj} {cs : Array Value} (h : w.heap[g]? = some o) (hne : g ≠ k) : ((w.alloc o').setRow k cs).heap[g]? = some o := by
  rw [setRow_other _ _ _ _ hne, Below.heap_alloc _ _ _ (Array.getElem?_eq_some_iff.1 h).1]; exact h
theorem row_new {w : World} {t : TypeId} {old cs : Array Value} {fr : Nat × Nat} : ((w.alloc (.cells old t fr)).setRow w.heap.size cs).heap[w.heap.size]? = some (.cells cs t fr) := setRow_heap _ _ _ _ _ _ (heap_alloc_new w _)
theorem row_next {w : World} {g : Nat} {t : TypeId} {F : Nat → Int} (idx : Nat) (val : Int) (G : Nat → Int) (h : ∀ i, i < 32 → (if i = idx then val else F i) = G i) (h0 : w.heap[g]? = some (.cells (rowF F) t (0, 0))) :
    (w.setCell ⟨g, idx, none⟩ (.int .i64 val)).heap[g]? = some (.cells (rowF G) t (0, 0)) := (row_set idx val h0).trans (by rw [rowF_congr h])
def shlF (v : BitVec 32) (m k j : Nat) : Int := if m ≤ j ∧ j < k then bt v (j - m) else 0
def shrF (v : BitVec 32) (m k j : Nat) : Int := if j < k then bt v (j + m) else 0
def rolF (v : BitVec 32) (m k j : Nat) : Int := if (j + (32 - m)) % 32 < k then bt v ((j + (32 - m)) % 32) else 0
def revF (v : BitVec 32) (k j : Nat) : Int := if 31 - j < k then bt v (31 - j) else 0
theorem shl_start (v : BitVec 32) (m i : Nat) : shlF v m m i = 0 := by unfold shlF; rw [if_neg (by omega)]
theorem shr_start (v : BitVec 32) (m i : Nat) : shrF v m 0 i = 0 := by unfold shrF; rw [if_neg (by omega)]
theorem rol_start (v : BitVec 32) (m i : Nat) : rolF v m 0 i = 0 := by unfold rolF; rw [if_neg (by omega)]
theorem rev_start (v : BitVec 32) (i : Nat) : revF v 0 i = 0 := by unfold revF; rw [if_neg (by omega)]
theorem shl_step (v : BitVec 32) (m k : Nat) (h : m ≤ k) (i : Nat) (hi : i < 32) : (if i = k then bt v (k - m) else shlF v m k i) = shlF v m (k + 1) i := by
  unfold shlF
  by_cases e : i = k
  · subst e; rw [if_pos rfl, if_pos (by omega)]
  · rw [if_neg e]
    by_cases h2 : m ≤ i ∧ i < k
    · rw [if_pos h2, if_pos (by omega)]
    · rw [if_neg h2, if_neg (by omega)]
theorem shr_step (v : BitVec 32) (m k : Nat) (i : Nat) (hi : i < 32) : (if i = k then bt v (k + m) else shrF v m k i) = shrF v m (k + 1) i := by
  unfold shrF
  by_cases e : i = k
  · subst e; rw [if_pos rfl, if_pos (by omega)]
  · rw [if_neg e]
    by_cases h2 : i < k
    · rw [if_pos h2, if_pos (by omega)]
    · rw [if_neg h2, if_neg (by omega)]
theorem rol_step (v : BitVec 32) (m k : Nat) (hm : m < 32) (hk : k < 32) (i : Nat) (hi : i < 32) : (if i = (k + m) % 32 then bt v k else rolF v m k i) = rolF v m (k + 1) i := by
  unfold rolF
  by_cases e : i = (k + m) % 32
  · rw [if_pos e, show (i + (32 - m)) % 32 = k by omega, if_pos (by omega)]
  · rw [if_neg e]
    by_cases h2 : (i + (32 - m)) % 32 < k
    · rw [if_pos h2, if_pos (by omega)]
    · rw [if_neg h2, if_neg (by omega)]
theorem rev_step (v : BitVec 32) (k : Nat) (hk : k < 32) (i : Nat) (hi : i < 32) : (if i = 31 - k then bt v k else revF v k i) = revF v (k + 1) i := by
  unfold revF
  by_cases e : i = 31 - k
  · rw [if_pos e, show 31 - i = k by omega, if_pos (by omega)]
  · rw [if_neg e]
    by_cases h2 : 31 - i < k
    · rw [if_pos h2, if_pos (by omega)]
    · rw [if_neg h2, if_neg (by omega)]
theorem shl_end (v : BitVec 32) (m : Nat) : rowF (shlF v m 32) = rowF (bt (v <<< m)) := rowF_congr (fun i hi => by
  rw [bt_shl v m i hi]; unfold shlF; by_cases h : m ≤ i <;> simp [h, hi])
theorem shr_end (v : BitVec 32) (m : Nat) (hm : m < 32) : rowF (shrF v m (32 - m)) = rowF (bt (v >>> m)) := rowF_congr (fun i hi => by
  rw [bt_shr]; unfold shrF
  by_cases h : i < 32 - m
  · rw [if_pos h]
  · rw [if_neg h, bt_ge _ _ (by omega)])
theorem rol_end (v : BitVec 32) (m : Nat) (hm : m < 32) : rowF (rolF v m 32) = rowF (bt (v.rotateLeft m)) := rowF_congr (fun i hi => by
  rw [bt_rol v m i hm hi]; unfold rolF; rw [if_pos (Nat.mod_lt _ (by decide))])
theorem rev_end (v : BitVec 32) : rowF (revF v 32) = rowF (bt v.reverse) := rowF_congr (fun i hi => by
  rw [bt_rev v i hi]; unfold revF; rw [if_pos (by omega)])
set_option maxRecDepth 20000 in
theorem rshl_bv (v : BitVec 32) (n : Int) (w : World) (hn : -2147483648 ≤ n ∧ n ≤ 2147483647) :
    Calls Try.prog 47 #[.int .i32 (S v), .int .i32 n] w fun e w' => e = .returned (.int .i32 (S (v <<< (n % 32).toNat))) ∧ Below w.heap.size w w' := by
  have BY := hid (fun w => by_any n w hn)
  obtain ⟨m, hm⟩ : ∃ m : Nat, n % 32 = (m : Int) := ⟨(n % 32).toNat, by omega⟩
  have hm32 : m < 32 := by omega
  rw [hm] at BY
  rw [hm, Int.toNat_natCast]
  clear hm
  go_enter Try.func47, Try.ntmps47
  go_wp2_with fail
  refine (bits_bv v _).mono ?_
  rintro e w2 ⟨rfl, hb⟩
  have hB := below_two hb
  have hz := hb.size
  simp only [World.size_alloc] at hz
  have hO := first_kept hb
  clear hb
  go_wp2_with (refine wpList_store_row rfl 52 (.tmp 6) (.tmp 9) rfl w2.heap.size (rowF (bt v)) rfl rfl _ _ (heap_alloc_new w2 _) (by rw [rowF_size]; kernel_rfl) (by rw [rowF_size]; rfl) (rowF_one _) ?_)
  refine (BY.out _).mono ?_
  rintro e w3 ⟨rfl, rfl⟩
  go_wp2_with fail
  go_loopw [7] (fun i wr => ∃ k : Nat, m ≤ k ∧ k ≤ 32 ∧ i = .int .i64 k ∧ wr.heap[w.heap.size]? = some (.cells (rowF (shlF v m k)) 52 (0, 0)) ∧ wr.heap[w2.heap.size]? = some (.cells (rowF (bt v)) 52 (0, 0)) ∧ Below w.heap.size w wr) (fun i _ => 32 - (intOf i).toNat)
  case atStart => exact ⟨m, by omega, by omega, rfl, (row_other hO (by omega)).trans (by rw [row0 _ (fun i hi => shl_start v m i)]; rfl), row_new, below_setRow (hB.alloc hB.size _) (by omega) _⟩
  case round =>
    obtain ⟨k, hmk, hk, rfl, h0, h1, hwr⟩ := hrel
    by_cases hlt : k < 32
    · have hs : ((k : Int) - m).toNat = k - m := by omega
      have hc := cell_of_row wr w2.heap.size (k - m) _ _ _ h1
      rw [rowF_get _ (k - m) (by omega)] at hc
      have hc0 := cell_of_row wr w.heap.size (k) _ _ _ h0
      rw [rowF_get _ (k) (by omega)] at hc0
      have hf := frozen_of_row wr w.heap.size (k) _ _ h0
      have hb := bt_bd v (k - m)
      have H0 := hid h0
      have H1 := hid h1
      clear h0 h1
      generalize (shlF v m k) (k) = old at *
      generalize hbt : bt v (k - m) = b at *
      have HB := hid hbt
      clear hbt hO
      go_wp2_with fail
      refine (BY.out _).mono ?_
      rintro e w3 ⟨rfl, rfl⟩
      go_wp2_with fail
      go_roundw
      case rel => exact ⟨k + 1, by omega, by omega, by go_num, row_next k b (shlF v m (k + 1)) (by rw [← HB.out]; exact shl_step v m k hmk) H0.out, row_far H1.out (by simp; omega) _, hwr.setCell (by simp) _⟩
      case measure => simp [intOf]; omega
    · obtain rfl : k = 32 := by omega
      rw [shl_end] at h0
      go_wp2_with (refine wpList_load_row rfl 52 (.tmp 5) rfl w.heap.size rfl _ _ _ _ h0 Try.underlying52 rfl (by rw [rowF_size]; kernel_rfl) ?_)
      refine (of_bv (v <<< m) _).mono ?_
      rintro e w3 ⟨rfl, hb⟩
      replace hwr := chain hwr hb
      go_wp2
      go_ret
      exact ⟨rfl, hwr⟩
set_option maxRecDepth 20000 in
theorem rshr_bv (v : BitVec 32) (n : Int) (w : World) (hn : -2147483648 ≤ n ∧ n ≤ 2147483647) :
    Calls Try.prog 49 #[.int .i32 (S v), .int .i32 n] w fun e w' => e = .returned (.int .i32 (S (v >>> (n % 32).toNat))) ∧ Below w.heap.size w w' := by
  have BY := hid (fun w => by_any n w hn)
  obtain ⟨m, hm⟩ : ∃ m : Nat, n % 32 = (m : Int) := ⟨(n % 32).toNat, by omega⟩
  have hm32 : m < 32 := by omega
  rw [hm] at BY
  rw [hm, Int.toNat_natCast]
  clear hm
  go_enter Try.func49, Try.ntmps49
  go_wp2_with fail
  refine (bits_bv v _).mono ?_
  rintro e w2 ⟨rfl, hb⟩
  have hB := below_two hb
  have hz := hb.size
  simp only [World.size_alloc] at hz
  have hO := first_kept hb
  clear hb
  go_wp2_with (refine wpList_store_row rfl 52 (.tmp 6) (.tmp 9) rfl w2.heap.size (rowF (bt v)) rfl rfl _ _ (heap_alloc_new w2 _) (by rw [rowF_size]; kernel_rfl) (by rw [rowF_size]; rfl) (rowF_one _) ?_)
  go_loopw [7] (fun i wr => ∃ k : Nat, k + m ≤ 32 ∧ i = .int .i64 k ∧ wr.heap[w.heap.size]? = some (.cells (rowF (shrF v m k)) 52 (0, 0)) ∧ wr.heap[w2.heap.size]? = some (.cells (rowF (bt v)) 52 (0, 0)) ∧ Below w.heap.size w wr) (fun i _ => 32 - (intOf i).toNat)
  case atStart => exact ⟨0, by omega, rfl, (row_other hO (by omega)).trans (by rw [row0 _ (fun i hi => shr_start v m i)]; rfl), row_new, below_setRow (hB.alloc hB.size _) (by omega) _⟩
  case round =>
    obtain ⟨k, hk, rfl, h0, h1, hwr⟩ := hrel
    by_cases hlt : k + m < 32
    · have hs : ((k : Int) + m).toNat = k + m := by omega
      have hc := cell_of_row wr w2.heap.size (k + m) _ _ _ h1
      rw [rowF_get _ (k + m) (by omega)] at hc
      have hc0 := cell_of_row wr w.heap.size (k) _ _ _ h0
      rw [rowF_get _ (k) (by omega)] at hc0
      have hf := frozen_of_row wr w.heap.size (k) _ _ h0
      have hb := bt_bd v (k + m)
      have H0 := hid h0
      have H1 := hid h1
      clear h0 h1
      generalize (shrF v m k) (k) = old at *
      generalize hbt : bt v (k + m) = b at *
      have HB := hid hbt
      clear hbt hO
      go_wp2_with fail
      refine (BY.out _).mono ?_
      rintro e w3 ⟨rfl, rfl⟩
      go_wp2_with fail
      refine (BY.out _).mono ?_
      rintro e w3 ⟨rfl, rfl⟩
      go_wp2_with fail
      go_roundw
      case rel => exact ⟨k + 1, by omega, by go_num, row_next k b (shrF v m (k + 1)) (by rw [← HB.out]; exact shr_step v m k) H0.out, row_far H1.out (by simp; omega) _, hwr.setCell (by simp) _⟩
      case measure => simp [intOf]; omega
    · obtain rfl : k = 32 - m := by omega
      have hge : ¬ (((32 - m : Nat) : Int) + m < 32) := by omega
      rw [shr_end v m hm32] at h0
      go_wp2_with fail
      refine (BY.out _).mono ?_
      rintro e w3 ⟨rfl, rfl⟩
      go_wp2_with (refine wpList_load_row rfl 52 (.tmp 5) rfl w.heap.size rfl _ _ _ _ h0 Try.underlying52 rfl (by rw [rowF_size]; kernel_rfl) ?_)
      refine (of_bv (v >>> m) _).mono ?_
      rintro e w3 ⟨rfl, hb⟩
      replace hwr := chain hwr hb
      go_wp2
      go_ret
      exact ⟨rfl, hwr⟩
set_option maxRecDepth 20000 in
theorem rturn_bv (v : BitVec 32) (w : World) :
    Calls Try.prog 59 #[.int .i32 (S v)] w fun e w' => e = .returned (.int .i32 (S v.reverse)) ∧ Below w.heap.size w w' := by
  go_enter Try.func59, Try.ntmps59
  go_wp2_with fail
  refine (bits_bv v _).mono ?_
  rintro e w2 ⟨rfl, hb⟩
  have hB := below_two hb
  have hz := hb.size
  simp only [World.size_alloc] at hz
  have hO := first_kept hb
  clear hb
  go_wp2_with (refine wpList_store_row rfl 52 (.tmp 4) (.tmp 7) rfl w2.heap.size (rowF (bt v)) rfl rfl _ _ (heap_alloc_new w2 _) (by rw [rowF_size]; kernel_rfl) (by rw [rowF_size]; rfl) (rowF_one _) ?_)
  go_loopw [5] (fun i wr => ∃ k : Nat, k ≤ 32 ∧ i = .int .i64 k ∧ wr.heap[w.heap.size]? = some (.cells (rowF (revF v k)) 52 (0, 0)) ∧ wr.heap[w2.heap.size]? = some (.cells (rowF (bt v)) 52 (0, 0)) ∧ Below w.heap.size w wr) (fun i _ => 32 - (intOf i).toNat)
  case atStart => exact ⟨0, by omega, rfl, (row_other hO (by omega)).trans (by rw [row0 _ (fun i hi => rev_start v i)]; rfl), row_new, below_setRow (hB.alloc hB.size _) (by omega) _⟩
  case round =>
    obtain ⟨k, hk, rfl, h0, h1, hwr⟩ := hrel
    by_cases hlt : k < 32
    · have hs : (31 - (k : Int)).toNat = 31 - k := by omega
      have hc := cell_of_row wr w2.heap.size (k) _ _ _ h1
      rw [rowF_get _ (k) (by omega)] at hc
      have hc0 := cell_of_row wr w.heap.size (31 - k) _ _ _ h0
      rw [rowF_get _ (31 - k) (by omega)] at hc0
      have hf := frozen_of_row wr w.heap.size (31 - k) _ _ h0
      have hb := bt_bd v (k)
      have H0 := hid h0
      have H1 := hid h1
      clear h0 h1
      generalize (revF v k) (31 - k) = old at *
      generalize hbt : bt v (k) = b at *
      have HB := hid hbt
      clear hbt hO
      go_wp2_with fail
      go_roundw
      case rel => exact ⟨k + 1, by omega, by go_num, row_next (31 - k) b (revF v (k + 1)) (by rw [← HB.out]; exact rev_step v k hlt) H0.out, row_far H1.out (by simp; omega) _, hwr.setCell (by simp) _⟩
      case measure => simp [intOf]; omega
    · obtain rfl : k = 32 := by omega
      rw [rev_end] at h0
      go_wp2_with (refine wpList_load_row rfl 52 (.tmp 3) rfl w.heap.size rfl _ _ _ _ h0 Try.underlying52 rfl (by rw [rowF_size]; kernel_rfl) ?_)
      refine (of_bv v.reverse _).mono ?_
      rintro e w3 ⟨rfl, hb⟩
      replace hwr := chain hwr hb
      go_wp2
      go_ret
      exact ⟨rfl, hwr⟩
set_option maxRecDepth 20000 in
theorem rrol_bv (v : BitVec 32) (n : Int) (w : World) (hn : -2147483648 ≤ n ∧ n ≤ 2147483647) :
    Calls Try.prog 53 #[.int .i32 (S v), .int .i32 n] w fun e w' => e = .returned (.int .i32 (S (v.rotateLeft (n % 32).toNat))) ∧ Below w.heap.size w w' := by
  have BY := hid (fun w => by_any n w hn)
  obtain ⟨m, hm⟩ : ∃ m : Nat, n % 32 = (m : Int) := ⟨(n % 32).toNat, by omega⟩
  have hm32 : m < 32 := by omega
  rw [hm] at BY
  rw [hm, Int.toNat_natCast]
  clear hm
  go_enter Try.func53, Try.ntmps53
  go_wp2_with fail
  refine (bits_bv v _).mono ?_
  rintro e w2 ⟨rfl, hb⟩
  have hB := below_two hb
  have hz := hb.size
  simp only [World.size_alloc] at hz
  have hO := first_kept hb
  clear hb
  go_wp2_with (refine wpList_store_row rfl 52 (.tmp 6) (.tmp 9) rfl w2.heap.size (rowF (bt v)) rfl rfl _ _ (heap_alloc_new w2 _) (by rw [rowF_size]; kernel_rfl) (by rw [rowF_size]; rfl) (rowF_one _) ?_)
  go_loopw [7] (fun i wr => ∃ k : Nat, k ≤ 32 ∧ i = .int .i64 k ∧ wr.heap[w.heap.size]? = some (.cells (rowF (rolF v m k)) 52 (0, 0)) ∧ wr.heap[w2.heap.size]? = some (.cells (rowF (bt v)) 52 (0, 0)) ∧ Below w.heap.size w wr) (fun i _ => 32 - (intOf i).toNat)
  case atStart => exact ⟨0, by omega, rfl, (row_other hO (by omega)).trans (by rw [row0 _ (fun i hi => rol_start v m i)]; rfl), row_new, below_setRow (hB.alloc hB.size _) (by omega) _⟩
  case round =>
    obtain ⟨k, hk, rfl, h0, h1, hwr⟩ := hrel
    by_cases hlt : k < 32
    · obtain ⟨z, hz1⟩ : ∃ z : Nat, (k + m) % 32 = z := ⟨_, rfl⟩
      have e1 : IntKind.i64.wrap ((k : Int) + m) = (k : Int) + m := IntWalk.i64_in _ (by omega)
      have e2 : ((k : Int) + m).tmod 32 = (z : Int) := by rw [Int.tmod_eq_emod_of_nonneg (by omega)]; omega
      have e3 : (z : Int) < 32 := by omega
      have e4 : z < 32 := by omega
      have HZ := hid hz1
      clear hz1
      have hc := cell_of_row wr w2.heap.size (k) _ _ _ h1
      rw [rowF_get _ (k) (by omega)] at hc
      have hc0 := cell_of_row wr w.heap.size (z) _ _ _ h0
      rw [rowF_get _ (z) (by omega)] at hc0
      have hf := frozen_of_row wr w.heap.size (z) _ _ h0
      have hb := bt_bd v (k)
      have H0 := hid h0
      have H1 := hid h1
      clear h0 h1
      generalize (rolF v m k) (z) = old at *
      generalize hbt : bt v (k) = b at *
      have HB := hid hbt
      clear hbt hO
      go_wp2_with fail
      go_region_with (go_at_call 76; refine (BY.out _).mono ?_; rintro e w3 ⟨rfl, rfl⟩)
      all_goals
        go_wp2_with fail
        go_roundw
        case rel => exact ⟨k + 1, by omega, by go_num, row_next z b (rolF v m (k + 1)) (by rw [← HB.out, ← HZ.out]; exact rol_step v m k hm32 hlt) H0.out, row_far (p := ⟨w.heap.size, z, none⟩) H1.out (by simp; omega) _, (hwr.setCell (p := ⟨w.heap.size, z, none⟩) (Nat.le_refl _) _).drew⟩
        case measure => simp [intOf]; omega
    · obtain rfl : k = 32 := by omega
      rw [rol_end v m hm32] at h0
      go_wp2_with (refine wpList_load_row rfl 52 (.tmp 5) rfl w.heap.size rfl _ _ _ _ h0 Try.underlying52 rfl (by rw [rowF_size]; kernel_rfl) ?_)
      refine (of_bv (v.rotateLeft m) _).mono ?_
      rintro e w3 ⟨rfl, hb⟩
      replace hwr := chain hwr hb
      go_wp2
      go_ret
      exact ⟨rfl, hwr⟩
set_option maxRecDepth 20000 in
theorem rsar_any (x n : Int) (w : World) (hx : -2147483648 ≤ x ∧ x ≤ 2147483647) (hn : -2147483648 ≤ n ∧ n ≤ 2147483647) :
    Calls Try.prog 51 #[.int .i32 x, .int .i32 n] w fun e w' => e = .returned (.int .i32 (x / 2 ^ (n % 32).toNat)) ∧ w = w' := by
  have BY := hid (fun w => by_any n w hn)
  obtain ⟨m, hm⟩ : ∃ m : Nat, n % 32 = (m : Int) := ⟨(n % 32).toNat, by omega⟩
  have hm32 : m < 32 := by omega
  rw [hm] at BY
  rw [hm, Int.toNat_natCast]
  clear hm
  go_enter Try.func51, Try.ntmps51
  go_wp2_with fail
  go_loop [5, 6] (fun p i => ∃ k : Nat, k ≤ m ∧ i = .int .i64 k ∧ p = .int .i64 (2 ^ k)) (fun _ i => m - (intOf i).toNat)
  case atStart => exact ⟨0, by omega, rfl, rfl⟩
  case round =>
    obtain ⟨k, hk, rfl, rfl⟩ := hrel
    have hp := pow_bd k (by omega)
    by_cases hlt : k < m
    · have hp1 := pow_bd (k + 1) (by omega)
      rw [Int.pow_succ] at hp1
      generalize hpp : (2 : Int) ^ k = p at *
      have HM := hid hpp; clear hpp
      go_wp2_with fail
      refine (BY.out _).mono ?_
      rintro e w3 ⟨rfl, rfl⟩
      go_wp2_with fail
      go_round
      case rel => exact ⟨k + 1, by omega, by go_num, by rw [Int.pow_succ, HM.out, Int.mul_comm]⟩
      case measure => simp [intOf]; omega
    · obtain rfl : k = m := by omega
      generalize hpp : (2 : Int) ^ k = p at *
      have HM := hid hpp; clear hpp
      have hd := Int.emod_nonneg x (show p ≠ 0 by omega)
      have hd2 := Int.emod_lt_of_pos x (show 0 < p by omega)
      have hq := tdiv_exact x p (by omega)
      have hdd : x % p ≤ x ∨ x < 0 := by
        by_cases h : 0 ≤ x
        · left
          have h7 := Int.mul_ediv_add_emod x p
          have h8 := Int.mul_nonneg (show 0 ≤ p by omega) (Int.ediv_nonneg h (show 0 ≤ p by omega))
          omega
        · right; omega
      have hqb : -2147483648 ≤ x / p ∧ x / p ≤ 2147483647 := by
        constructor
        · have := Int.ediv_le_ediv (show 0 < p by omega) hx.1
          have h3 : -2147483648 ≤ (-2147483648 : Int) / p := by
            rw [Int.le_ediv_iff_mul_le (by omega)]
            have := Int.mul_le_mul_of_nonneg_left (show (1 : Int) ≤ p by omega) (show (0 : Int) ≤ 2147483648 by omega)
            omega
          omega
        · by_cases h : 0 ≤ x
          · have := Int.ediv_le_self p h; omega
          · have := Int.ediv_neg_of_neg_of_pos (show x < 0 by omega) (show 0 < p by omega); omega
      go_wp2_with fail
      refine (BY.out _).mono ?_
      rintro e w3 ⟨rfl, rfl⟩
      have hz : (p == 0) = false := by simp; omega
      go_wp2_with fail
      refine (mod_any _ _ _ (by omega) (by omega)).mono ?_
      rintro e w3 ⟨rfl, rfl⟩
      generalize x % p = r at *
      have HQ := hid hq
      clear hq
      go_wp2
      go_ret
      refine ⟨ret_int ?_, rfl⟩
      have h5 : wrap64 ((x - r).tdiv p) = x / p := by rw [HQ.out]; exact IntWalk.wrap64_in _ (by omega)
      first
        | (rw [h5, HM.out]; exact IntWalk.wrap32_in _ (by omega))
        | (rw [HQ.out, HM.out]; exact IntWalk.wrap32_in _ (by omega))
set_option maxRecDepth 20000 in
theorem rones_bv (v : BitVec 32) (w : World) :
    Calls Try.prog 57 #[.int .i32 (S v)] w fun e w' => e = .returned (.int .i32 (cnt v)) ∧ Below w.heap.size w w' := by
  go_enter Try.func57, Try.ntmps57
  go_wp2_with fail
  refine (bits_bv v _).mono ?_
  rintro e w2 ⟨rfl, hb⟩
  have hB := hb
  have hz := hb.size
  clear hb
  go_wp2_with (refine wpList_store_row rfl 52 (.tmp 3) (.tmp 7) rfl w2.heap.size (rowF (bt v)) rfl rfl _ _ (heap_alloc_new w2 _) (by rw [rowF_size]; kernel_rfl) (by rw [rowF_size]; rfl) (rowF_one _) ?_)
  go_loopw [4, 5] (fun c i wr => ∃ k : Nat, k ≤ 32 ∧ i = .int .i64 k ∧ c = .int .i32 (sumN (bt v) k) ∧ wr.heap[w2.heap.size]? = some (.cells (rowF (bt v)) 52 (0, 0)) ∧ Below w.heap.size w wr) (fun _ i _ => 32 - (intOf i).toNat)
  case atStart => exact ⟨0, by omega, rfl, rfl, row_new, below_setRow (hB.alloc hB.size _) (by omega) _⟩
  case round =>
    obtain ⟨k, hk, rfl, rfl, h1, hwr⟩ := hrel
    by_cases hlt : k < 32
    · have hc := cell_of_row wr w2.heap.size k _ _ _ h1
      rw [rowF_get _ k hlt] at hc
      have hb := bt_bd v k
      have hs := sumN_bd v k
      have HS := hid (show sumN (bt v) (k + 1) = sumN (bt v) k + bt v k from rfl)
      have H1 := hid h1
      clear h1
      generalize sumN (bt v) k = q at *
      generalize bt v k = b at *
      go_wp2_with fail
      go_roundw
      case rel => exact ⟨k + 1, by omega, by go_num, by rw [HS.out], H1.out, hwr⟩
      case measure => simp [intOf]; omega
    · obtain rfl : k = 32 := by omega
      go_wp2
      go_ret
      exact ⟨rfl, hwr⟩
theorem bitLen_at (v : BitVec 32) (k : Nat) (h0 : v.toNat / 2 ^ (k + 1) = 0) (h1 : bt v k = 1) : Lib.bitLen v.toNat = k + 1 := by
  have e : v.toNat / 2 ^ k % 2 = 1 := by have := bt_eq v k; omega
  have hne : v.toNat ≠ 0 := by intro h; rw [h] at e; simp at e
  have hlo : 2 ^ k ≤ v.toNat := by
    rcases Nat.lt_or_ge v.toNat (2 ^ k) with h | h
    · rw [Nat.div_eq_of_lt h] at e; omega
    · exact h
  have hhi : v.toNat < 2 ^ (k + 1) := by
    rcases Nat.lt_or_ge v.toNat (2 ^ (k + 1)) with h | h
    · exact h
    · have := Nat.div_pos h (Nat.two_pow_pos _); omega
  have hs := Lib.bitLenAux_bounds 64 v.toNat (Nat.lt_trans v.isLt (by decide)) hne
  have a := (Nat.pow_lt_pow_iff_right (show 1 < 2 by decide)).1 (Nat.lt_of_le_of_lt hlo hs.2.2)
  have b := (Nat.pow_lt_pow_iff_right (show 1 < 2 by decide)).1 (Nat.lt_of_le_of_lt hs.2.1 hhi)
  show Lib.bitLenAux 64 v.toNat = k + 1
  omega
theorem bitLen_nought (v : BitVec 32) (h0 : v.toNat / 2 ^ 0 = 0) : Lib.bitLen v.toNat = 0 := by
  rw [Nat.pow_zero, Nat.div_one] at h0
  rw [h0]; rfl
set_option maxRecDepth 20000 in
theorem rclz_bv (v : BitVec 32) (w : World) :
    Calls Try.prog 55 #[.int .i32 (S v)] w fun e w' => e = .returned (.int .i32 (32 - (Lib.bitLen v.toNat : Int))) ∧ Below w.heap.size w w' := by
  go_enter Try.func55, Try.ntmps55
  go_wp2_with fail
  refine (bits_bv v _).mono ?_
  rintro e w2 ⟨rfl, hb⟩
  have hB := hb
  have hz := hb.size
  clear hb
  go_wp2_with (refine wpList_store_row rfl 52 (.tmp 3) (.tmp 7) rfl w2.heap.size (rowF (bt v)) rfl rfl _ _ (heap_alloc_new w2 _) (by rw [rowF_size]; kernel_rfl) (by rw [rowF_size]; rfl) (rowF_one _) ?_)
  go_loopw [4, 5] (fun c i wr => ∃ k : Nat, k ≤ 32 ∧ i = .int .i64 ((k : Int) - 1) ∧ c = .int .i32 (32 - (k : Int)) ∧ v.toNat / 2 ^ k = 0 ∧ wr.heap[w2.heap.size]? = some (.cells (rowF (bt v)) 52 (0, 0)) ∧ Below w.heap.size w wr) (fun _ i _ => (intOf i + 1).toNat)
  case atStart => exact ⟨32, by omega, rfl, rfl, half_all v, row_new, below_setRow (hB.alloc hB.size _) (by omega) _⟩
  case round =>
    obtain ⟨k, hk, rfl, rfl, hv, h1, hwr⟩ := hrel
    cases k with
    | zero =>
      have HV := hid (bitLen_nought v hv)
      clear hv
      rw [show (((0 : Nat) : Int) - 1) = -1 from rfl]
      go_wp2
      go_ret
      exact ⟨ret_int (by rw [HV.out]), hwr⟩
    | succ k =>
      have hc := cell_of_row wr w2.heap.size k _ _ _ h1
      rw [rowF_get _ k (by omega)] at hc
      rw [show (((k + 1 : Nat) : Int) - 1) = (k : Int) by omega]
      have HV := hid hv
      have H1 := hid h1
      clear h1 hv
      rcases bt_01 v k with hb | hb
      · rw [hb] at hc
        have hv2 : v.toNat / 2 ^ k = 0 := by
          have := bt_eq v k
          have h3 := HV.out
          rw [Nat.pow_succ, ← Nat.div_div_eq_div_mul] at h3
          omega
        have HV2 := hid hv2
        clear hv2 hb
        rw [show (32 - ((k + 1 : Nat) : Int)) = 31 - k by omega]
        go_wp2_with fail
        go_roundw
        case rel => exact ⟨k, by omega, rfl, by go_num, HV2.out, H1.out, hwr⟩
        case measure => simp [intOf]
      · have HL := hid (bitLen_at v k HV.out hb)
        rw [hb] at hc
        clear hb
        rw [show (32 - ((k + 1 : Nat) : Int)) = 31 - k by omega]
        go_wp2_with fail
        go_ret
        exact ⟨ret_int (by rw [HL.out]; omega), hwr⟩
end Go.Proofs.Ytkfffpdhnmjjmab
