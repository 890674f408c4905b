/- The reference of layer 2 (shift): bits, and words of bits. -/
import Derived.Test.YtkfffpdhnmjjmabRow32
import Derived.Test.YtkfffpdhnmjjmabBv
import Derived.Handy
import Derived.IntWalk
import Derived.Laws.CopyOwn
namespace Go.Proofs.Ytkfffpdhnmjjmab
open Go.RowKit
set_option linter.unusedVariables false
theorem heap2_first (w : World) (a b : Obj) : ((w.alloc a).alloc b).heap[w.heap.size]? = some a := by
  show ((w.heap.push a).push b)[w.heap.size]? = some a
  simp [Array.getElem?_push]
theorem heap2_snd (w : World) (a b : Obj) : ((w.alloc a).alloc b).heap[w.heap.size + 1]? = some b := by
  show ((w.heap.push a).push b)[w.heap.size + 1]? = some b
  rw [Array.getElem?_push, if_pos (by simp)]
theorem heap1_new (w : World) (a : Obj) : (w.alloc a).heap[w.heap.size]? = some a := heap_alloc_new w a
theorem row0 (f : Nat → Int) (h : ∀ i, i < 32 → f i = 0) : rowF f = rowF fun _ => 0 := rowF_congr h
theorem rowF_one (f : Nat → Int) : (rowF f).all (·.oneCell') = true := by simp [rowF, Value.oneCell']
theorem row_set {w : World} {g : Nat} {t : TypeId} {f : Nat → Int} (k : Nat) (v : Int) (h : w.heap[g]? = some (.cells (rowF f) t (0, 0))) : (w.setCell ⟨g, k, none⟩ (.int .i64 v)).heap[g]? = some (.cells (rowF fun i => if i = k then v else f i) t (0, 0)) := by
  rw [← rowF_set]
  simp [World.setCell, Array.getElem?_modify, h]
theorem row_far {w : World} {g : Nat} {o : Obj} {p : Addr} (h : w.heap[g]? = some o) (hp : g ≠ p.block) (v : Value) : (w.setCell p v).heap[g]? = some o := (Below.heap_setCell w p v g hp).trans h
theorem row_keep {w w' : World} {B g : Nat} {o : Obj} (h : w.heap[g]? = some o) (hb : Below B w w') (hg : g < B) : w'.heap[g]? = some o := (hb.block g hg).trans h
theorem half_bit (v : BitVec 32) (k : Nat) : ((v.toNat / 2 ^ k : Nat) : Int) % 2 = bt v k := by rw [← bt_eq]; rfl
theorem half_next (v : BitVec 32) (k : Nat) : ((v.toNat / 2 ^ k : Nat) : Int) / 2 = ((v.toNat / 2 ^ (k + 1) : Nat) : Int) := by
  rw [Nat.pow_succ, ← Nat.div_div_eq_div_mul]; rfl
theorem half_bd (v : BitVec 32) (k : Nat) : 0 ≤ ((v.toNat / 2 ^ k : Nat) : Int) ∧ ((v.toNat / 2 ^ k : Nat) : Int) ≤ 4294967295 := by
  have h1 : v.toNat / 2 ^ k ≤ v.toNat := Nat.div_le_self _ _
  have := v.isLt
  generalize v.toNat / 2 ^ k = d at *
  omega
theorem bt_bd (v : BitVec 32) (i : Nat) : 0 ≤ bt v i ∧ bt v i ≤ 1 := by rcases bt_01 v i with h | h <;> omega
theorem half_all (v : BitVec 32) : v.toNat / 2 ^ 32 = 0 := Nat.div_eq_of_lt v.isLt
theorem half_join (v : BitVec 32) (k : Nat) : 2 * ((v.toNat / 2 ^ (k + 1) : Nat) : Int) + bt v k = ((v.toNat / 2 ^ k : Nat) : Int) := by
  rw [← half_next, ← half_bit]; omega
theorem rowF_step (v : BitVec 32) (k : Nat) : (rowF fun i => if i = k then bt v k else if i < k then bt v i else 0) = rowF fun i => if i < k + 1 then bt v i else 0 := by
  refine rowF_congr (fun i hi => ?_)
  by_cases h : i = k
  · subst h; simp
  · by_cases h2 : i < k
    · rw [if_neg h, if_pos h2, if_pos (by omega)]
    · rw [if_neg h, if_neg h2, if_neg (by omega)]
set_option maxRecDepth 20000 in
theorem bits_bv (v : BitVec 32) (w : World) :
    Calls Try.prog 71 #[.int .i32 (S v)] w fun e w' => e = .returned (.agg (rowF (bt v))) ∧ Below w.heap.size w w' := by
  have hx := S_bd v
  have hm := S_mod v
  generalize S v = x at *
  have HM := hid hm
  clear hm
  go_enter Try.func71, Try.ntmps71
  go_wp2_with fail
  refine (rplain_any x _ hx).mono ?_
  rintro e w2 ⟨rfl, rfl⟩
  rw [HM.out]
  go_wp2_with fail
  go_loopw [4, 5] (fun y i wr => ∃ k : Nat, k ≤ 32 ∧ i = .int .i64 k ∧ y = .int .i64 ((v.toNat / 2 ^ k : Nat) : Int) ∧ wr.heap[w.heap.size]? = some (.cells (rowF fun _ => 0) 52 (0, 0)) ∧ wr.heap[w.heap.size + 1]? = some (.cells (rowF fun j => if j < k then bt v j else 0) 52 (0, 0)) ∧ Below w.heap.size w wr) (fun y i _ => 32 - (intOf i).toNat)
  case atStart => exact ⟨0, by omega, rfl, by simp, (heap2_first w _ _).trans rfl, (heap2_snd w _ _).trans (by rw [row0 _ (by intro i _; simp)]; rfl), by go_grown⟩
  case round =>
    obtain ⟨k, hk, rfl, rfl, h0, h1, hwr⟩ := hrel
    by_cases hlt : k < 32
    · have hc := cell_of_row wr (w.heap.size + 1) k _ _ _ h1
      have hf := frozen_of_row wr (w.heap.size + 1) k _ _ h1
      rw [rowF_get _ k hlt] at hc
      have hb := half_bd v k
      have E1 := hid (half_bit v k)
      have E2 := hid (half_next v k)
      have H0 := hid h0
      have H1 := hid h1
      clear h0 h1
      generalize ((v.toNat / 2 ^ k : Nat) : Int) = y at *
      go_wp2_with fail
      go_roundw
      case rel => exact ⟨k + 1, by omega, by go_num, by rw [E2.out], row_far H0.out (by simp) _, by rw [E1.out]; exact (row_set k _ H1.out).trans (by rw [rowF_step]), hwr.setCell (by simp) _⟩
      case measure => simp [intOf]; omega
    · obtain rfl : k = 32 := by omega
      rw [rowF_congr (f := fun j => if j < 32 then bt v j else 0) (g := bt v) (fun i hi => by simp [hi])] at h1
      go_wp2_with (first | refine wpList_load_row rfl 52 (.tmp 3) rfl (w.heap.size + 1) rfl _ _ _ _ h1 Try.underlying52 rfl (by rw [rowF_size]; kernel_rfl) ?_ | refine wpList_store_row rfl 52 (.tmp 2) (.tmp 18) rfl w.heap.size (rowF (bt v)) rfl rfl _ _ h0 (by rw [rowF_size]; kernel_rfl) (by rw [rowF_size, rowF_size]) (rowF_one _) ?_)
      refine bodyPost_ret (results_cell_row rfl _ _ w.heap.size _ (rowF (bt v)) _ _ rfl (setRow_heap _ _ _ _ _ _ h0) Try.underlying52 rfl (by rw [rowF_size]; kernel_rfl)) rfl ⟨rfl, below_setRow hwr (Nat.le_refl _) _⟩
theorem by_any (n : Int) (w : World) (hn : -2147483648 ≤ n ∧ n ≤ 2147483647) :
    Calls Try.prog 76 #[.int .i32 n] w fun e w' => e = .returned (.int .i64 (n % 32)) ∧ w = w' := by
  go_enter Try.func76, Try.ntmps76
  go_wp2_with fail
  refine (mod_any _ _ _ (by omega) (by omega)).mono ?_
  rintro e w2 ⟨rfl, rfl⟩
  go_wp2
  go_ret
  exact ⟨rfl, rfl⟩
set_option maxRecDepth 20000 in
theorem of_bv (v : BitVec 32) (w : World) :
    Calls Try.prog 72 #[.agg (rowF (bt v))] w fun e w' => e = .returned (.int .i32 (S v)) ∧ Below w.heap.size w w' := by
  have hS := hid (S_low v)
  have hlt := v.isLt
  go_enter Try.func72, Try.ntmps72
  go_wp2_with fail
  go_loopw [3, 4] (fun n i wr => ∃ k : Nat, k ≤ 32 ∧ i = .int .i64 ((k : Int) - 1) ∧ n = .int .i64 ((v.toNat / 2 ^ k : Nat) : Int) ∧ wr.heap[w.heap.size]? = some (.cells (rowF (bt v)) 52 (0, 0)) ∧ Below w.heap.size w wr) (fun n i _ => (intOf i + 1).toNat)
  case atStart => exact ⟨32, by omega, rfl, by rw [half_all]; rfl, (heap_alloc_new w _).trans rfl, by go_grown⟩
  case round =>
    obtain ⟨k, hk, rfl, rfl, h0, hwr⟩ := hrel
    cases k with
    | zero =>
      rw [show (((0 : Nat) : Int) - 1) = -1 from rfl, Nat.pow_zero, Nat.div_one]
      go_wp2_with fail
      refine (rlow_any _ _ (by omega)).mono ?_
      rintro e w2 ⟨rfl, rfl⟩
      rw [hS.out]
      go_wp2
      go_ret
      exact ⟨rfl, hwr⟩
    | succ k =>
      have hc := cell_of_row wr w.heap.size k _ _ _ h0
      have hf := frozen_of_row wr w.heap.size k _ _ h0
      rw [rowF_get _ k (by omega)] at hc
      rw [show (((k + 1 : Nat) : Int) - 1) = (k : Int) by omega]
      have hb := half_bd v (k + 1)
      have hb2 := bt_bd v k
      have E := hid (half_join v k)
      have H0 := hid h0
      clear h0
      generalize ((v.toNat / 2 ^ (k + 1) : Nat) : Int) = y at *
      generalize bt v k = b at *
      go_wp2_with fail
      go_roundw
      case rel => exact ⟨k, by omega, rfl, by rw [E.out], H0.out, hwr⟩
      case measure => simp [intOf]
end Go.Proofs.Ytkfffpdhnmjjmab
