/- Plain facts of layer 31 (sample), and the law of == at its type. -/
import Derived.Test.YtecbfegohdllbaaDoorSampleEq
namespace Go.Proofs.YtecbfegohdllbaaDoor
open Go.RowKit
set_option linter.unusedVariables false
set_option linter.unusedSimpArgs false
theorem half_two {x : Int} (h : inR x) : halfI (256 * (x / 256 % 256) + x % 256) = x := by simp only [inR] at h; unfold halfI; omega
theorem two_hi {a b : Int} (ha : 0 ≤ a ∧ a ≤ 255) (hb : 0 ≤ b ∧ b ≤ 255) : halfI (256 * a + b) / 256 % 256 = a := by unfold halfI; omega
theorem two_lo {a b : Int} (ha : 0 ≤ a ∧ a ≤ 255) (hb : 0 ≤ b ∧ b ≤ 255) : halfI (256 * a + b) % 256 = b := by unfold halfI; omega
theorem seal_take (l : List Int) : (sealL l).take l.length = l := by simp [sealL]
theorem sealN_len (l : List Int) : (sealL l).length = l.length + 2 := by simp [sealL]
theorem nineR_seal (Z : List Int) (hZ : Z.length = 9) (h : ∀ x ∈ Z, inR x) : nineR (sealL (twoB Z)) = Z := by
  obtain ⟨z0, z1, z2, z3, z4, z5, z6, z7, z8, rfl⟩ := nine_list Z hZ
  simp only [List.mem_cons, List.not_mem_nil, or_false, forall_eq_or_imp, forall_eq] at h
  obtain ⟨h0, h1, h2, h3, h4, h5, h6, h7, h8⟩ := h
  unfold sealL
  generalize hiB _ = x
  generalize loB _ = y
  simp only [nineR, show List.range 9 = [0, 1, 2, 3, 4, 5, 6, 7, 8] from rfl, List.map_cons, List.map_nil, twoB, List.flatMap_cons, List.flatMap_nil, List.cons_append, List.nil_append, List.append_nil, List.getD_cons_zero, List.getD_cons_succ, Nat.reduceMul, Nat.reduceAdd]
  rw [half_two h0, half_two h1, half_two h2, half_two h3, half_two h4, half_two h5, half_two h6, half_two h7, half_two h8]
theorem twenty_list (L : List Int) (h : L.length = 20) : ∃ a0 a1 a2 a3 a4 a5 a6 a7 a8 a9 b0 b1 b2 b3 b4 b5 b6 b7 b8 b9, L = [a0, a1, a2, a3, a4, a5, a6, a7, a8, a9, b0, b1, b2, b3, b4, b5, b6, b7, b8, b9] := by
  match L, h with
  | [a0, a1, a2, a3, a4, a5, a6, a7, a8, a9, b0, b1, b2, b3, b4, b5, b6, b7, b8, b9], _ => exact ⟨a0, a1, a2, a3, a4, a5, a6, a7, a8, a9, b0, b1, b2, b3, b4, b5, b6, b7, b8, b9, rfl⟩
theorem twoB_nine (L : List Int) (hL : L.length = 20) (h : ∀ x ∈ L, 0 ≤ x ∧ x ≤ 255) : twoB (nineR L) = L.take 18 := by
  obtain ⟨a0, a1, a2, a3, a4, a5, a6, a7, a8, a9, b0, b1, b2, b3, b4, b5, b6, b7, b8, b9, rfl⟩ := twenty_list L hL
  simp only [List.mem_cons, List.not_mem_nil, or_false, forall_eq_or_imp, forall_eq] at h
  obtain ⟨h0, h1, h2, h3, h4, h5, h6, h7, h8, h9, i0, i1, i2, i3, i4, i5, i6, i7, i8, i9⟩ := h
  simp only [nineR, show List.range 9 = [0, 1, 2, 3, 4, 5, 6, 7, 8] from rfl, List.map_cons, List.map_nil, twoB, List.flatMap_cons, List.flatMap_nil, List.cons_append, List.nil_append, List.append_nil, List.getD_cons_zero, List.getD_cons_succ, Nat.reduceMul, Nat.reduceAdd, List.take_succ_cons, List.take_zero]
  rw [two_hi h0 h1, two_lo h0 h1, two_hi h2 h3, two_lo h2 h3, two_hi h4 h5, two_lo h4 h5, two_hi h6 h7, two_lo h6 h7, two_hi h8 h9, two_lo h8 h9, two_hi i0 i1, two_lo i0 i1, two_hi i2 i3, two_lo i2 i3, two_hi i4 i5, two_lo i4 i5, two_hi i6 i7, two_lo i6 i7]
section
variable {Q : Exit → Act → World → Prop}
theorem wp_eql_sample {o : Oper} {a : Act} {w : World} {K : Act → World → Prop} (x y : Operand) (t : TypeId) (ho : o.op = .binOp .eql 38 x y t)
    (X Y : List Int) (hX : X.length = 9) (hY : Y.length = 9) (hx : a.eval x = .agg (zcells X)) (hy : a.eval y = .agg (zcells Y)) (h : K (a.put o.dst (.bool (decide (X = Y)))) w) : o.wp Tryd.prog a w K Q := by
  unfold Oper.wp execOp
  simp only [ho, hx, hy]
  have h1 := guard_sample x y (zcells X) (zcells Y) w
  have h2 := eql_sample X Y hX hY w
  rw [Sem.run_bind, Sem.run_bind, h1, Result.andThen_ok, h2, Result.andThen_ok, Sem.run_pure]
  exact h
/-- the same, and a row's load, at an operation that may be guarded -/
theorem wpG_eql {ops : Array Oper} {rest : List Oper} {o : Oper} {a : Act} {w : World} (hg : Region.wanted o (yielded ops a.tmps) = true) (x y : Operand) (t : TypeId) (ho : o.op = .binOp .eql 38 x y t)
    (X Y : List Int) (hX : X.length = 9) (hY : Y.length = 9) (hx : a.eval x = .agg (zcells X)) (hy : a.eval y = .agg (zcells Y)) (h : wpList Tryd.prog ops Q rest (a.put o.dst (.bool (decide (X = Y)))) w) : wpList Tryd.prog ops Q (o :: rest) a w :=
  wpList_unguard hg (wpList_plain rfl fun _ hK => wp_eql_sample (o := { o with guard := none }) x y t ho X Y hX hY hx hy (hK _ _ h))
theorem wpG_load {ops : Array Oper} {rest : List Oper} {o : Oper} {a : Act} {w : World} (hg : Region.wanted o (yielded ops a.tmps) = true) (x : Operand) (ho : o.op = .load 38 x)
    (g : Nat) (hx : a.eval x = .pointer (some ⟨g, 0, none⟩)) (Z : List Int) (hZ : Z.length = 9) (t : TypeId) (fr : Nat × Nat) (hc : w.heap[g]? = some (.cells (zcells Z) t fr))
    (h : wpList Tryd.prog ops Q rest (a.put o.dst (.agg (zcells Z))) w) : wpList Tryd.prog ops Q (o :: rest) a w :=
  wpList_unguard hg (wpList_load_row (o := { o with guard := none }) rfl 38 x ho g hx t (zcells Z) fr _ hc Tryd.underlying38 rfl (by rw [zcells_size, hZ]; kernel_rfl) h)
theorem wpG_store {ops : Array Oper} {rest : List Oper} {o : Oper} {a : Act} {w : World} (hg : Region.wanted o (yielded ops a.tmps) = true) (x y : Operand) (ho : o.op = .store 38 x y)
    (g : Nat) (Z Y : List Int) (hZ : Z.length = 9) (hY : Y.length = 9) (hx : a.eval x = .pointer (some ⟨g, 0, none⟩)) (hy : a.eval y = .agg (zcells Z)) (t : TypeId) (hc : w.heap[g]? = some (.cells (zcells Y) t (0, 0)))
    (h : wpList Tryd.prog ops Q rest (a.put o.dst undef) (w.setRow g (zcells Z))) : wpList Tryd.prog ops Q (o :: rest) a w :=
  wpList_unguard hg (wpList_store_row (o := { o with guard := none }) rfl 38 x y ho g (zcells Z) hx hy t (zcells Y) hc (by rw [zcells_size, hZ]; kernel_rfl) (by rw [zcells_size, zcells_size, hZ, hY]) (zcells_one Z) h)
end
end Go.Proofs.YtecbfegohdllbaaDoor
