/- Two reports compared by ==; a report's row loaded and stored. -/
import Derived.Test.YtecbfegohdllbaaDoorRep
import Derived.Test.YtecbfegohdllbaaDoorSampleFacts
namespace Go.Proofs.YtecbfegohdllbaaDoor
open Go.RowKit
set_option linter.unusedVariables false
set_option linter.unusedSimpArgs false
theorem equal_arr4 (P : Program) (w : World) (d : Nat) (t e : TypeId) (x0 x1 x2 x3 y0 y1 y2 y3 : Int) (ht : P.underlying t = some (.array 4 e)) (he : P.underlying e = some (.int .i32)) (hs : (P.info? e).map (·.size) = some 1) :
    (Op.equalIn (d + 2) t (.agg #[.int .i32 x0, .int .i32 x1, .int .i32 x2, .int .i32 x3]) (.agg #[.int .i32 y0, .int .i32 y1, .int .i32 y2, .int .i32 y3])).run P w = .ok (x0 == y0 && (x1 == y1 && (x2 == y2 && x3 == y3))) w := by
  have hk : P.plainKey e = true := by simp [Program.plainKey, he]
  cases hq : P.info? e with
  | none => rw [hq] at hs; cases hs
  | some i =>
    rw [hq] at hs
    have hz : i.size = 1 := by simpa using hs
    rw [Op.equalIn]
    simp only [Sem.run_bind, run_underlying ht, Result.andThen_ok, sizeOf, typeInfo, run_program, hq, Sem.run_pure, hz]
    rw [Std.Legacy.Range.forIn_eq_forIn_range']
    simp only [Std.Legacy.Range.size, Nat.sub_zero, Nat.add_sub_cancel, Nat.div_one, List.range'_succ, List.range'_zero, List.forIn_cons, List.forIn_nil, Nat.mul_one, Nat.zero_add, Nat.reduceAdd, Nat.reduceSub]
    have px0 := fun w => run_part_plain (P := P) w hk (xs := #[.int .i32 x0, .int .i32 x1, .int .i32 x2, .int .i32 x3]) (off := 0) (v := .int .i32 x0) rfl
    have px1 := fun w => run_part_plain (P := P) w hk (xs := #[.int .i32 x0, .int .i32 x1, .int .i32 x2, .int .i32 x3]) (off := 1) (v := .int .i32 x1) rfl
    have px2 := fun w => run_part_plain (P := P) w hk (xs := #[.int .i32 x0, .int .i32 x1, .int .i32 x2, .int .i32 x3]) (off := 2) (v := .int .i32 x2) rfl
    have px3 := fun w => run_part_plain (P := P) w hk (xs := #[.int .i32 x0, .int .i32 x1, .int .i32 x2, .int .i32 x3]) (off := 3) (v := .int .i32 x3) rfl
    have py0 := fun w => run_part_plain (P := P) w hk (xs := #[.int .i32 y0, .int .i32 y1, .int .i32 y2, .int .i32 y3]) (off := 0) (v := .int .i32 y0) rfl
    have py1 := fun w => run_part_plain (P := P) w hk (xs := #[.int .i32 y0, .int .i32 y1, .int .i32 y2, .int .i32 y3]) (off := 1) (v := .int .i32 y1) rfl
    have py2 := fun w => run_part_plain (P := P) w hk (xs := #[.int .i32 y0, .int .i32 y1, .int .i32 y2, .int .i32 y3]) (off := 2) (v := .int .i32 y2) rfl
    have py3 := fun w => run_part_plain (P := P) w hk (xs := #[.int .i32 y0, .int .i32 y1, .int .i32 y2, .int .i32 y3]) (off := 3) (v := .int .i32 y3) rfl
    have q0 := fun w => run_equalIn_int (P := P) w d e .i32 .i32 x0 y0 he
    have q1 := fun w => run_equalIn_int (P := P) w d e .i32 .i32 x1 y1 he
    have q2 := fun w => run_equalIn_int (P := P) w d e .i32 .i32 x2 y2 he
    have q3 := fun w => run_equalIn_int (P := P) w d e .i32 .i32 x3 y3 he
    cases h0 : x0 == y0 <;> cases h1 : x1 == y1 <;> cases h2 : x2 == y2 <;> cases h3 : x3 == y3 <;> simp only [h0, h1, h2, h3] at q0 q1 q2 q3 <;> simp [px0, px1, px2, px3, py0, py1, py2, py3, q0, q1, q2, q3, -beq_iff_eq]
theorem six_fields {fs : List Field} {l : List (Bool × TypeId × Nat)} (h : fs.map (fun f => (f.name != "_", f.type, f.offset)) = l) {t0 t1 t2 t3 t4 t5 : TypeId} {a0 a1 a2 a3 a4 a5 : Nat} (hl : l = [(true, t0, a0), (true, t1, a1), (true, t2, a2), (true, t3, a3), (true, t4, a4), (true, t5, a5)]) :
    ∃ f0 f1 f2 f3 f4 f5, fs = [f0, f1, f2, f3, f4, f5] ∧ (f0.name ≠ "_" ∧ f0.type = t0 ∧ f0.offset = a0) ∧ (f1.name ≠ "_" ∧ f1.type = t1 ∧ f1.offset = a1) ∧ (f2.name ≠ "_" ∧ f2.type = t2 ∧ f2.offset = a2) ∧ (f3.name ≠ "_" ∧ f3.type = t3 ∧ f3.offset = a3) ∧ (f4.name ≠ "_" ∧ f4.type = t4 ∧ f4.offset = a4) ∧ (f5.name ≠ "_" ∧ f5.type = t5 ∧ f5.offset = a5) := by
  subst hl
  rcases fs with _ | ⟨f0, _ | ⟨f1, _ | ⟨f2, _ | ⟨f3, _ | ⟨f4, _ | ⟨f5, _ | ⟨f6, r⟩⟩⟩⟩⟩⟩⟩ <;> simp at h
  exact ⟨f0, f1, f2, f3, f4, f5, rfl, h.1, h.2.1, h.2.2.1, h.2.2.2.1, h.2.2.2.2.1, h.2.2.2.2.2⟩
theorem Tryd.fieldsReport : (Tryd.prog.fieldsOf 50).toList.map (fun f => (f.name != "_", f.type, f.offset)) = [(true, 3, 0), (true, 3, 1), (true, 3, 2), (true, 3, 3), (true, 48, 4), (true, 36, 8)] := by kernel_rfl
set_option maxHeartbeats 1000000 in
theorem eql_report (X Y : List Int) (hX : X.length = 11) (hY : Y.length = 11) (w : World) :
    (binOp .eql 50 (.agg (rcells X)) (.agg (rcells Y))).run Tryd.prog w = .ok (.bool (decide (X = Y))) w := by
  obtain ⟨x0, x1, x2, x3, x4, x5, x6, x7, x8, x9, x10, rfl⟩ := eleven_list X hX
  obtain ⟨y0, y1, y2, y3, y4, y5, y6, y7, y8, y9, y10, rfl⟩ := eleven_list Y hY
  rw [run_eql_struct]
  have hf := run_equalIn_struct (P := Tryd.prog) w 9999 50 (rcells [x0, x1, x2, x3, x4, x5, x6, x7, x8, x9, x10]) (rcells [y0, y1, y2, y3, y4, y5, y6, y7, y8, y9, y10]) (by kernel_rfl) (by kernel_rfl)
  obtain ⟨f0, f1, f2, f3, f4, f5, hfs, ⟨n0, t0, o0⟩, ⟨n1, t1, o1⟩, ⟨n2, t2, o2⟩, ⟨n3, t3, o3⟩, ⟨n4, t4, o4⟩, ⟨n5, t5, o5⟩⟩ := six_fields Tryd.fieldsReport rfl
  rw [hfs] at hf
  simp only [Op.eqFields, n0, n1, n2, n3, n4, n5, t0, t1, t2, t3, t4, t5, o0, o1, o2, o3, o4, o5, ne_eq, not_false_eq_true, if_true, Sem.run_bind] at hf
  have ki : Tryd.prog.plainKey 3 = true := by kernel_rfl
  have ix0 := fun w => run_part_plain (P := Tryd.prog) w ki (xs := rcells [x0, x1, x2, x3, x4, x5, x6, x7, x8, x9, x10]) (off := 0) (v := .int .i64 x0) rfl
  have ix1 := fun w => run_part_plain (P := Tryd.prog) w ki (xs := rcells [x0, x1, x2, x3, x4, x5, x6, x7, x8, x9, x10]) (off := 1) (v := .int .i64 x1) rfl
  have ix2 := fun w => run_part_plain (P := Tryd.prog) w ki (xs := rcells [x0, x1, x2, x3, x4, x5, x6, x7, x8, x9, x10]) (off := 2) (v := .int .i64 x2) rfl
  have ix3 := fun w => run_part_plain (P := Tryd.prog) w ki (xs := rcells [x0, x1, x2, x3, x4, x5, x6, x7, x8, x9, x10]) (off := 3) (v := .int .i64 x3) rfl
  have iy0 := fun w => run_part_plain (P := Tryd.prog) w ki (xs := rcells [y0, y1, y2, y3, y4, y5, y6, y7, y8, y9, y10]) (off := 0) (v := .int .i64 y0) rfl
  have iy1 := fun w => run_part_plain (P := Tryd.prog) w ki (xs := rcells [y0, y1, y2, y3, y4, y5, y6, y7, y8, y9, y10]) (off := 1) (v := .int .i64 y1) rfl
  have iy2 := fun w => run_part_plain (P := Tryd.prog) w ki (xs := rcells [y0, y1, y2, y3, y4, y5, y6, y7, y8, y9, y10]) (off := 2) (v := .int .i64 y2) rfl
  have iy3 := fun w => run_part_plain (P := Tryd.prog) w ki (xs := rcells [y0, y1, y2, y3, y4, y5, y6, y7, y8, y9, y10]) (off := 3) (v := .int .i64 y3) rfl
  have q4 := fun cs w => part_agg 48 4 cs 4 w Tryd.prog _ Tryd.underlying48 rfl (by kernel_rfl)
  have q3 := fun cs w => part_agg 36 3 cs 8 w Tryd.prog _ Tryd.underlying36 rfl (by kernel_rfl)
  have r4 := fun x0 x1 x2 x3 y0 y1 y2 y3 w => equal_arr4 Tryd.prog w 9997 48 21 x0 x1 x2 x3 y0 y1 y2 y3 Tryd.underlying48 Tryd.underlying21 (by kernel_rfl)
  have r3 := fun x0 x1 x2 y0 y1 y2 w => equal_arr3 Tryd.prog w 9997 36 21 x0 x1 x2 y0 y1 y2 Tryd.underlying36 Tryd.underlying21 (by kernel_rfl)
  have ri := fun x y w => run_equalIn_int (P := Tryd.prog) w 9998 3 .i64 .i64 x y Tryd.underlying3
  have ex4 : (rcells [x0, x1, x2, x3, x4, x5, x6, x7, x8, x9, x10]).extract 4 (4 + 4) = #[.int .i32 x4, .int .i32 x5, .int .i32 x6, .int .i32 x7] := rfl
  have ex3 : (rcells [x0, x1, x2, x3, x4, x5, x6, x7, x8, x9, x10]).extract 8 (8 + 3) = #[.int .i32 x8, .int .i32 x9, .int .i32 x10] := rfl
  have ey4 : (rcells [y0, y1, y2, y3, y4, y5, y6, y7, y8, y9, y10]).extract 4 (4 + 4) = #[.int .i32 y4, .int .i32 y5, .int .i32 y6, .int .i32 y7] := rfl
  have ey3 : (rcells [y0, y1, y2, y3, y4, y5, y6, y7, y8, y9, y10]).extract 8 (8 + 3) = #[.int .i32 y8, .int .i32 y9, .int .i32 y10] := rfl
  simp only [ix0, ix1, ix2, ix3, iy0, iy1, iy2, iy3, q4, q3, Result.andThen_ok, ex4, ex3, ey4, ey3, r4, r3, ri, Sem.run_ite, Sem.run_bind, Sem.run_pure] at hf
  rw [show ((Op.equalIn 10000 50 (.agg (rcells [x0, x1, x2, x3, x4, x5, x6, x7, x8, x9, x10])) (.agg (rcells [y0, y1, y2, y3, y4, y5, y6, y7, y8, y9, y10]))).run Tryd.prog w) = _ from hf]
  clear hf q4 q3 r4 r3 ri ex4 ex3 ey4 ey3 ix0 ix1 ix2 ix3 iy0 iy1 iy2 iy3
  have ed : decide ([x0, x1, x2, x3, x4, x5, x6, x7, x8, x9, x10] = [y0, y1, y2, y3, y4, y5, y6, y7, y8, y9, y10]) = ((x0 == y0) && ((x1 == y1) && ((x2 == y2) && ((x3 == y3) && ((x4 == y4 && (x5 == y5 && (x6 == y6 && x7 == y7))) && (x8 == y8 && (x9 == y9 && x10 == y10))))))) := by
    rw [Bool.eq_iff_iff]; simp [and_assoc]
  rw [ed]
  generalize (x4 == y4 && (x5 == y5 && (x6 == y6 && x7 == y7))) = p
  generalize (x8 == y8 && (x9 == y9 && x10 == y10)) = q
  generalize (x0 == y0) = c0
  generalize (x1 == y1) = c1
  generalize (x2 == y2) = c2
  generalize (x3 == y3) = c3
  cases p <;> cases q <;> cases c0 <;> cases c1 <;> cases c2 <;> cases c3 <;> rfl
theorem guard_report (o : BinOp) (x y : Operand) (X Y : Array Value) (w : World) : (eqGuard o 50 x y (.agg X) (.agg Y)).run Tryd.prog w = .ok () w := run_eqGuard_agg w o 50 x y X Y (by kernel_rfl)
section
variable {Q : Exit → Act → World → Prop}
theorem wp_eql_report {o : Oper} {a : Act} {w : World} {K : Act → World → Prop} (x y : Operand) (t : TypeId) (ho : o.op = .binOp .eql 50 x y t)
    (X Y : List Int) (hX : X.length = 11) (hY : Y.length = 11) (hx : a.eval x = .agg (rcells X)) (hy : a.eval y = .agg (rcells Y)) (h : K (a.put o.dst (.bool (decide (X = Y)))) w) : o.wp Tryd.prog a w K Q := by
  unfold Oper.wp execOp
  simp only [ho, hx, hy]
  have h1 := guard_report .eql x y (rcells X) (rcells Y) w
  have h2 := eql_report X Y hX hY w
  rw [Sem.run_bind, Sem.run_bind, h1, Result.andThen_ok, h2, Result.andThen_ok, Sem.run_pure]
  exact h
theorem wpR_eql {ops : Array Oper} {rest : List Oper} {o : Oper} {a : Act} {w : World} (hg : Region.wanted o (yielded ops a.tmps) = true) (x y : Operand) (t : TypeId) (ho : o.op = .binOp .eql 50 x y t)
    (X Y : List Int) (hX : X.length = 11) (hY : Y.length = 11) (hx : a.eval x = .agg (rcells X)) (hy : a.eval y = .agg (rcells Y)) (h : wpList Tryd.prog ops Q rest (a.put o.dst (.bool (decide (X = Y)))) w) : wpList Tryd.prog ops Q (o :: rest) a w :=
  wpList_unguard hg (wpList_plain rfl fun _ hK => wp_eql_report (o := { o with guard := none }) x y t ho X Y hX hY hx hy (hK _ _ h))
theorem wpR_load {ops : Array Oper} {rest : List Oper} {o : Oper} {a : Act} {w : World} (hg : Region.wanted o (yielded ops a.tmps) = true) (x : Operand) (ho : o.op = .load 50 x)
    (g : Nat) (hx : a.eval x = .pointer (some ⟨g, 0, none⟩)) (Z : List Int) (hZ : Z.length = 11) (t : TypeId) (fr : Nat × Nat) (hc : w.heap[g]? = some (.cells (rcells Z) t fr))
    (h : wpList Tryd.prog ops Q rest (a.put o.dst (.agg (rcells Z))) w) : wpList Tryd.prog ops Q (o :: rest) a w :=
  wpList_unguard hg (wpList_load_row (o := { o with guard := none }) rfl 50 x ho g hx t (rcells Z) fr _ hc Tryd.underlying50 rfl (by rw [rcells_size Z hZ]; kernel_rfl) h)
theorem wpR_store {ops : Array Oper} {rest : List Oper} {o : Oper} {a : Act} {w : World} (hg : Region.wanted o (yielded ops a.tmps) = true) (x y : Operand) (ho : o.op = .store 50 x y)
    (g : Nat) (Z Y : List Int) (hZ : Z.length = 11) (hY : Y.length = 11) (hx : a.eval x = .pointer (some ⟨g, 0, none⟩)) (hy : a.eval y = .agg (rcells Z)) (t : TypeId) (hc : w.heap[g]? = some (.cells (rcells Y) t (0, 0)))
    (h : wpList Tryd.prog ops Q rest (a.put o.dst undef) (w.setRow g (rcells Z))) : wpList Tryd.prog ops Q (o :: rest) a w :=
  wpList_unguard hg (wpList_store_row (o := { o with guard := none }) rfl 50 x y ho g (rcells Z) hx hy t (rcells Y) hc (by rw [rcells_size Z hZ]; kernel_rfl) (by rw [rcells_size Z hZ, rcells_size Y hY]) (rcells_one Z) h)
end
end Go.Proofs.YtecbfegohdllbaaDoor
