/- Two samples compared by ==. -/
import Derived.Test.YtecbfegohdllbaaDoorSampleRRef
import Derived.Laws.StructEq
import Derived.ChangeKeysEq
namespace Go.Proofs.YtecbfegohdllbaaDoor
open Go.RowKit
set_option linter.unusedVariables false
set_option linter.unusedSimpArgs false
theorem part_agg (t : TypeId) (n : Nat) (cs : Array Value) (off : Nat) (w : World) (P : Program) (d : TypeDesc) (hu : P.underlying t = some d) (hd : (match d with | .struct _ | .array _ _ => true | _ => false) = true) (hi : (P.info? t).map (·.size) = some n) :
    (part t cs off).run P w = .ok (.agg (cs.extract off (off + n))) w := by
  cases hq : P.info? t with
  | none => rw [hq] at hi; cases hi
  | some i =>
    rw [hq] at hi
    have hz : i.size = n := by simpa using hi
    cases d with
    | struct fs => simp [part, isAgg, run_underlying hu, sizeOf, typeInfo, run_program, hq, hz]
    | array m e => simp [part, isAgg, run_underlying hu, sizeOf, typeInfo, run_program, hq, hz]
    | _ => cases hd
theorem equal_arr3 (P : Program) (w : World) (d : Nat) (t e : TypeId) (x0 x1 x2 y0 y1 y2 : Int) (ht : P.underlying t = some (.array 3 e)) (he : P.underlying e = some (.int .i32)) (hs : (P.info? e).map (·.size) = some 1) :
    (Op.equalIn (d + 2) t (.agg #[.int .i32 x0, .int .i32 x1, .int .i32 x2]) (.agg #[.int .i32 y0, .int .i32 y1, .int .i32 y2])).run P w = .ok (x0 == y0 && (x1 == y1 && x2 == y2)) w := by
  have hk : P.plainKey e = true := by simp [Program.plainKey, he]
  cases hq : P.info? e with
  | none => rw [hq] at hs; cases hs
  | some i =>
    rw [hq] at hs
    have hz : i.size = 1 := by simpa using hs
    rw [Op.equalIn]
    simp only [Sem.run_bind, run_underlying ht, Result.andThen_ok, sizeOf, typeInfo, run_program, hq, Sem.run_pure, hz]
    rw [Std.Legacy.Range.forIn_eq_forIn_range']
    simp only [Std.Legacy.Range.size, Nat.sub_zero, Nat.add_sub_cancel, Nat.div_one, List.range'_succ, List.range'_zero, List.forIn_cons, List.forIn_nil, Nat.mul_one, Nat.zero_add, Nat.reduceAdd, Nat.reduceSub]
    have px0 := fun w => run_part_plain (P := P) w hk (xs := #[.int .i32 x0, .int .i32 x1, .int .i32 x2]) (off := 0) (v := .int .i32 x0) rfl
    have px1 := fun w => run_part_plain (P := P) w hk (xs := #[.int .i32 x0, .int .i32 x1, .int .i32 x2]) (off := 1) (v := .int .i32 x1) rfl
    have px2 := fun w => run_part_plain (P := P) w hk (xs := #[.int .i32 x0, .int .i32 x1, .int .i32 x2]) (off := 2) (v := .int .i32 x2) rfl
    have py0 := fun w => run_part_plain (P := P) w hk (xs := #[.int .i32 y0, .int .i32 y1, .int .i32 y2]) (off := 0) (v := .int .i32 y0) rfl
    have py1 := fun w => run_part_plain (P := P) w hk (xs := #[.int .i32 y0, .int .i32 y1, .int .i32 y2]) (off := 1) (v := .int .i32 y1) rfl
    have py2 := fun w => run_part_plain (P := P) w hk (xs := #[.int .i32 y0, .int .i32 y1, .int .i32 y2]) (off := 2) (v := .int .i32 y2) rfl
    have q0 := fun w => run_equalIn_int (P := P) w d e .i32 .i32 x0 y0 he
    have q1 := fun w => run_equalIn_int (P := P) w d e .i32 .i32 x1 y1 he
    have q2 := fun w => run_equalIn_int (P := P) w d e .i32 .i32 x2 y2 he
    cases h0 : x0 == y0 <;> cases h1 : x1 == y1 <;> cases h2 : x2 == y2 <;> simp only [h0, h1, h2] at q0 q1 q2 <;> simp [px0, px1, px2, py0, py1, py2, q0, q1, q2, -beq_iff_eq]
theorem three_fields {fs : List Field} {t : TypeId} {a b c : Nat} (h : fs.map (fun f => (f.name != "_", f.type, f.offset)) = [(true, t, a), (true, t, b), (true, t, c)]) :
    ∃ f0 f1 f2, fs = [f0, f1, f2] ∧ (f0.name ≠ "_" ∧ f0.type = t ∧ f0.offset = a) ∧ (f1.name ≠ "_" ∧ f1.type = t ∧ f1.offset = b) ∧ (f2.name ≠ "_" ∧ f2.type = t ∧ f2.offset = c) := by
  rcases fs with _ | ⟨f0, _ | ⟨f1, _ | ⟨f2, _ | ⟨f3, r⟩⟩⟩⟩ <;> simp at h
  exact ⟨f0, f1, f2, rfl, h.1, h.2.1, h.2.2⟩
theorem Tryd.fieldsSample : (Tryd.prog.fieldsOf 38).toList.map (fun f => (f.name != "_", f.type, f.offset)) = [(true, 36, 0), (true, 36, 3), (true, 36, 6)] := by kernel_rfl
theorem eql_sample (X Y : List Int) (hX : X.length = 9) (hY : Y.length = 9) (w : World) :
    (binOp .eql 38 (.agg (zcells X)) (.agg (zcells Y))).run Tryd.prog w = .ok (.bool (decide (X = Y))) w := by
  obtain ⟨x0, x1, x2, x3, x4, x5, x6, x7, x8, rfl⟩ := nine_list X hX
  obtain ⟨y0, y1, y2, y3, y4, y5, y6, y7, y8, rfl⟩ := nine_list Y hY
  rw [run_eql_struct]
  have hf := run_equalIn_struct (P := Tryd.prog) w 9999 38 (zcells [x0, x1, x2, x3, x4, x5, x6, x7, x8]) (zcells [y0, y1, y2, y3, y4, y5, y6, y7, y8]) (by kernel_rfl) (by kernel_rfl)
  obtain ⟨f0, f1, f2, hfs, ⟨n0, t0, o0⟩, ⟨n1, t1, o1⟩, ⟨n2, t2, o2⟩⟩ := three_fields Tryd.fieldsSample
  rw [hfs] at hf
  simp only [Op.eqFields, n0, n1, n2, t0, t1, t2, o0, o1, o2, ne_eq, not_false_eq_true, if_true, Sem.run_bind] at hf
  have pa := fun cs off w => part_agg 36 3 cs off w Tryd.prog _ Tryd.underlying36 rfl (by kernel_rfl)
  have qa := fun x0 x1 x2 y0 y1 y2 w => equal_arr3 Tryd.prog w 9997 36 21 x0 x1 x2 y0 y1 y2 Tryd.underlying36 Tryd.underlying21 (by kernel_rfl)
  have e1 : ∀ a0 a1 a2 a3 a4 a5 a6 a7 a8 : Int, (zcells [a0, a1, a2, a3, a4, a5, a6, a7, a8]).extract 0 (0 + 3) = #[.int .i32 a0, .int .i32 a1, .int .i32 a2] := fun _ _ _ _ _ _ _ _ _ => rfl
  have e2 : ∀ a0 a1 a2 a3 a4 a5 a6 a7 a8 : Int, (zcells [a0, a1, a2, a3, a4, a5, a6, a7, a8]).extract 3 (3 + 3) = #[.int .i32 a3, .int .i32 a4, .int .i32 a5] := fun _ _ _ _ _ _ _ _ _ => rfl
  have e3 : ∀ a0 a1 a2 a3 a4 a5 a6 a7 a8 : Int, (zcells [a0, a1, a2, a3, a4, a5, a6, a7, a8]).extract 6 (6 + 3) = #[.int .i32 a6, .int .i32 a7, .int .i32 a8] := fun _ _ _ _ _ _ _ _ _ => rfl
  simp only [pa, Result.andThen_ok, e1, e2, e3, qa, Sem.run_ite, Sem.run_bind, Sem.run_pure] at hf
  rw [show ((Op.equalIn 10000 38 (.agg (zcells [x0, x1, x2, x3, x4, x5, x6, x7, x8])) (.agg (zcells [y0, y1, y2, y3, y4, y5, y6, y7, y8]))).run Tryd.prog w) = _ from hf]
  clear hf pa qa e1 e2 e3
  have ed : decide ([x0, x1, x2, x3, x4, x5, x6, x7, x8] = [y0, y1, y2, y3, y4, y5, y6, y7, y8]) = ((x0 == y0 && (x1 == y1 && x2 == y2)) && ((x3 == y3 && (x4 == y4 && x5 == y5)) && (x6 == y6 && (x7 == y7 && x8 == y8)))) := by
    rw [Bool.eq_iff_iff]; simp [and_assoc]
  rw [ed]
  generalize (x0 == y0 && (x1 == y1 && x2 == y2)) = p
  generalize (x3 == y3 && (x4 == y4 && x5 == y5)) = q
  generalize (x6 == y6 && (x7 == y7 && x8 == y8)) = r
  cases p <;> cases q <;> cases r <;> rfl
theorem guard_sample (x y : Operand) (X Y : Array Value) (w : World) : (eqGuard .eql 38 x y (.agg X) (.agg Y)).run Tryd.prog w = .ok () w := run_eqGuard_agg w .eql 38 x y X Y (by kernel_rfl)
end Go.Proofs.YtecbfegohdllbaaDoor
