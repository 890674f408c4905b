/- errors.Is where the error is a *frame.at that wraps a sentinel: contracts. (Turned from the worked proof SentryIs.) -/
import Derived.Test.YtecbfegohdllbaaDoorBase
import Derived.LaidEql
import Derived.Stop.Asserts
import Derived.RowKitTokens
namespace Go.Proofs.YtecbfegohdllbaaDoor
open Go.RowKit Go.Extern.Stop Go.Stop Go.Extern
set_option linter.unusedVariables false
set_option linter.unusedSimpArgs false
theorem Tryd.isTypeOf (v : Value) (w : World) : (Extern.ReflectliteType.typeOf #[.iface 174 v]).run Tryd.prog w = .ok (.iface 164 (.agg #[.pointer (some ⟨3, 174, none⟩)])) w := by kernel_rfl
theorem Tryd.callTypeOf (v : Value) (w : World) : (callFunc 106 #[.iface 174 v]).run Tryd.prog w = .ok (.value (.iface 164 (.agg #[.pointer (some ⟨3, 174, none⟩)]))) w :=
  (run_callFunc_extern (e := Extern.ReflectliteType.typeOf) Tryd.func106 (by kernel_rfl) (by kernel_rfl) (by kernel_rfl) (by kernel_rfl) _ w).trans (by rw [Tryd.isTypeOf]; rfl)
theorem Tryd.callComparable (w : World) : (callFunc 130 #[.agg #[.pointer (some ⟨3, 174, none⟩)]]).run Tryd.prog w = .ok (.value (.bool true)) w :=
  (run_callFunc_extern (e := Extern.ReflectliteType.method fun t => do Extern.Rtype.noPackHeld "Comparable" t; pure (.bool (← typeInfo t).comparable)) Tryd.func130 (by kernel_rfl) (by kernel_rfl) (by kernel_rfl) (by kernel_rfl) _ w).trans (by kernel_rfl)
theorem Tryd.isMethodComparable (v : Value) (w : World) : (Go.method 309 164 v "Comparable").run Tryd.prog w = .ok (130, v) w := by kernel_rfl
theorem Tryd.isComp : (Tryd.prog.info? 174).map (·.comparable) = some true := by kernel_rfl
theorem Tryd.isSize : (Tryd.prog.info? 198).map (·.size) = some 1 := by kernel_rfl
theorem Tryd.noIsE (v : Value) (xT : TypeId) (w : World) : (Instr.typeAssert (.iface 174 v) xT 166 true).run Tryd.prog w = .ok (.tuple #[.nilIface, .bool false]) w := run_typeAssert_lacksB Tryd.underlying166 (by kernel_rfl) (by kernel_rfl) v xT w
theorem Tryd.noUnwrapE (v : Value) (xT : TypeId) (w : World) : (Instr.typeAssert (.iface 174 v) xT 169 true).run Tryd.prog w = .ok (.tuple #[.nilIface, .bool false]) w := run_typeAssert_lacksB Tryd.underlying169 (by kernel_rfl) (by kernel_rfl) v xT w
theorem Tryd.noUnwrapsE (v : Value) (xT : TypeId) (w : World) : (Instr.typeAssert (.iface 174 v) xT 171 true).run Tryd.prog w = .ok (.tuple #[.nilIface, .bool false]) w := run_typeAssert_lacksB Tryd.underlying171 (by kernel_rfl) (by kernel_rfl) v xT w
theorem Tryd.noIsA (v : Value) (xT : TypeId) (w : World) : (Instr.typeAssert (.iface 144 v) xT 166 true).run Tryd.prog w = .ok (.tuple #[.nilIface, .bool false]) w := run_typeAssert_lacksB Tryd.underlying166 (by kernel_rfl) (by kernel_rfl) v xT w
theorem Tryd.hasUnwrapA (v : Value) (xT : TypeId) (w : World) : (Instr.typeAssert (.iface 144 v) xT 169 true).run Tryd.prog w = .ok (.tuple #[.iface 144 v, .bool true]) w := run_typeAssert_hasB Tryd.underlying169 (by kernel_rfl) v xT w
theorem Tryd.methodUnwrap (v : Value) (w : World) : (Go.method 309 144 v "Unwrap").run Tryd.prog w = .ok (126, v) w := by kernel_rfl
set_option maxRecDepth 20000 in
/-- errors.Is(e, x), e a *frame.at that wraps x itself. -/
theorem eis_same (p : Nat) (b : Addr) (w : World) (h1 : w.cell? ⟨p, 1, none⟩ = some (.iface 174 (.pointer (some b)))) :
    Calls Tryd.prog 96 #[.iface 144 (.pointer (some ⟨p, 0, none⟩)), .iface 174 (.pointer (some b))] w fun e w' => e = .returned (.bool true) ∧ w = w' := by
  obtain ⟨i, hi, hcmp⟩ := Option.map_eq_some_iff.1 Tryd.isComp
  obtain ⟨j, hj, hjs⟩ := Option.map_eq_some_iff.1 Tryd.isSize
  have h8 := Tryd.callTypeOf
  have h32 := Tryd.callComparable
  have mR := Tryd.isMethodComparable
  have nW := Tryd.noIsA
  have uW := Tryd.hasUnwrapA
  have mU := Tryd.methodUnwrap
  have heq := run_eql_iface_ptr_same (P := Tryd.prog) w b Tryd.underlying102 Tryd.underlying174 hi hcmp hj
  have hty := run_eql_iface_types (P := Tryd.prog) 144 174 (.pointer (some ⟨p, 0, none⟩)) (.pointer (some b)) Tryd.underlying102 (by decide) w
  go_enter Tryd.func96, Tryd.ntmps96
  go_wp2
  refine wp_loop_rounds 2 ?_
  rw [rounds_succ]
  go_wp2
  rw [rounds_succ]
  go_wp2
  go_ret
  exact ⟨rfl, rfl⟩
set_option maxRecDepth 20000 in
/-- errors.Is(e, x), e a *frame.at that wraps another error of errors.New's make. -/
theorem eis_other (p : Nat) (a b : Addr) (ca cb : Array Value) (ta tb : TypeId) (w : World) (h1 : w.cell? ⟨p, 1, none⟩ = some (.iface 174 (.pointer (some a)))) (hne : a ≠ b) (ha : w.heap[a.block]? = some (.cells ca ta (0, 0))) (hb : w.heap[b.block]? = some (.cells cb tb (0, 0))) :
    Calls Tryd.prog 96 #[.iface 144 (.pointer (some ⟨p, 0, none⟩)), .iface 174 (.pointer (some b))] w fun e w' => e = .returned (.bool false) ∧ w = w' := by
  obtain ⟨i, hi, hcmp⟩ := Option.map_eq_some_iff.1 Tryd.isComp
  obtain ⟨j, hj, hjs⟩ := Option.map_eq_some_iff.1 Tryd.isSize
  have h8 := Tryd.callTypeOf
  have h32 := Tryd.callComparable
  have mR := Tryd.isMethodComparable
  have nE := Tryd.noIsE
  have uE := Tryd.noUnwrapE
  have vE := Tryd.noUnwrapsE
  have nW := Tryd.noIsA
  have uW := Tryd.hasUnwrapA
  have mU := Tryd.methodUnwrap
  have heq := run_eql_iface_ptr_other (P := Tryd.prog) w Tryd.underlying102 Tryd.underlying174 hi hcmp hj (by rw [hjs]; decide) hne ha hb
  have hty := run_eql_iface_types (P := Tryd.prog) 144 174 (.pointer (some ⟨p, 0, none⟩)) (.pointer (some b)) Tryd.underlying102 (by decide) w
  go_enter Tryd.func96, Tryd.ntmps96
  go_wp2
  refine wp_loop_rounds 2 ?_
  rw [rounds_succ]
  go_wp2
  rw [rounds_succ]
  go_wp2
  go_ret
  exact ⟨rfl, rfl⟩
end Go.Proofs.YtecbfegohdllbaaDoor
