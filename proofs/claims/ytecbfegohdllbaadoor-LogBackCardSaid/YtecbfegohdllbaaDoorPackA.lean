/- Texts of this proof, merged: Base Errs Each EachF Round EachG Heap Bits Word Own CrcMath Crc CrcFacts CrcAwake Ref01 Turns EachL RoundOps. -/
import Derived.Test.YtecbfegohdllbaaDoorProg
import Derived.WalkKit
import Derived.Below
import Derived.LaidEql
import Derived.Stop.Asserts
import Derived.RowKitTokens
import Derived.OrdersHeld
import Derived.Deep.RegionHeld3
import Derived.OrdersIn
import Derived.RangeFuncWrites
import Derived.RangeFuncCalls
import Derived.TacticsIn
import Derived.Laws.Rows
import Derived.Laws.BitsAllLaws
import Derived.OwnWalk
import Derived.Handy
import Derived.Laws.BytesArg
import Derived.Laws.AppendOwnNone
import Derived.Laws.EntriesVeiled
import Derived.Deep.AppendSrc
import Derived.Lib.SlBytesConst
import Derived.Deep.QuietTactic
import Derived.BigQuiet
import Derived.RangeFuncNested
import Derived.Laws.CopyOwn
section
/- Small words for all walks of this seat: results as numbers and truths. -/
namespace Go.Proofs.YtecbfegohdllbaaDoor
open Go.RowKit
theorem hid {p : Prop} (h : p) : Hid p := h
theorem ret_int {k : IntKind} {a b : Int} (h : a = b) : Ending.returned (.int k a) = .returned (.int k b) := by rw [h]
theorem ret_bool {a b : Bool} (h : a = b) : Ending.returned (.bool a) = .returned (.bool b) := by rw [h]
theorem bcell {W w1 : World} (hb : Below W.heap.size W w1) : (∀ b o, b < W.heap.size → w1.cell? ⟨b, o, none⟩ = W.cell? ⟨b, o, none⟩) ∧ (∀ b o, b < W.heap.size → w1.frozen? ⟨b, o, none⟩ = W.frozen? ⟨b, o, none⟩) :=
  ⟨fun b o h => hb.cell (p := ⟨b, o, none⟩) h, fun b o h => hb.frozen (p := ⟨b, o, none⟩) h⟩
theorem bd_i32 {n : Int} (h : (Lit.int .i32 n).wf = true) : -2147483648 ≤ n ∧ n ≤ 2147483647 := by
  simpa [Lit.wf, IntKind.min, IntKind.max, IntKind.signed, IntKind.bits] using h
theorem bd_i64 {n : Int} (h : (Lit.int .i64 n).wf = true) : -9223372036854775808 ≤ n ∧ n ≤ 9223372036854775807 := by
  simpa [Lit.wf, IntKind.min, IntKind.max, IntKind.signed, IntKind.bits] using h
theorem bd_u8 {n : Int} (h : (Lit.int .u8 n).wf = true) : 0 ≤ n ∧ n ≤ 255 := by
  simpa [Lit.wf, IntKind.min, IntKind.max, IntKind.signed, IntKind.bits] using h
theorem bd_u16 {n : Int} (h : (Lit.int .u16 n).wf = true) : 0 ≤ n ∧ n ≤ 65535 := by
  simpa [Lit.wf, IntKind.min, IntKind.max, IntKind.signed, IntKind.bits] using h
theorem ownsRow_empty {w : World} {base n : Nat} {e : TypeId} (hn : w.heap.size = n) (hb : base ≤ n) : (w.alloc (.cells #[] e)).ownsRow base e 1 (.slice (some ⟨n, 0, none⟩) 0 0) 0 [] := by
  subst hn; exact World.ownsRow_made w #[] 0 hb (Nat.zero_le _) rfl
theorem add_plain (b off i : Nat) : (⟨b, off, none⟩ : Addr).add i = ⟨b, off + i, none⟩ := by unfold Addr.add; split <;> simp_all
/-- a slice value that reads as these numbers -/
def Reads (k : IntKind) (w : World) (v : Value) (l : List Int) : Prop :=
  ∃ (a : Option Addr) (c : Nat), v = .slice a l.length c ∧ l.length ≤ c ∧ c ≤ maxLen ∧ (∀ x ∈ l, (Lit.int k x).wf = true) ∧ (a = none → l = [] ∧ c = 0) ∧
    ∀ b, a = some b → ∀ (i : Nat) (h : i < l.length), w.cell? (b.add i) = some (.int k l[i])
/-- where there is a number at all: the cells' plain places -/
theorem Reads.plain {k : IntKind} {w : World} {v : Value} {l : List Int} (h : Reads k w v l) (hl : 0 < l.length) :
    ∃ b off c, v = .slice (some ⟨b, off, none⟩) l.length c ∧ l.length ≤ c ∧ c ≤ maxLen ∧ b < w.heap.size ∧ ∀ (i : Nat) (h : i < l.length), w.cell? ⟨b, off + i, none⟩ = some (.int k l[i]) := by
  obtain ⟨a, c, rfl, h1, h2, h3, h4, h5⟩ := h
  rcases a with _ | ⟨b, off, spot⟩
  · have := (h4 rfl).1; subst this; simp at hl
  · have h6 := h5 _ rfl
    have h0 := h6 0 hl
    have hsp : spot = none := by simpa [Addr.add] using World.cell?_spot h0
    subst hsp
    refine ⟨b, off, c, rfl, h1, h2, ?_, fun i hi => by rw [← add_plain]; exact h6 i hi⟩
    simp only [World.cell?] at h0
    split at h0
    · rename_i hb; exact (Array.getElem?_eq_some_iff.1 hb).1
    · cases h0
theorem reads_of_owns {k : IntKind} {w : World} {base : Nat} {e : TypeId} {v : Value} {n : Nat} {l : List Int} (h : w.ownsRow base e 1 v n (l.map (Value.int k))) (hw : ∀ x ∈ l, (Lit.int k x).wf = true) : Reads k w v l := by
  obtain ⟨hl, h⟩ := h
  simp at hl
  subst hl
  rcases h with ⟨rfl, hn⟩ | ⟨g, cap, cur, rfl, hg, hc, h1, h2, h3, h4⟩
  · exact ⟨none, 0, by rw [hn], by omega, Nat.zero_le _, hw, fun _ => ⟨List.length_eq_zero_iff.1 hn, rfl⟩, fun b hb => by cases hb⟩
  · refine ⟨some ⟨g, 0, none⟩, cap, rfl, h1, h2, hw, fun h => (by cases h), ?_⟩
    intro b hb
    obtain rfl := Option.some.inj hb
    intro i hi
    have e1 : (l.map (Value.int k))[i]? = some (.int k l[i]) := by simp [hi]
    rw [← h4, List.getElem?_take] at e1
    simp only [Nat.mul_one] at e1
    rw [if_pos hi] at e1
    simp [World.cell?, hc, add_plain]
    simpa using e1
theorem Reads.below {k : IntKind} {w w' : World} {B : Nat} {v : Value} {l : List Int} (h : Reads k w v l) (hb : Below B w w') (hlt : ∀ b, v.ownBlock = some b → b < B) : Reads k w' v l := by
  obtain ⟨a, c, rfl, h1, h2, h3, h4, h5⟩ := h
  refine ⟨a, c, rfl, h1, h2, h3, h4, fun b hb' i hi => ?_⟩
  subst hb'
  rw [hb.cell (p := b.add i) (by have := hlt _ rfl; unfold Addr.add; split <;> exact this)]
  exact h5 _ rfl i hi
theorem Reads.later {k : IntKind} {w w' : World} {v : Value} {l : List Int} (h : Reads k w v l) (hb : Below w.heap.size w w') : Reads k w' v l := by
  by_cases hl : 0 < l.length
  · obtain ⟨b, off, c, rfl, h1, h2, h3, h4⟩ := h.plain hl
    exact h.below hb (fun b' hb' => by simp [Value.ownBlock] at hb'; omega)
  · obtain ⟨a, c, rfl, h1, h2, h3, h4, h5⟩ := h
    exact ⟨a, c, rfl, h1, h2, h3, h4, fun b hb' i hi => by omega⟩
theorem Reads.take {k : IntKind} {w : World} {a : Option Addr} {n c : Nat} {l : List Int} (h : Reads k w (.slice a n c) l) (m : Nat) (hm : m ≤ l.length) : Reads k w (.slice a m c) (l.take m) := by
  obtain ⟨a', c', hv, h1, h2, h3, h4, h5⟩ := h
  obtain ⟨rfl, rfl, rfl⟩ := Value.slice.inj hv
  have hl : (l.take m).length = m := by simp; omega
  refine ⟨a, c, by rw [hl], by omega, h2, fun x hx => h3 x (List.mem_of_mem_take hx), fun h => ?_, fun b hb i hi => ?_⟩
  · obtain ⟨rfl, rfl⟩ := h4 h; simp
  · rw [h5 b hb i (by omega)]; simp
/-- what a shell tells of a slice of integers that came in -/
def IsRow (k : IntKind) (w : World) (a : Option Addr) (len cap : Nat) (zs : List Int) : Prop :=
  (a = none ∧ len = 0 ∧ cap = 0 ∧ zs = []) ∨
  ∃ x, a = some x ∧ len ≤ cap ∧ cap ≤ maxLen ∧ zs.length = cap ∧ (∀ i, i < zs.length → w.cell? (x.add i) = some (.int k (zs.getD i 0))) ∧ ∀ n ∈ zs, (Lit.int k n).wf = true
theorem IsRow.reads {k : IntKind} {w : World} {a : Option Addr} {len cap : Nat} {zs : List Int} (h : IsRow k w a len cap zs) : (zs.take len).length = len ∧ Reads k w (.slice a len cap) (zs.take len) := by
  rcases h with ⟨rfl, rfl, rfl, rfl⟩ | ⟨x, rfl, h1, h2, h3, h4, h5⟩
  · exact ⟨rfl, none, 0, rfl, by simp, by simp [maxLen], by simp, fun _ => ⟨rfl, rfl⟩, fun b hb => by cases hb⟩
  · have hl : (zs.take len).length = len := by simp; omega
    refine ⟨hl, some x, cap, by rw [hl], by omega, h2, fun n hn => h5 n (List.mem_of_mem_take hn), fun h => (by cases h), fun b hb => ?_⟩
    obtain rfl := Option.some.inj hb
    intro i hi
    rw [h4 i (by omega)]
    simp [List.getD, List.getElem?_eq_getElem (show i < zs.length by omega)]
theorem chain {w w1 w2 : World} (h : Below w.heap.size w w1) (k : Below w1.heap.size w1 w2) : Below w.heap.size w w2 := h.trans (k.mono h.size)
end Go.Proofs.YtecbfegohdllbaaDoor
end
section
/- errors.Is where the error is a *frame.at that wraps a sentinel: contracts. (Turned from the worked proof SentryIs.) -/
namespace Go.Proofs.YtecbfegohdllbaaDoor
open Go.RowKit Go.Extern.Stop Go.Stop Go.Extern
set_option linter.unusedVariables false
set_option linter.unusedSimpArgs false
theorem Tryd.isTypeOf (v : Value) (w : World) : (Extern.ReflectliteType.typeOf #[.iface 174 v]).run Tryd.prog w = .ok (.iface 164 (.agg #[.pointer (some ⟨3, 174, none⟩)])) w := by kernel_rfl
theorem Tryd.callTypeOf (v : Value) (w : World) : (callFunc 106 #[.iface 174 v]).run Tryd.prog w = .ok (.value (.iface 164 (.agg #[.pointer (some ⟨3, 174, none⟩)]))) w :=
  (run_callFunc_extern (e := Extern.ReflectliteType.typeOf) Tryd.func106 (by kernel_rfl) (by kernel_rfl) (by kernel_rfl) (by kernel_rfl) _ w).trans (by rw [Tryd.isTypeOf]; rfl)
theorem Tryd.callComparable (w : World) : (callFunc 130 #[.agg #[.pointer (some ⟨3, 174, none⟩)]]).run Tryd.prog w = .ok (.value (.bool true)) w :=
  (run_callFunc_extern (e := Extern.ReflectliteType.method fun t => do Extern.Rtype.noPackHeld "Comparable" t; pure (.bool (← typeInfo t).comparable)) Tryd.func130 (by kernel_rfl) (by kernel_rfl) (by kernel_rfl) (by kernel_rfl) _ w).trans (by kernel_rfl)
theorem Tryd.isMethodComparable (v : Value) (w : World) : (Go.method 309 164 v "Comparable").run Tryd.prog w = .ok (130, v) w := by kernel_rfl
theorem Tryd.isComp : (Tryd.prog.info? 174).map (·.comparable) = some true := by kernel_rfl
theorem Tryd.isSize : (Tryd.prog.info? 198).map (·.size) = some 1 := by kernel_rfl
theorem Tryd.noIsE (v : Value) (xT : TypeId) (w : World) : (Instr.typeAssert (.iface 174 v) xT 166 true).run Tryd.prog w = .ok (.tuple #[.nilIface, .bool false]) w := run_typeAssert_lacksB Tryd.underlying166 (by kernel_rfl) (by kernel_rfl) v xT w
theorem Tryd.noUnwrapE (v : Value) (xT : TypeId) (w : World) : (Instr.typeAssert (.iface 174 v) xT 169 true).run Tryd.prog w = .ok (.tuple #[.nilIface, .bool false]) w := run_typeAssert_lacksB Tryd.underlying169 (by kernel_rfl) (by kernel_rfl) v xT w
theorem Tryd.noUnwrapsE (v : Value) (xT : TypeId) (w : World) : (Instr.typeAssert (.iface 174 v) xT 171 true).run Tryd.prog w = .ok (.tuple #[.nilIface, .bool false]) w := run_typeAssert_lacksB Tryd.underlying171 (by kernel_rfl) (by kernel_rfl) v xT w
theorem Tryd.noIsA (v : Value) (xT : TypeId) (w : World) : (Instr.typeAssert (.iface 144 v) xT 166 true).run Tryd.prog w = .ok (.tuple #[.nilIface, .bool false]) w := run_typeAssert_lacksB Tryd.underlying166 (by kernel_rfl) (by kernel_rfl) v xT w
theorem Tryd.hasUnwrapA (v : Value) (xT : TypeId) (w : World) : (Instr.typeAssert (.iface 144 v) xT 169 true).run Tryd.prog w = .ok (.tuple #[.iface 144 v, .bool true]) w := run_typeAssert_hasB Tryd.underlying169 (by kernel_rfl) v xT w
theorem Tryd.methodUnwrap (v : Value) (w : World) : (Go.method 309 144 v "Unwrap").run Tryd.prog w = .ok (126, v) w := by kernel_rfl
set_option maxRecDepth 20000 in
/-- errors.Is(e, x), e a *frame.at that wraps x itself. -/
theorem eis_same (p : Nat) (b : Addr) (w : World) (h1 : w.cell? ⟨p, 1, none⟩ = some (.iface 174 (.pointer (some b)))) :
    Calls Tryd.prog 96 #[.iface 144 (.pointer (some ⟨p, 0, none⟩)), .iface 174 (.pointer (some b))] w fun e w' => e = .returned (.bool true) ∧ w = w' := by
  obtain ⟨i, hi, hcmp⟩ := Option.map_eq_some_iff.1 Tryd.isComp
  obtain ⟨j, hj, hjs⟩ := Option.map_eq_some_iff.1 Tryd.isSize
  have h8 := Tryd.callTypeOf
  have h32 := Tryd.callComparable
  have mR := Tryd.isMethodComparable
  have nW := Tryd.noIsA
  have uW := Tryd.hasUnwrapA
  have mU := Tryd.methodUnwrap
  have heq := run_eql_iface_ptr_same (P := Tryd.prog) w b Tryd.underlying102 Tryd.underlying174 hi hcmp hj
  have hty := run_eql_iface_types (P := Tryd.prog) 144 174 (.pointer (some ⟨p, 0, none⟩)) (.pointer (some b)) Tryd.underlying102 (by decide) w
  go_enter Tryd.func96, Tryd.ntmps96
  go_wp2
  refine wp_loop_rounds 2 ?_
  rw [rounds_succ]
  go_wp2
  rw [rounds_succ]
  go_wp2
  go_ret
  exact ⟨rfl, rfl⟩
set_option maxRecDepth 20000 in
/-- errors.Is(e, x), e a *frame.at that wraps another error of errors.New's make. -/
theorem eis_other (p : Nat) (a b : Addr) (ca cb : Array Value) (ta tb : TypeId) (w : World) (h1 : w.cell? ⟨p, 1, none⟩ = some (.iface 174 (.pointer (some a)))) (hne : a ≠ b) (ha : w.heap[a.block]? = some (.cells ca ta (0, 0))) (hb : w.heap[b.block]? = some (.cells cb tb (0, 0))) :
    Calls Tryd.prog 96 #[.iface 144 (.pointer (some ⟨p, 0, none⟩)), .iface 174 (.pointer (some b))] w fun e w' => e = .returned (.bool false) ∧ w = w' := by
  obtain ⟨i, hi, hcmp⟩ := Option.map_eq_some_iff.1 Tryd.isComp
  obtain ⟨j, hj, hjs⟩ := Option.map_eq_some_iff.1 Tryd.isSize
  have h8 := Tryd.callTypeOf
  have h32 := Tryd.callComparable
  have mR := Tryd.isMethodComparable
  have nE := Tryd.noIsE
  have uE := Tryd.noUnwrapE
  have vE := Tryd.noUnwrapsE
  have nW := Tryd.noIsA
  have uW := Tryd.hasUnwrapA
  have mU := Tryd.methodUnwrap
  have heq := run_eql_iface_ptr_other (P := Tryd.prog) w Tryd.underlying102 Tryd.underlying174 hi hcmp hj (by rw [hjs]; decide) hne ha hb
  have hty := run_eql_iface_types (P := Tryd.prog) 144 174 (.pointer (some ⟨p, 0, none⟩)) (.pointer (some b)) Tryd.underlying102 (by decide) w
  go_enter Tryd.func96, Tryd.ntmps96
  go_wp2
  refine wp_loop_rounds 2 ?_
  rw [rounds_succ]
  go_wp2
  rw [rounds_succ]
  go_wp2
  go_ret
  exact ⟨rfl, rfl⟩
end Go.Proofs.YtecbfegohdllbaaDoor
end
section
/- A region that draws its order: one order walked serves every order, where what reads may be taken first and what is left comes alone. (No program in sight.) -/
namespace Go.Proofs.YtecbfegohdllbaaDoor
open Go.RowKit Go
section
variable {P : Program} {ops : Array Oper} {Q : Exit → Act → World → Prop} {md : Region.Mode}
/-- Whatever order is picked from here on; each step leaves what was there. -/
def wpAnyB (P : Program) (md : Region.Mode) (ops : Array Oper) (Q : Exit → Act → World → Prop) : Nat → Array Bool → Act → World → Prop
  | 0, listed, a, w => Region.ready md ops listed = [] ∧ Q .normal a w
  | fuel + 1, listed, a, w =>
    (Region.ready md ops listed = [] → Q .normal a w) ∧
    ∀ i ∈ Region.ready md ops listed, wpOp P ops Q i (fun a' w' => Below w.heap.size w w' ∧ wpAnyB P md ops Q fuel (listed.setIfInBounds i true) a' w') a w
theorem wpAny_of_B : ∀ (fuel : Nat) (listed : Array Bool) (a : Act) (w : World), wpAnyB P md ops Q fuel listed a w → wpAny P md ops Q fuel listed a w
  | 0, _, _, _, h => h
  | fuel + 1, _, _, _, h => ⟨h.1, fun i hi => wpOp_mono (fun a' w' h' => wpAny_of_B fuel _ a' w' h'.2) (h.2 i hi)⟩
theorem below_chain {w w1 w2 : World} (h : Below w.heap.size w w1) (k : Below w1.heap.size w1 w2) : Below w.heap.size w w2 := h.trans (k.mono h.size)
theorem yieldsIf_mono {S S' : World → Prop} {o : Oper} {v : Value} {a : Act} (h : ∀ w, S' w → S w) (hy : YieldsIf P ops S o v a) : YieldsIf P ops S' o v a :=
  hy.imp (fun ⟨h1, h2⟩ => ⟨h1, fun w hw => h2 w (h w hw)⟩) id
theorem wpAnyB_first {i : Nat} {oi : Oper} {v : Value} (hi : ops[i]? = some oi) (hsel : ∀ (j : Nat) (o : Oper) cs b, ops[j]? = some o → o.op ≠ .select cs b)
    (hQ : ∀ c a w, Q (.panic c) (a.put oi.dst v) w → Q (.panic c) a w) :
    ∀ (fuel : Nat) (listed : Array Bool) (a : Act) (w : World),
      (∀ j oj, ops[j]? = some oj → j ≠ i → listed.getD j true = false → (∀ e ∈ oj.after, Region.binds md e = true → e.on ≠ i) → oi.apart ops oj = true) →
      i ∈ Region.ready md ops listed → YieldsIf P ops (fun w' => Below w.heap.size w w') oi v a →
      wpAnyB P md ops Q fuel (listed.setIfInBounds i true) (a.put oi.dst v) w → wpAnyB P md ops Q (fuel + 1) listed a w := by
  intro fuel
  induction fuel with
  | zero =>
    intro listed a w _ hr hy H
    refine ⟨fun h => (by rw [h] at hr; cases hr), fun j hj => ?_⟩
    by_cases hji : j = i
    · subst hji; exact hy.wpOp hi (Below.refl _ _) ⟨Below.refl _ _, H⟩
    · have := ready_mono hj hji
      rw [H.1] at this
      cases this
  | succ fuel ih =>
    intro listed a w hfree hr hy H
    refine ⟨fun h => (by rw [h] at hr; cases hr), fun j hj => ?_⟩
    by_cases hji : j = i
    · subst hji; exact hy.wpOp hi (Below.refl _ _) ⟨Below.refl _ _, H⟩
    · have h1 := H.2 j (ready_mono hj hji)
      obtain ⟨hjun, oj, hoj, hall⟩ := mem_ready.1 hj
      have hnot : ∀ e ∈ oj.after, Region.binds md e = true → e.on ≠ i := fun e he hb heq => by
        have h1 := hall e he hb
        have h0 := (mem_ready.1 hr).1
        rw [heq] at h1
        rcases Nat.lt_or_ge i listed.size with h' | h'
        · simp [h'] at h0 h1; rw [h0] at h1; cases h1
        · simp [Array.getElem?_eq_none h'] at h1
      have h2 := wpOp_putIf hoj (hfree j oj hoj hji hjun hnot) (fun cs b => hsel i oi cs b hi) (fun cs b => hsel j oj cs b hoj) hQ hy h1
      have hfree' : ∀ k ok, ops[k]? = some ok → k ≠ i → (listed.setIfInBounds j true).getD k true = false →
          (∀ e ∈ ok.after, Region.binds md e = true → e.on ≠ i) → oi.apart ops ok = true := fun k ok hk hki hun hno => by
        refine hfree k ok hk hki ?_ hno
        by_cases hjk : j = k
        · subst hjk; exact hjun
        · rw [getD_set_ne true hjk] at hun; exact hun
      refine wpOp_mono (fun a' w' h3 => ⟨h3.2.1, ih (listed.setIfInBounds j true) a' w' hfree' (ready_mono hr (Ne.symm hji)) (yieldsIf_mono (fun w2 hw2 => below_chain h3.2.1 hw2) h3.1) ?_⟩) h2
      rw [Array.setIfInBounds_comm _ _ hji]
      exact h3.2.2
theorem wpAnyB_take {i : Nat} {oi : Oper} {v : Value} {fuel : Nat} {listed : Array Bool} {a : Act} {w : World} (d : Option Tmp) (hi : ops[i]? = some oi) (hd : oi.dst = d)
    (hs : Region.noSelect ops = true) (hf : Region.free md ops listed i = true) (hr : (Region.ready md ops listed).contains i = true)
    (hQ : ∀ c a w, Q (.panic c) (a.put d v) w → Q (.panic c) a w) (hw : Region.wanted oi (yielded ops a.tmps) = true)
    (hv : ∀ w', Below w.heap.size w w' → (execOp a.eval oi).run P w' = .ok (.value v) w')
    (h : wpAnyB P md ops Q fuel (listed.setIfInBounds i true) (a.put d v) w) : wpAnyB P md ops Q (fuel + 1) listed a w := by
  subst hd
  exact wpAnyB_first hi (Region.noSelect_spec hs) hQ fuel listed a w (Region.free_spec hi hf) (by simpa using hr) (.inl ⟨hw, hv⟩) h
theorem wpAnyB_skip {i : Nat} {oi : Oper} {fuel : Nat} {listed : Array Bool} {a : Act} {w : World} (d : Option Tmp) (hi : ops[i]? = some oi) (hd : oi.dst = d)
    (hs : Region.noSelect ops = true) (hf : Region.free md ops listed i = true) (hr : (Region.ready md ops listed).contains i = true)
    (hQ : ∀ c a w, Q (.panic c) (a.put d undef) w → Q (.panic c) a w) (hw : Region.wanted oi (yielded ops a.tmps) = false)
    (h : wpAnyB P md ops Q fuel (listed.setIfInBounds i true) (a.put d undef) w) : wpAnyB P md ops Q (fuel + 1) listed a w := by
  subst hd
  exact wpAnyB_first hi (Region.noSelect_spec hs) hQ fuel listed a w (Region.free_spec hi hf) (by simpa using hr) (.inr ⟨hw, rfl⟩) h
/-- what comes alone -/
theorem wpAnyB_alone {i : Nat} {oi : Oper} {fuel : Nat} {listed : Array Bool} {a : Act} {w : World} (hi : ops[i]? = some oi) (hr : Region.ready md ops listed = [i])
    (hw : Region.wanted oi (yielded ops a.tmps) = true)
    (h : ∀ K : Act → World → Prop, Shut (∀ a' w', Below w.heap.size w w' → wpAnyB P md ops Q fuel (listed.setIfInBounds i true) a' w' → K a' w') → oi.wp P a w K Q) : wpAnyB P md ops Q (fuel + 1) listed a w := by
  refine ⟨fun h0 => (by rw [hr] at h0; cases h0), fun j hj => ?_⟩
  rw [hr, List.mem_singleton] at hj
  subst hj
  unfold wpOp
  simp only [hi, hw, if_true]
  exact .inl (h _ (fun a' w' h1 h2 => ⟨h1, h2⟩))
theorem wpAnyB_done {listed : Array Bool} {a : Act} {w : World} (hr : Region.ready md ops listed = []) (h : Q .normal a w) :
    ∀ fuel, wpAnyB P md ops Q fuel listed a w
  | 0 => ⟨hr, h⟩
  | _ + 1 => ⟨fun _ => h, by rw [hr]; simp⟩
theorem wp_region_B' {id : Nat} {a : Act} {w : World} {n : Nat} {l : Array Bool} (hm : P.follows .mixedOrders = true) (hn : ops.size = n) (hl : Array.replicate n false = l)
    (h : wpAnyB P .any ops Q n l a w.drew) : (Code.region id ops true).wp P Q a w := by
  subst hn; subst hl
  exact wp_region_any hm (wpAny_of_B _ _ _ _ h)
theorem wp_region_B {id : Nat} {a : Act} {w : World} (hm : P.follows .mixedOrders = true)
    (h : wpAnyB P .any ops Q ops.size (Array.replicate ops.size false) a w.drew) : (Code.region id ops true).wp P Q a w :=
  wp_region_any hm (wpAny_of_B _ _ _ _ h)
end
end Go.Proofs.YtecbfegohdllbaaDoor
end
section
/- As the text Each, what is left alone being what lay below one bound: a region that draws its order: one order walked serves every order, where what reads may be taken first and what is left comes alone. (No program in sight.) -/
namespace Go.Proofs.YtecbfegohdllbaaDoor
open Go.RowKit Go
section
variable {B : Nat} {P : Program} {ops : Array Oper} {Q : Exit → Act → World → Prop} {md : Region.Mode}
/-- Whatever order is picked from here on; each step leaves what was there. -/
def wpAnyF (B : Nat) (P : Program) (md : Region.Mode) (ops : Array Oper) (Q : Exit → Act → World → Prop) : Nat → Array Bool → Act → World → Prop
  | 0, listed, a, w => Region.ready md ops listed = [] ∧ Q .normal a w
  | fuel + 1, listed, a, w =>
    (Region.ready md ops listed = [] → Q .normal a w) ∧
    ∀ i ∈ Region.ready md ops listed, wpOp P ops Q i (fun a' w' => Below B w w' ∧ wpAnyF B P md ops Q fuel (listed.setIfInBounds i true) a' w') a w
theorem wpAny_of_F : ∀ (fuel : Nat) (listed : Array Bool) (a : Act) (w : World), wpAnyF B P md ops Q fuel listed a w → wpAny P md ops Q fuel listed a w
  | 0, _, _, _, h => h
  | fuel + 1, _, _, _, h => ⟨h.1, fun i hi => wpOp_mono (fun a' w' h' => wpAny_of_F fuel _ a' w' h'.2) (h.2 i hi)⟩
theorem belowF_chain {B : Nat} {w w1 w2 : World} (h : Below B w w1) (k : Below B w1 w2) : Below B w w2 := h.trans k
theorem yieldsIfF_mono {S S' : World → Prop} {o : Oper} {v : Value} {a : Act} (h : ∀ w, S' w → S w) (hy : YieldsIf P ops S o v a) : YieldsIf P ops S' o v a :=
  hy.imp (fun ⟨h1, h2⟩ => ⟨h1, fun w hw => h2 w (h w hw)⟩) id
theorem wpAnyF_first {i : Nat} {oi : Oper} {v : Value} (hi : ops[i]? = some oi) (hsel : ∀ (j : Nat) (o : Oper) cs b, ops[j]? = some o → o.op ≠ .select cs b)
    (hQ : ∀ c a w, Q (.panic c) (a.put oi.dst v) w → Q (.panic c) a w) :
    ∀ (fuel : Nat) (listed : Array Bool) (a : Act) (w : World),
      (∀ j oj, ops[j]? = some oj → j ≠ i → listed.getD j true = false → (∀ e ∈ oj.after, Region.binds md e = true → e.on ≠ i) → oi.apart ops oj = true) →
      i ∈ Region.ready md ops listed → YieldsIf P ops (fun w' => Below B w w') oi v a →
      wpAnyF B P md ops Q fuel (listed.setIfInBounds i true) (a.put oi.dst v) w → wpAnyF B P md ops Q (fuel + 1) listed a w := by
  intro fuel
  induction fuel with
  | zero =>
    intro listed a w _ hr hy H
    refine ⟨fun h => (by rw [h] at hr; cases hr), fun j hj => ?_⟩
    by_cases hji : j = i
    · subst hji; exact hy.wpOp hi (Below.refl _ _) ⟨Below.refl _ _, H⟩
    · have := ready_mono hj hji
      rw [H.1] at this
      cases this
  | succ fuel ih =>
    intro listed a w hfree hr hy H
    refine ⟨fun h => (by rw [h] at hr; cases hr), fun j hj => ?_⟩
    by_cases hji : j = i
    · subst hji; exact hy.wpOp hi (Below.refl _ _) ⟨Below.refl _ _, H⟩
    · have h1 := H.2 j (ready_mono hj hji)
      obtain ⟨hjun, oj, hoj, hall⟩ := mem_ready.1 hj
      have hnot : ∀ e ∈ oj.after, Region.binds md e = true → e.on ≠ i := fun e he hb heq => by
        have h1 := hall e he hb
        have h0 := (mem_ready.1 hr).1
        rw [heq] at h1
        rcases Nat.lt_or_ge i listed.size with h' | h'
        · simp [h'] at h0 h1; rw [h0] at h1; cases h1
        · simp [Array.getElem?_eq_none h'] at h1
      have h2 := wpOp_putIf hoj (hfree j oj hoj hji hjun hnot) (fun cs b => hsel i oi cs b hi) (fun cs b => hsel j oj cs b hoj) hQ hy h1
      have hfree' : ∀ k ok, ops[k]? = some ok → k ≠ i → (listed.setIfInBounds j true).getD k true = false →
          (∀ e ∈ ok.after, Region.binds md e = true → e.on ≠ i) → oi.apart ops ok = true := fun k ok hk hki hun hno => by
        refine hfree k ok hk hki ?_ hno
        by_cases hjk : j = k
        · subst hjk; exact hjun
        · rw [getD_set_ne true hjk] at hun; exact hun
      refine wpOp_mono (fun a' w' h3 => ⟨h3.2.1, ih (listed.setIfInBounds j true) a' w' hfree' (ready_mono hr (Ne.symm hji)) (yieldsIfF_mono (fun w2 hw2 => belowF_chain h3.2.1 hw2) h3.1) ?_⟩) h2
      rw [Array.setIfInBounds_comm _ _ hji]
      exact h3.2.2
theorem wpAnyF_take {i : Nat} {oi : Oper} {v : Value} {fuel : Nat} {listed : Array Bool} {a : Act} {w : World} (d : Option Tmp) (hi : ops[i]? = some oi) (hd : oi.dst = d)
    (hs : Region.noSelect ops = true) (hf : Region.free md ops listed i = true) (hr : (Region.ready md ops listed).contains i = true)
    (hQ : ∀ c a w, Q (.panic c) (a.put d v) w → Q (.panic c) a w) (hw : Region.wanted oi (yielded ops a.tmps) = true)
    (hv : ∀ w', Below B w w' → (execOp a.eval oi).run P w' = .ok (.value v) w')
    (h : wpAnyF B P md ops Q fuel (listed.setIfInBounds i true) (a.put d v) w) : wpAnyF B P md ops Q (fuel + 1) listed a w := by
  subst hd
  exact wpAnyF_first hi (Region.noSelect_spec hs) hQ fuel listed a w (Region.free_spec hi hf) (by simpa using hr) (.inl ⟨hw, hv⟩) h
theorem wpAnyF_skip {i : Nat} {oi : Oper} {fuel : Nat} {listed : Array Bool} {a : Act} {w : World} (d : Option Tmp) (hi : ops[i]? = some oi) (hd : oi.dst = d)
    (hs : Region.noSelect ops = true) (hf : Region.free md ops listed i = true) (hr : (Region.ready md ops listed).contains i = true)
    (hQ : ∀ c a w, Q (.panic c) (a.put d undef) w → Q (.panic c) a w) (hw : Region.wanted oi (yielded ops a.tmps) = false)
    (h : wpAnyF B P md ops Q fuel (listed.setIfInBounds i true) (a.put d undef) w) : wpAnyF B P md ops Q (fuel + 1) listed a w := by
  subst hd
  exact wpAnyF_first hi (Region.noSelect_spec hs) hQ fuel listed a w (Region.free_spec hi hf) (by simpa using hr) (.inr ⟨hw, rfl⟩) h
/-- what comes alone -/
theorem wpAnyF_alone {i : Nat} {oi : Oper} {fuel : Nat} {listed : Array Bool} {a : Act} {w : World} (hi : ops[i]? = some oi) (hr : Region.ready md ops listed = [i])
    (hw : Region.wanted oi (yielded ops a.tmps) = true)
    (h : ∀ K : Act → World → Prop, Shut (∀ a' w', Below B w w' → wpAnyF B P md ops Q fuel (listed.setIfInBounds i true) a' w' → K a' w') → oi.wp P a w K Q) : wpAnyF B P md ops Q (fuel + 1) listed a w := by
  refine ⟨fun h0 => (by rw [hr] at h0; cases h0), fun j hj => ?_⟩
  rw [hr, List.mem_singleton] at hj
  subst hj
  unfold wpOp
  simp only [hi, hw, if_true]
  exact .inl (h _ (fun a' w' h1 h2 => ⟨h1, h2⟩))
theorem wpAnyF_done {listed : Array Bool} {a : Act} {w : World} (hr : Region.ready md ops listed = []) (h : Q .normal a w) :
    ∀ fuel, wpAnyF B P md ops Q fuel listed a w
  | 0 => ⟨hr, h⟩
  | _ + 1 => ⟨fun _ => h, by rw [hr]; simp⟩
theorem wp_region_F' {id : Nat} {a : Act} {w : World} {n : Nat} {l : Array Bool} (hm : P.follows .mixedOrders = true) (hn : ops.size = n) (hl : Array.replicate n false = l)
    (h : wpAnyF B P .any ops Q n l a w.drew) : (Code.region id ops true).wp P Q a w := by
  subst hn; subst hl
  exact wp_region_any hm (wpAny_of_F _ _ _ _ h)
theorem wp_region_F {id : Nat} {a : Act} {w : World} (hm : P.follows .mixedOrders = true)
    (h : wpAnyF B P .any ops Q ops.size (Array.replicate ops.size false) a w.drew) : (Code.region id ops true).wp P Q a w :=
  wp_region_any hm (wpAny_of_F _ _ _ _ h)
end
end Go.Proofs.YtecbfegohdllbaaDoor
end
section
/- A region that draws its order, in a round of a loop over a function: what is walked outside a round goes in a round as well. (No program in sight.) -/
namespace Go.Proofs.YtecbfegohdllbaaDoor
open Go.RowKit Go
section
variable {P : Program} {ops : Array Oper} {Q : Exit → Act → World → Prop} {md : Region.Mode} {l n : Nat}
theorem rowsIn_of {row : String} {args : Array Value} {w : World} {R : Value → World → Prop} (h : Rows P row args w R) : RowsIn (Fence.wide.inRound l) n P row args w R := fun c cs _ => by
  obtain ⟨v, w', hr, hs⟩ := h c cs
  exact ⟨v, w', hr, stepsIn_wide.2 hs⟩
theorem wpIn_of_wp {o : Oper} {a : Act} {w : World} {K : Act → World → Prop} (hd : ∀ c, o.op ≠ .defer c) (h : o.wp P a w K Q) : o.wpIn (Fence.wide.inRound l) n P a w K Q := by
  refine ⟨fun _ _ => trivial, ?_⟩
  show o.uponIn (Fence.wide.inRound l) n P a K Q ((Oper.semAt (some l) a.eval o).run P w)
  rw [Oper.semAt_some l a.eval o hd]
  unfold Oper.wp at h
  generalize (execOp a.eval o).run P w = r at h ⊢
  have h0 : (Fence.wide.inRound l).depth.isSome = true → 1 ≤ n := fun h0 => absurd (show (none : Option Nat).isSome = true from h0) (by simp)
  cases r with
  | ok x w' =>
    cases x with
    | value v => exact h
    | skip => exact h
    | defer d => exact h
    | enter f args => exact ⟨h0, CallsIn.inRound l (callsIn_wide.2 h)⟩
    | row r args => exact ⟨h0, rowsIn_of h⟩
    | _ => exact h.elim
  | halt x w' => cases x <;> first | exact h | exact h.elim
theorem wpOpIn_of_wpOp (hQ : ¬ LetsOut Q) (hd : ∀ (j : Nat) (o : Oper) c, ops[j]? = some o → o.op ≠ .defer c) {i : Nat} {K : Act → World → Prop} {a : Act} {w : World} (h : wpOp P ops Q i K a w) :
    wpOpIn (Fence.wide.inRound l) n P ops Q i K a w := by
  unfold wpOp at h
  unfold wpOpIn
  cases ho : ops[i]? with
  | none => simpa [ho] using h
  | some o =>
    simp only [ho] at h ⊢
    by_cases hw : Region.wanted o (yielded ops a.tmps) = true
    · simp only [hw, if_true] at h ⊢
      rcases h with h | ⟨_, h⟩
      · exact wpIn_of_wp (fun c => hd i o c ho) h
      · exact absurd h hQ
    · simp only [hw, Bool.false_eq_true, if_false] at h ⊢
      exact ⟨fun _ _ => trivial, h⟩
theorem wpAnyIn_of_any (hQ : ¬ LetsOut Q) (hd : ∀ (j : Nat) (o : Oper) c, ops[j]? = some o → o.op ≠ .defer c) : ∀ (fuel : Nat) (listed : Array Bool) (a : Act) (w : World), wpAny P md ops Q fuel listed a w → wpAnyIn (Fence.wide.inRound l) n P md ops Q fuel listed a w
  | 0, _, _, _, h => h
  | fuel + 1, _, _, _, h => ⟨h.1, fun i hi => wpOpIn_mono (fun a' w' h' => wpAnyIn_of_any hQ hd fuel _ a' w' h') (wpOpIn_of_wpOp hQ hd (h.2 i hi))⟩
def noDefer (ops : Array Oper) : Bool := ops.all fun o => match o.op with | .defer _ => false | _ => true
theorem noDefer_spec (h : noDefer ops = true) (j : Nat) (o : Oper) (c) (ho : ops[j]? = some o) : o.op ≠ .defer c := by
  intro e
  have := (Array.all_eq_true_iff_forall_mem.1 h) o (Array.mem_of_getElem? ho)
  rw [e] at this
  cases this
/-- a region that draws, in a round -/
theorem wpIn_region_F {B : Nat} {id : Nat} {a : Act} {w : World} {k : Nat} {ls : Array Bool} (hm : P.follows .mixedOrders = true) (hn : ops.size = k) (hl : Array.replicate k false = ls) (hd : noDefer ops = true) (hQ : ¬ LetsOut Q)
    (h : wpAnyF B P .any ops Q k ls a w.drew) : (Code.region id ops true).wpIn (Fence.wide.inRound l) n P Q a w := by
  subst hn; subst hl
  exact wpIn_region_any hm (wpAnyIn_of_any hQ (noDefer_spec hd) _ _ _ _ (wpAny_of_F _ _ _ _ h))
end
end Go.Proofs.YtecbfegohdllbaaDoor
end
section
/- As the text EachF: two or three operations that may come up next, each walked by itself. (No program in sight.) -/
namespace Go.Proofs.YtecbfegohdllbaaDoor
open Go.RowKit Go
section
variable {B : Nat} {P : Program} {ops : Array Oper} {Q : Exit → Act → World → Prop} {md : Region.Mode}
theorem wpOp_way {i : Nat} {oi : Oper} {a : Act} {w : World} {R : Act → World → Prop} (hi : ops[i]? = some oi) (hw : Region.wanted oi (yielded ops a.tmps) = true)
    (h : ∀ K : Act → World → Prop, Shut (∀ a' w', R a' w' → K a' w') → oi.wp P a w K Q) : wpOp P ops Q i R a w := by
  unfold wpOp
  simp only [hi, hw, if_true]
  exact .inl (h _ (fun a' w' h1 => h1))
theorem wpAnyF_two {i j : Nat} {oi oj : Oper} {fuel : Nat} {listed : Array Bool} {a : Act} {w : World} (hr : Region.ready md ops listed = [i, j])
    (hi : ops[i]? = some oi) (hwi : Region.wanted oi (yielded ops a.tmps) = true) (hj : ops[j]? = some oj) (hwj : Region.wanted oj (yielded ops a.tmps) = true)
    (h1 : ∀ K : Act → World → Prop, Shut (∀ a' w', (Below B w w' ∧ wpAnyF B P md ops Q fuel (listed.setIfInBounds i true) a' w') → K a' w') → oi.wp P a w K Q)
    (h2 : ∀ K : Act → World → Prop, Shut (∀ a' w', (Below B w w' ∧ wpAnyF B P md ops Q fuel (listed.setIfInBounds j true) a' w') → K a' w') → oj.wp P a w K Q) : wpAnyF B P md ops Q (fuel + 1) listed a w := by
  refine ⟨fun h0 => (by rw [hr] at h0; cases h0), fun k hk => ?_⟩
  rw [hr] at hk
  simp only [List.mem_cons, List.not_mem_nil, or_false] at hk
  rcases hk with rfl | rfl
  · exact wpOp_way hi hwi h1
  · exact wpOp_way hj hwj h2
end
end Go.Proofs.YtecbfegohdllbaaDoor
end
section
/- New blocks in a row: what each holds. (No program in sight.) -/
namespace Go.Proofs.YtecbfegohdllbaaDoor
open Go.RowKit
def allocs : World → List Obj → World
  | w, [] => w
  | w, o :: os => allocs (w.alloc o) os
theorem allocs_old : ∀ (os : List Obj) (w : World) (k : Nat), k < w.heap.size → (allocs w os).heap[k]? = w.heap[k]?
  | [], _, _, _ => rfl
  | o :: os, w, k, h => (allocs_old os (w.alloc o) k (by simp; omega)).trans (Below.heap_alloc w o k h)
theorem allocs_new : ∀ (os : List Obj) (w : World) (i : Nat), i < os.length → (allocs w os).heap[w.heap.size + i]? = os[i]?
  | [], _, _, h => absurd h (Nat.not_lt_zero _)
  | o :: os, w, 0, _ => (allocs_old os (w.alloc o) w.heap.size (by simp)).trans (heap_alloc_new w o)
  | o :: os, w, i + 1, h => by
    have := allocs_new os (w.alloc o) i (by simpa using h)
    rw [World.size_alloc] at this
    rw [show w.heap.size + (i + 1) = w.heap.size + 1 + i by omega]
    exact this
theorem allocs_size : ∀ (os : List Obj) (w : World), (allocs w os).heap.size = w.heap.size + os.length
  | [], _ => rfl
  | o :: os, w => (allocs_size os (w.alloc o)).trans (by rw [World.size_alloc, List.length_cons]; omega)
theorem allocs_below : ∀ (os : List Obj) (w w0 : World), Below w0.heap.size w0 w → Below w0.heap.size w0 (allocs w os)
  | [], _, _, h => h
  | o :: os, w, w0, h => allocs_below os (w.alloc o) w0 (h.alloc h.size o)
end Go.Proofs.YtecbfegohdllbaaDoor
end
section
/- Plain numbers: what the model's bit operations come to. -/
namespace Go.Proofs.YtecbfegohdllbaaDoor
open Go.RowKit
theorem wrap_congr (k : IntKind) {a b : Int} (h : a % (2 ^ k.bits : Int) = b % (2 ^ k.bits : Int)) : k.wrap a = k.wrap b := by
  unfold IntKind.wrap; rw [h]
theorem i32wrap (n : Int) : IntKind.i32.wrap n = (n + 2147483648) % 4294967296 - 2147483648 := IntKind.wrap_i32 n
theorem i64wrap (n : Int) : IntKind.i64.wrap n = (n + 9223372036854775808) % 18446744073709551616 - 9223372036854775808 := IntKind.wrap_i64 n
theorem i16wrap (n : Int) : IntKind.i16.wrap n = (n + 32768) % 65536 - 32768 := by
  simp only [IntKind.wrap, IntKind.bits, IntKind.signed]; simp; split <;> omega
theorem ofInt_nat (n : Nat) (x : Int) : ((BitVec.ofInt n x).toNat : Int) = x % (2 ^ n : Int) := by
  rw [BitVec.toNat_ofInt, Int.toNat_of_nonneg (Int.emod_nonneg _ (by have : (2:Int)^n > 0 := Int.pow_pos (by decide); simp; omega))]
  simp
/-- a high part and a low part, joined -/
theorem or_join (k : IntKind) (s : Nat) (h y : Int) (hs : s ≤ k.bits) (h0 : 0 ≤ y) (h1 : y < 2 ^ s) : bits .or k (h * 2 ^ s) y = k.wrap (h * 2 ^ s + y) := by
  unfold bits
  apply wrap_congr
  simp only [BitVec.toNat_or]
  obtain ⟨d, hd⟩ : ∃ d, k.bits = s + d := ⟨k.bits - s, by omega⟩
  generalize k.bits = n at *
  have p2 : ∀ m : Nat, (0 : Int) < 2 ^ m := fun m => Int.pow_pos (by decide)
  have ey : ((BitVec.ofInt n y).toNat : Int) = y := by
    rw [ofInt_nat]
    refine Int.emod_eq_of_lt h0 (Int.lt_of_lt_of_le h1 ?_)
    rw [hd, Int.pow_add]
    have := p2 s; have := p2 d
    have h3 := Int.mul_le_mul_of_nonneg_left (show (1:Int) ≤ 2 ^ d by omega) (show (0:Int) ≤ 2 ^ s by omega)
    rwa [Int.mul_one] at h3
  have ex : ((BitVec.ofInt n (h * 2 ^ s)).toNat : Int) = (h % 2 ^ d) * 2 ^ s := by
    rw [ofInt_nat, hd, Int.pow_add, Int.mul_comm h, Int.mul_emod_mul_of_pos _ _ (p2 s), Int.mul_comm]
  obtain ⟨u, hu⟩ : ∃ u : Nat, (h % 2 ^ d) = (u : Int) := ⟨(h % 2 ^ d).toNat, by rw [Int.toNat_of_nonneg (Int.emod_nonneg _ (by have := p2 d; omega))]⟩
  obtain ⟨v, hv⟩ : ∃ v : Nat, y = (v : Int) := ⟨y.toNat, by omega⟩
  have ex' : (BitVec.ofInt n (h * 2 ^ s)).toNat = u * 2 ^ s := by
    rw [hu] at ex; exact_mod_cast ex
  have ey' : (BitVec.ofInt n y).toNat = v := by rw [hv] at ey ⊢; exact_mod_cast ey
  have hv' : v < 2 ^ s := by rw [hv] at h1; exact_mod_cast h1
  rw [ex', ey', nat_join s _ _ (by simp) hv']
  have e1 : (h * 2 ^ s + y) % (2 ^ n : Int) = ((u * 2 ^ s + v : Nat) : Int) % (2 ^ n : Int) := by
    have : h * 2 ^ s + y = ((u * 2 ^ s + v : Nat) : Int) + 2 ^ n * (h / 2 ^ d) := by
      have hh := Int.emod_add_mul_ediv h (2 ^ d)
      rw [hu] at hh
      rw [hv, hd, Int.pow_add]
      push_cast
      conv => lhs; rw [← hh]
      rw [Int.add_mul]
      have : 2 ^ d * (h / 2 ^ d) * 2 ^ s = 2 ^ s * 2 ^ d * (h / 2 ^ d) := by
        rw [Int.mul_comm, ← Int.mul_assoc]
      omega
    rw [this]; simp
  rw [e1]
/-- the lowest bits -/
theorem and_low (k : IntKind) (s : Nat) (x : Int) (hs : s < k.bits) : bits .and k x (2 ^ s - 1) = k.wrap (x % 2 ^ s) := by
  unfold bits
  apply wrap_congr
  simp only [BitVec.toNat_and]
  obtain ⟨d, hd⟩ : ∃ d, k.bits = s + d := ⟨k.bits - s, by omega⟩
  generalize k.bits = n at *
  have p2 : ∀ m : Nat, (0 : Int) < 2 ^ m := fun m => Int.pow_pos (by decide)
  have em : (BitVec.ofInt n (2 ^ s - 1 : Int)).toNat = 2 ^ s - 1 := by
    have h := ofInt_nat n (2 ^ s - 1 : Int)
    have hp : (1:Nat) ≤ 2 ^ s := Nat.one_le_two_pow
    have e : (2 ^ s - 1 : Int) = ((2 ^ s - 1 : Nat) : Int) := by push_cast [hp]; rfl
    rw [e] at h ⊢
    have hlt : (2 ^ s - 1 : Nat) < 2 ^ n := by
      have : (2:Nat) ^ s ≤ 2 ^ n := Nat.pow_le_pow_right (by decide) (by omega)
      omega
    have h2 : (((2 ^ s - 1 : Nat) : Int)) % (2 ^ n : Int) = ((2 ^ s - 1 : Nat) : Int) := by
      have : ((2 ^ s - 1 : Nat) : Int) % ((2 ^ n : Nat) : Int) = ((2 ^ s - 1 : Nat) : Int) := by
        rw [← Int.natCast_emod, Nat.mod_eq_of_lt hlt]
      simpa using this
    rw [h2] at h
    exact_mod_cast h
  rw [em, Nat.and_two_pow_sub_one_eq_mod]
  have h := ofInt_nat n x
  have : (((BitVec.ofInt n x).toNat % 2 ^ s : Nat) : Int) = x % 2 ^ s := by
    push_cast
    rw [h, hd, Int.pow_add, Int.emod_emod_of_dvd]
    exact Int.dvd_mul_right _ _
  rw [this]
end Go.Proofs.YtecbfegohdllbaaDoor
end
section
/- What the functions of package word, and its reference, return: contracts. -/
namespace Go.Proofs.YtecbfegohdllbaaDoor
open Go.RowKit
def lowI (x : Int) : Int := (x + 2147483648) % 4294967296 - 2147483648
def halfI (x : Int) : Int := (x + 32768) % 65536 - 32768
theorem lowI_bd (x : Int) : -2147483648 ≤ lowI x ∧ lowI x ≤ 2147483647 := by unfold lowI; omega
theorem halfI_bd (x : Int) : -32768 ≤ halfI x ∧ halfI x ≤ 32767 := by unfold halfI; omega
theorem lowI_wrap (x : Int) : wrap32 x = lowI x := by simp [wrap32, lowI]
theorem half_any (x : Int) (w : World) :
    Calls Tryd.prog 97 #[.int .i32 x] w fun e w' => e = .returned (.int .i32 (halfI x)) ∧ w = w' := by
  go_enter Tryd.func97, Tryd.ntmps97
  go_wp2
  go_ret
  refine ⟨ret_int ?_, rfl⟩
  simp [wrap32, i16wrap, halfI]
  omega
theorem pair_any (a b : Int) (w : World) (ha : 0 ≤ a ∧ a ≤ 255) (hb : 0 ≤ b ∧ b ≤ 255) :
    Calls Tryd.prog 66 #[.int .u8 a, .int .u8 b] w fun e w' => e = .returned (.int .i32 (halfI (256 * a + b))) ∧ w = w' := by
  go_enter Tryd.func66, Tryd.ntmps66
  go_wp2
  go_ret
  refine ⟨ret_int ?_, rfl⟩
  have h := or_join .u16 8 a b (by decide) (by omega) (by omega)
  rw [show ((2:Int) ^ 8) = 256 from rfl] at h
  show wrap32 (IntKind.i16.wrap (bits .or .u16 (a * 256) b)) = _
  rw [h, IntKind.wrap_u16, i16wrap]
  simp [wrap32, halfI]
  omega
theorem Tryd.infoU8 : (Tryd.prog.info? 5).map (fun i => (i.zero, i.size, i.bytes)) = some (some (.int .u8 0), 1, 1) := by kernel_rfl
/-- a word's four bytes -/
def fourI (x : Int) : List Int := [x / 16777216 % 256, x / 65536 % 256, x / 256 % 256, x % 256]
def vU8 (l : List Int) : List Value := l.map (Value.int .u8)
theorem four_eq (x : Int) : ([.int .u8 (x % 4294967296 / 16777216), .int .u8 (x % 4294967296 / 65536 % 256), .int .u8 (x % 4294967296 / 256 % 256), .int .u8 (x % 256)] : List Value) = vU8 (fourI x) := by
  have e1 : x % 4294967296 / 16777216 = x / 16777216 % 256 := by omega
  have e2 : x % 4294967296 / 65536 % 256 = x / 65536 % 256 := by omega
  have e3 : x % 4294967296 / 256 % 256 = x / 256 % 256 := by omega
  simp only [vU8, fourI, List.map_cons, List.map_nil, e1, e2, e3]
theorem bytes_any (x : Int) (w : World) :
    Calls Tryd.prog 64 #[.int .i32 x] w fun e w' => ∃ v, e = .returned v ∧ Below w.heap.size w w' ∧
      w'.ownsRow w.heap.size 5 1 v 4 (vU8 (fourI x)) := by
  obtain ⟨i0, hi, hz0, hz1, hz2⟩ := info_parts Tryd.infoU8
  go_enter Tryd.func64, Tryd.ntmps64
  go_wp2_with fail
  refine wp_loop_rounds 5 ?_
  iterate 4 (rw [rounds_succ]; go_wp2_with fail)
  rw [rounds_succ]
  go_wp2_with (at_builtin; refine wpList_append_own _ rfl _ _ 22 rfl w.heap.size 5 i0 (.int .u8 0) 1 1 Tryd.underlying22 hi hz0 hz1 hz2 rfl (by decide) _ _ _ rfl (ownsRow_empty ?cs ?c0) ⟨w.heap.size, 0, none⟩ 4 4 [.int .u8 (x % 4294967296 / 16777216), .int .u8 (x % 4294967296 / 65536 % 256), .int .u8 (x % 4294967296 / 256 % 256), .int .u8 (x % 256)] rfl rfl ?c3 ?c4 ?c5 ?c6 ?c7 ?_)
  case cs => simp
  case c0 => simp
  case c3 =>
    intro j u h
    rcases j with _ | _ | _ | _ | j <;> simp at h <;> subst h <;> go_simp
  case c4 => simp [Value.oneCell']
  case c5 => decide
  case c6 => decide
  case c7 => simp; omega
  intro v' w' hown hg _
  have hown2 : w'.ownsRow w.heap.size 5 1 v' 4 (vU8 (fourI x)) := by
    rw [← four_eq]; exact hown
  go_wp2
  go_ret
  exact ⟨v', rfl, (((Below.refl _ w).alloc (Nat.le_refl _) _).alloc (by simp) _).grown hg (by simp; omega) (fun k e => by simp [Value.ownBlock] at e; omega), hown2⟩
theorem bytes4_any (x : Int) (w : World) :
    Calls Tryd.prog 64 #[.int .i32 x] w fun e w' => ∃ b c, e = .returned (.slice (some ⟨b, 0, none⟩) 4 c) ∧ Below w.heap.size w w' ∧ 4 ≤ c ∧ c ≤ maxLen ∧ w.heap.size ≤ b ∧ b < w'.heap.size ∧
      w'.cell? ⟨b, 0, none⟩ = some (.int .u8 (x / 16777216 % 256)) ∧ w'.cell? ⟨b, 1, none⟩ = some (.int .u8 (x / 65536 % 256)) ∧ w'.cell? ⟨b, 2, none⟩ = some (.int .u8 (x / 256 % 256)) ∧ w'.cell? ⟨b, 3, none⟩ = some (.int .u8 (x % 256)) := by
  refine (bytes_any x w).mono ?_
  rintro e w' ⟨v, rfl, hb, hown⟩
  have hr := reads_of_owns hown (by intro x hx; simp [fourI] at hx; rcases hx with rfl | rfl | rfl | rfl <;> exact WalkArith.wf_u8 (by omega))
  obtain ⟨hl, ⟨rfl, hn⟩ | ⟨g, cap, cur, rfl, hg, hc, h1, h2, h3, h4⟩⟩ := hown
  · cases hn
  · have hlt : g < w'.heap.size := (Array.getElem?_eq_some_iff.1 hc).1
    obtain ⟨b, off, c, hv, _, _, _, hcell⟩ := hr.plain (by simp [fourI])
    obtain ⟨ha, _, rfl⟩ := Value.slice.inj hv
    obtain ⟨rfl, rfl, _⟩ := Addr.mk.inj (Option.some.inj ha)
    have c0 := hcell 0 (by simp [fourI])
    have c1 := hcell 1 (by simp [fourI])
    have c2 := hcell 2 (by simp [fourI])
    have c3 := hcell 3 (by simp [fourI])
    simp [fourI] at c0 c1 c2 c3
    exact ⟨g, cap, rfl, hb, h1, h2, hg, hlt, c0, c1, c2, c3⟩
theorem from_short (a : Option Addr) (n c : Nat) (w : World) (hn : n < 4) :
    Calls Tryd.prog 99 #[.slice a n c] w fun e w' => e = .returned (.tuple #[.int .i32 0, .int .i64 4]) ∧ w = w' := by
  go_enter Tryd.func99, Tryd.ntmps99
  go_wp2
  go_ret2
  exact ⟨rfl, rfl⟩
theorem from_long (a : Option Addr) (n c : Nat) (w : World) (hn : 4 < n) (hm : n ≤ 9223372036854775807) :
    Calls Tryd.prog 99 #[.slice a n c] w fun e w' => e = .returned (.tuple #[.int .i32 0, .int .i64 5]) ∧ w = w' := by
  go_enter Tryd.func99, Tryd.ntmps99
  go_wp2
  go_ret2
  exact ⟨rfl, rfl⟩
theorem or256 (x b : Int) (hx : 0 ≤ x ∧ x < 16777216) (hb : 0 ≤ b ∧ b ≤ 255) : bits .or .u32 (x * 256) b = x * 256 + b := by
  have h := or_join .u32 8 x b (by decide) (by omega) (by omega)
  rw [show ((2:Int) ^ 8) = 256 from rfl] at h
  rw [h, IntKind.wrap_u32']; omega
theorem from_four (b0 b1 b2 b3 : Int) (b off c : Nat) (w : World) (h0 : 0 ≤ b0 ∧ b0 ≤ 255) (h1 : 0 ≤ b1 ∧ b1 ≤ 255) (h2 : 0 ≤ b2 ∧ b2 ≤ 255) (h3 : 0 ≤ b3 ∧ b3 ≤ 255)
    (c0 : w.cell? ⟨b, off, none⟩ = some (.int .u8 b0)) (c1 : w.cell? ⟨b, off + 1, none⟩ = some (.int .u8 b1)) (c2 : w.cell? ⟨b, off + 2, none⟩ = some (.int .u8 b2)) (c3 : w.cell? ⟨b, off + 3, none⟩ = some (.int .u8 b3)) :
    Calls Tryd.prog 99 #[.slice (some ⟨b, off, none⟩) 4 c] w fun e w' => e = .returned (.tuple #[.int .i32 (lowI (((b0 * 256 + b1) * 256 + b2) * 256 + b3)), .int .i64 0]) ∧ w = w' := by
  go_enter Tryd.func99, Tryd.ntmps99
  go_wp2_with fail
  go_loop [4, 17] (fun n i => (i = .int .i64 0 ∧ n = .int .u32 0) ∨ (i = .int .i64 1 ∧ n = .int .u32 b0) ∨ (i = .int .i64 2 ∧ n = .int .u32 (b0 * 256 + b1)) ∨ (i = .int .i64 3 ∧ n = .int .u32 ((b0 * 256 + b1) * 256 + b2)) ∨ (i = .int .i64 4 ∧ n = .int .u32 (((b0 * 256 + b1) * 256 + b2) * 256 + b3))) (fun _ i => 4 - (intOf i).toNat)
  case atStart => exact .inl ⟨rfl, rfl⟩
  case round =>
    rcases hrel with ⟨rfl, rfl⟩ | ⟨rfl, rfl⟩ | ⟨rfl, rfl⟩ | ⟨rfl, rfl⟩ | ⟨rfl, rfl⟩
    · have e := or256 0 b0 (by omega) h0
      have E := hid e; clear e
      go_wp2
      go_round
      case rel => exact .inr (.inl ⟨rfl, by have := E.out; simp at this; simp [this]⟩)
      case measure => simp [intOf]
    · have e := or256 b0 b1 (by omega) h1
      have E := hid e; clear e
      go_wp2
      go_round
      case rel => exact .inr (.inr (.inl ⟨rfl, by rw [E.out]⟩))
      case measure => simp [intOf]
    · have e := or256 (b0 * 256 + b1) b2 (by omega) h2
      have E := hid e; clear e
      go_wp2
      go_round
      case rel => exact .inr (.inr (.inr (.inl ⟨rfl, by rw [E.out]⟩)))
      case measure => simp [intOf]
    · have e := or256 ((b0 * 256 + b1) * 256 + b2) b3 (by omega) h3
      have E := hid e; clear e
      go_wp2
      go_round
      case rel => exact .inr (.inr (.inr (.inr ⟨rfl, by rw [E.out]⟩)))
      case measure => simp [intOf]
    · go_wp2
      go_ret2
      exact ⟨by rw [← lowI_wrap]; rfl, rfl⟩
end Go.Proofs.YtecbfegohdllbaaDoor
end
section
/- Small words on rows that the call itself made: an append of whatever slice of numbers; what reads as it did. -/
namespace Go.Proofs.YtecbfegohdllbaaDoor
open Go.RowKit
theorem grownBy_refl (w : World) (row : Option Nat) : w.grownBy w row := ⟨rfl, rfl, rfl, Nat.le_refl _, fun _ _ _ => rfl⟩
theorem wpList_unguard {P : Program} {w : World} {ops : Array Oper} {rest : List Oper} {o : Oper} {a : Act} {Q : Exit → Act → World → Prop} (hg : Region.wanted o (yielded ops a.tmps) = true)
    (h : wpList P ops Q ({ o with guard := none } :: rest) a w) : wpList P ops Q (o :: rest) a w := by
  unfold wpList at h ⊢
  rw [if_pos hg]
  rw [if_pos (show Region.wanted { o with guard := none } (yielded ops a.tmps) = true from rfl)] at h
  exact h
theorem wpList_append_reads {P : Program} {w : World} {ops : Array Oper} {rest : List Oper} {o : Oper} {a : Act} {Q : Exit → Act → World → Prop} (hgd : o.guard = none) (s x : Operand) (t : TypeId)
    (ho : o.op = .call { callee := .builtin .append, args := #[s, x], argTypes := #[t, t] })
    (base : Nat) (e : TypeId) (i : TypeInfo) (z : Value) (k : IntKind) (bytes : Nat) (ht : P.underlying t = some (.slice e)) (hi : P.info? e = some i) (hz : i.zero = some z)
    (hsize : i.size = 1) (hby : i.bytes = bytes) (hzs : z.cells.size = 1)
    (v : Value) (n : Nat) (xs : List Value) (hs : a.eval s = v) (hown : w.ownsRow base e 1 v n xs) (u : Value) (l : List Int) (hx : a.eval x = u) (hr : Reads k w u l)
    (h63 : n + l.length ≤ maxLen) (hbytes : (n + l.length) * bytes ≤ 140737488355328) (hbase : base ≤ w.heap.size)
    (h : ∀ v' w', w'.ownsRow base e 1 v' (n + l.length) (xs ++ l.map (Value.int k)) → w.grownBy w' v.ownBlock → wpList P ops Q rest (a.put o.dst v') w') : wpList P ops Q (o :: rest) a w := by
  obtain ⟨ad, c, rfl, h1, h2, h3, h4, h5⟩ := hr
  cases ad with
  | none =>
    obtain ⟨rfl, rfl⟩ := h4 rfl
    refine wpList_append_own_none hgd s x t ho base e i 1 ht hi v n xs hs hown hx ?_
    exact h v w (by simpa using hown) (grownBy_refl _ _)
  | some ad =>
    refine wpList_append_own _ hgd s x t ho base e i z 1 bytes ht hi hz hsize hby hzs (by decide) v n xs hs hown ad l.length c (l.map (Value.int k)) hx (by simp) ?_ ?_ h63 hbytes hbase (fun v' w' a1 a2 _ => h v' w' a1 a2)
    · intro j q hj
      have hjl : j < l.length := by
        rcases Nat.lt_or_ge j l.length with g | g
        · exact g
        · rw [List.getElem?_eq_none (by simpa using g)] at hj; cases hj
      rw [h5 ad rfl j hjl]
      simpa [hjl] using hj
    · intro q hq
      obtain ⟨_, _, rfl⟩ := List.mem_map.1 hq
      rfl
end Go.Proofs.YtecbfegohdllbaaDoor
end
section
/- Plain: sums of bytes (CRC-16) as words of 16 bits. No program in sight. -/
namespace Go.Proofs.YtecbfegohdllbaaDoor
open Go.RowKit
def step1 (x : BitVec 16) : BitVec 16 := (x <<< 1) ^^^ (if x.msb then 4129#16 else 0#16)
def step4 (x : BitVec 16) : BitVec 16 := step1 (step1 (step1 (step1 x)))
def step8 (x : BitVec 16) : BitVec 16 := step4 (step4 x)
def stepB (c : BitVec 16) (x : Int) : BitVec 16 := step8 (c ^^^ (BitVec.ofInt 16 x <<< 8))
def crcFrom (c : BitVec 16) (l : List Int) : BitVec 16 := l.foldl stepB c
def crcOf (l : List Int) : BitVec 16 := crcFrom 65535#16 l
def tabL : List Nat := [0, 4129, 8258, 12387, 16516, 20645, 24774, 28903, 33032, 37161, 41290, 45419, 49548, 53677, 57806, 61935]
def tab (i : Nat) : Nat := tabL.getD i 0
def nib (c : BitVec 16) (n : Nat) : BitVec 16 := (c <<< 4) ^^^ BitVec.ofNat 16 (tab ((c >>> 12) ^^^ BitVec.ofNat 16 n).toNat)
theorem xor_lc {n : Nat} (a b c : BitVec n) : a ^^^ (b ^^^ c) = b ^^^ (a ^^^ c) := by rw [← BitVec.xor_assoc, BitVec.xor_comm a b, BitVec.xor_assoc]
theorem xor_can {n : Nat} (a b : BitVec n) : a ^^^ (a ^^^ b) = b := by rw [← BitVec.xor_assoc, BitVec.xor_self, BitVec.zero_xor]
theorem step1_xor (x y : BitVec 16) : step1 (x ^^^ y) = step1 x ^^^ step1 y := by
  unfold step1
  rw [BitVec.msb_xor, BitVec.shiftLeft_xor_distrib]
  cases x.msb <;> cases y.msb <;> simp only [Bool.xor_false, Bool.xor_self, Bool.xor_true, Bool.not_false, if_true, if_false, Bool.false_eq_true, BitVec.xor_zero]
  · rw [BitVec.xor_assoc]
  · rw [BitVec.xor_assoc, BitVec.xor_assoc, BitVec.xor_comm (y <<< 1)]
  · rw [BitVec.xor_assoc, BitVec.xor_comm (y <<< 1) 4129#16, xor_can]
theorem step4_xor (x y : BitVec 16) : step4 (x ^^^ y) = step4 x ^^^ step4 y := by simp only [step4, step1_xor]
theorem step8_xor (x y : BitVec 16) : step8 (x ^^^ y) = step8 x ^^^ step8 y := by simp only [step8, step4_xor]
theorem step1_zero : step1 0#16 = 0#16 := by decide
theorem step8_zero : step8 0#16 = 0#16 := by decide
/-- four bits at once -/
theorem low4 (x : BitVec 16) (h : x.toNat < 4096) : step4 x = x <<< 4 := by
  have s : ∀ y : BitVec 16, y.toNat < 32768 → step1 y = y <<< 1 := by
    intro y hy
    have : y.msb = false := by rw [BitVec.msb_eq_decide]; simp; omega
    simp [step1, this]
  have t : ∀ y : BitVec 16, y.toNat < 32768 → (y <<< 1).toNat = 2 * y.toNat := by
    intro y hy; rw [BitVec.toNat_shiftLeft, Nat.shiftLeft_eq]; omega
  unfold step4
  have h1 := t x (by omega)
  have h2 := t (x <<< 1) (by omega)
  have h3 := t (x <<< 1 <<< 1) (by omega)
  rw [s x (by omega), s (x <<< 1) (by omega), s (x <<< 1 <<< 1) (by omega), s (x <<< 1 <<< 1 <<< 1) (by omega)]
  simp only [← BitVec.shiftLeft_add]
theorem high4 : ∀ i : Fin 16, step4 (BitVec.ofNat 16 i.val <<< 12) = BitVec.ofNat 16 (tab i.val) := by decide +kernel
theorem split12 (x : BitVec 16) : x = (x &&& 4095#16) ^^^ ((x >>> 12) <<< 12) := by
  apply BitVec.eq_of_getLsbD_eq
  intro i hi
  have hm : ∀ j : Fin 16, (4095#16).getLsbD j.val = decide (j.val < 12) := by decide +kernel
  have := hm ⟨i, hi⟩
  simp only [BitVec.getLsbD_xor, BitVec.getLsbD_and, BitVec.getLsbD_shiftLeft, BitVec.getLsbD_ushiftRight]
  rw [this]
  by_cases h : i < 12
  · simp [h]
  · simp [h, hi, show 12 + (i - 12) = i by omega]
theorem step4_eq (x : BitVec 16) : step4 x = (x <<< 4) ^^^ BitVec.ofNat 16 (tab (x >>> 12).toNat) := by
  conv => lhs; rw [split12 x]
  rw [step4_xor, low4 _ (by rw [BitVec.toNat_and]; exact Nat.lt_of_le_of_lt Nat.and_le_right (by decide))]
  have hlt : (x >>> 12).toNat < 16 := by rw [BitVec.toNat_ushiftRight, Nat.shiftRight_eq_div_pow]; have := x.isLt; omega
  have h4 := high4 ⟨(x >>> 12).toNat, hlt⟩
  simp only at h4
  rw [BitVec.ofNat_toNat, BitVec.setWidth_eq] at h4
  rw [h4]
  congr 1
  apply BitVec.eq_of_getLsbD_eq
  intro i hi
  have hm : ∀ j : Fin 16, (4095#16).getLsbD j.val = decide (j.val < 12) := by decide +kernel
  simp only [BitVec.getLsbD_shiftLeft, BitVec.getLsbD_and]
  by_cases h : i < 4
  · simp [h]
  · have := hm ⟨i - 4, by omega⟩
    simp only at this
    rw [this]; simp [h, hi]; intro _; omega
theorem nib_eq (c : BitVec 16) (n : Nat) (hn : n < 16) : nib c n = step4 (c ^^^ (BitVec.ofNat 16 n <<< 12)) := by
  rw [step4_xor, step4_eq c]
  unfold nib
  have h4 := high4 ⟨n, hn⟩
  simp only at h4
  rw [h4, BitVec.xor_assoc]
  congr 1
  have hc : (c >>> 12).toNat < 16 := by rw [BitVec.toNat_ushiftRight, Nat.shiftRight_eq_div_pow]; have := c.isLt; omega
  have key : ∀ i j : Fin 16, BitVec.ofNat 16 (tab (BitVec.ofNat 16 i.val ^^^ BitVec.ofNat 16 j.val).toNat) = BitVec.ofNat 16 (tab i.val) ^^^ BitVec.ofNat 16 (tab j.val) := by decide +kernel
  have := key ⟨(c >>> 12).toNat, hc⟩ ⟨n, hn⟩
  simp only at this
  rw [BitVec.ofNat_toNat, BitVec.setWidth_eq] at this
  exact this
theorem xor_split8 : ∀ b : Fin 256, (BitVec.ofNat 16 (b.val / 16) <<< 12) ^^^ (BitVec.ofNat 16 (b.val % 16) <<< 8) = BitVec.ofNat 16 b.val <<< 8 := by decide +kernel
theorem low_nib : ∀ n : Fin 16, step4 (BitVec.ofNat 16 n.val <<< 8) = BitVec.ofNat 16 n.val <<< 12 := by decide +kernel
/-- a byte's step by two steps of four bits -/
theorem stepB_nibs (c : BitVec 16) (b : Nat) (hb : b < 256) : stepB c b = nib (nib c (b / 16)) (b % 16) := by
  rw [nib_eq _ _ (by omega), nib_eq _ _ (by omega)]
  have h1 := low_nib ⟨b % 16, by omega⟩
  have h2 := xor_split8 ⟨b, hb⟩
  simp only at h1 h2
  unfold stepB step8
  rw [show BitVec.ofInt 16 (b : Int) = BitVec.ofNat 16 b from BitVec.ofInt_natCast 16 b, ← h2]
  congr 1
  simp only [step4_xor]
  rw [h1, BitVec.xor_assoc]
end Go.Proofs.YtecbfegohdllbaaDoor
end
section
/- What the functions of package crc return: contracts. -/
namespace Go.Proofs.YtecbfegohdllbaaDoor
open Go.RowKit
theorem ofInt32_nat (a : Nat) : (BitVec.ofInt 32 (a : Int)) = BitVec.ofNat 32 a := BitVec.ofInt_natCast 32 a
theorem i32_nat (v : BitVec 32) (h : v.toNat < 2147483648) : IntKind.i32.wrap (v.toNat : Int) = (v.toNat : Int) := by rw [i32wrap]; omega
theorem i32_xor (a b : Nat) (ha : a < 2147483648) (hb : b < 2147483648) : bits .xor .i32 (a : Int) (b : Int) = ((a ^^^ b : Nat) : Int) := by
  unfold bits
  show IntKind.i32.wrap (((BitVec.ofInt 32 (a : Int) ^^^ BitVec.ofInt 32 (b : Int)) : BitVec 32).toNat : Int) = _
  rw [ofInt32_nat a, ofInt32_nat b]
  have hx : a ^^^ b < 2 ^ 31 := Nat.xor_lt_two_pow (by omega) (by omega)
  have e : (BitVec.ofNat 32 a ^^^ BitVec.ofNat 32 b).toNat = a ^^^ b := by
    rw [BitVec.toNat_xor, BitVec.toNat_ofNat, BitVec.toNat_ofNat, Nat.mod_eq_of_lt (by omega), Nat.mod_eq_of_lt (by omega)]
  rw [i32_nat _ (by rw [e]; omega), e]
theorem i32_and (a b : Nat) (ha : a < 2147483648) (hb : b < 2147483648) : bits .and .i32 (a : Int) (b : Int) = ((a &&& b : Nat) : Int) := by
  unfold bits
  show IntKind.i32.wrap (((BitVec.ofInt 32 (a : Int) &&& BitVec.ofInt 32 (b : Int)) : BitVec 32).toNat : Int) = _
  rw [ofInt32_nat a, ofInt32_nat b]
  have e : (BitVec.ofNat 32 a &&& BitVec.ofNat 32 b).toNat = a &&& b := by
    rw [BitVec.toNat_and, BitVec.toNat_ofNat, BitVec.toNat_ofNat, Nat.mod_eq_of_lt (by omega), Nat.mod_eq_of_lt (by omega)]
  rw [i32_nat _ (by rw [e]; exact Nat.lt_of_le_of_lt Nat.and_le_left ha), e]
/-- the table lies where the program has laid it -/
def Four (w : World) : Prop := ∀ i : Nat, i < 16 → w.cell? ⟨0, i, none⟩ = some (.int .i32 (tab i))
theorem lt_of_cell {w : World} {b o : Nat} {v : Value} (h : w.cell? ⟨b, o, none⟩ = some v) : b < w.heap.size := by
  simp only [World.cell?] at h
  split at h
  · rename_i hb; exact (Array.getElem?_eq_some_iff.1 hb).1
  · cases h
theorem Four.later {w w' : World} (h : Four w) (hb : Below w.heap.size w w') : Four w' := fun i hi => by
  rw [hb.cell (p := ⟨0, i, none⟩) (lt_of_cell (h i hi))]; exact h i hi
theorem tab_lt (i : Nat) : tab i < 65536 := by
  unfold tab
  by_cases h : i < 16
  · have : ∀ j : Fin 16, tabL.getD j.val 0 < 65536 := by decide
    exact this ⟨i, h⟩
  · have : tabL[i]? = none := List.getElem?_eq_none (by simp [tabL]; omega)
    simp [List.getD, this]
theorem nib_toNat (c : BitVec 16) (n : Nat) (hn : n < 16) : (nib c n).toNat = (c.toNat * 16 ^^^ tab ((c.toNat / 4096 ^^^ n) &&& 15)) &&& 65535 := by
  have hc := c.isLt
  have e1 : ((c >>> 12) ^^^ BitVec.ofNat 16 n).toNat = (c.toNat / 4096 ^^^ n) &&& 15 := by
    have hx : c.toNat / 4096 ^^^ n < 2 ^ 4 := Nat.xor_lt_two_pow (by omega) (by omega)
    rw [BitVec.toNat_xor, BitVec.toNat_ushiftRight, Nat.shiftRight_eq_div_pow, BitVec.toNat_ofNat, Nat.mod_eq_of_lt (by omega), show (15 : Nat) = 2 ^ 4 - 1 from rfl, Nat.and_two_pow_sub_one_eq_mod, Nat.mod_eq_of_lt hx]
  unfold nib
  rw [BitVec.toNat_xor, e1, BitVec.toNat_shiftLeft, Nat.shiftLeft_eq, BitVec.toNat_ofNat, show (65535 : Nat) = 2 ^ 16 - 1 from rfl, Nat.and_two_pow_sub_one_eq_mod, Nat.xor_mod_two_pow]
theorem nibble_any (c : BitVec 16) (n : Nat) (hn : n < 16) (w : World) (h4 : Four w) :
    Calls Tryd.prog 60 #[.int .i32 c.toNat, .int .i32 n] w fun e w' => e = .returned (.int .i32 (nib c n).toNat) ∧ w = w' := by
  have hc := c.isLt
  have e1 : bits .xor .i32 ((c.toNat : Int) / 4096) (n : Int) = ((c.toNat / 4096 ^^^ n : Nat) : Int) := by
    have := i32_xor (c.toNat / 4096) n (by omega) (by omega)
    rw [← this]; simp
  have hx : c.toNat / 4096 ^^^ n < 2 ^ 4 := Nat.xor_lt_two_pow (by omega) (by omega)
  have e2 : bits .and .i32 ((c.toNat / 4096 ^^^ n : Nat) : Int) 15 = (((c.toNat / 4096 ^^^ n) &&& 15 : Nat) : Int) := i32_and _ 15 (by omega) (by omega)
  have hj : (c.toNat / 4096 ^^^ n) &&& 15 < 16 := Nat.lt_of_le_of_lt Nat.and_le_right (by decide)
  have hf := h4 _ hj
  have e3 := nib_toNat c n hn
  generalize (c.toNat / 4096 ^^^ n) &&& 15 = j at *
  generalize c.toNat / 4096 ^^^ n = m at *
  have ht := tab_lt j
  have e4 : bits .xor .i32 ((c.toNat : Int) * 16) (tab j : Int) = ((c.toNat * 16 ^^^ tab j : Nat) : Int) := by
    have := i32_xor (c.toNat * 16) (tab j) (by omega) (by omega)
    rw [← this]; simp
  have hx2 : c.toNat * 16 ^^^ tab j < 2 ^ 20 := Nat.xor_lt_two_pow (by omega) (by omega)
  have e5 : bits .and .i32 ((c.toNat * 16 ^^^ tab j : Nat) : Int) 65535 = (((c.toNat * 16 ^^^ tab j) &&& 65535 : Nat) : Int) := i32_and _ 65535 (by omega) (by omega)
  rw [← e3] at e5
  clear e3 h4
  go_enter Tryd.func60, Tryd.ntmps60
  go_wp2
  go_ret
  exact ⟨rfl, rfl⟩
theorem step_any (c : BitVec 16) (b : Nat) (hb : b < 256) (w : World) (h4 : Four w) :
    Calls Tryd.prog 24 #[.int .i32 c.toNat, .int .u8 b] w fun e w' => e = .returned (.int .i32 (stepB c b).toNat) ∧ w = w' := by
  have hc := c.isLt
  have e1 : bits .and .i32 (c.toNat : Int) 65535 = (c.toNat : Int) := by
    have := i32_and c.toNat 65535 (by omega) (by omega)
    rw [show (65535 : Int) = ((65535 : Nat) : Int) from rfl, this, show (65535 : Nat) = 2 ^ 16 - 1 from rfl, Nat.and_two_pow_sub_one_eq_mod, Nat.mod_eq_of_lt hc]
  have e2 : bits .and .u8 (b : Int) 15 = ((b % 16 : Nat) : Int) := by
    have := u8_and_nat b 15 hb (by omega)
    rw [show (15 : Int) = ((15 : Nat) : Int) from rfl, this, show (15 : Nat) = 2 ^ 4 - 1 from rfl, Nat.and_two_pow_sub_one_eq_mod]
  have e3 : (b : Int) / 16 = ((b / 16 : Nat) : Int) := by omega
  have n1 := fun w h4 => nibble_any c (b / 16) (by omega) w h4
  have n2 := fun w h4 => nibble_any (nib c (b / 16)) (b % 16) (by omega) w h4
  rw [← stepB_nibs c b hb] at n2
  rw [← e3] at n1
  have N1 := hid n1
  have N2 := hid n2
  clear n1 n2 e3
  go_enter Tryd.func24, Tryd.ntmps24
  go_wp2_with fail
  refine (N1.out _ h4).mono ?_
  rintro e w2 ⟨rfl, rfl⟩
  go_wp2_with fail
  refine (N2.out _ h4).mono ?_
  rintro e w2 ⟨rfl, rfl⟩
  go_wp2
  go_ret
  exact ⟨rfl, rfl⟩
theorem crc_snoc (c : BitVec 16) (l : List Int) (k : Nat) (h : k < l.length) : crcFrom c (l.take (k + 1)) = stepB (crcFrom c (l.take k)) l[k] := by
  unfold crcFrom
  rw [List.take_succ_eq_append_getElem h, List.foldl_append]; rfl
theorem add_any (C : BitVec 16) (v : Value) (l : List Int) (B : Nat) (w0 w : World) (hw : Below w0.heap.size w0 w) (hr : Reads .u8 w0 v l) (h4 : Four w0) (hB : w0.heap.size ≤ B)
    (hc : w.cell? ⟨B, 0, none⟩ = some (.int .i32 C.toNat)) (hf : w.frozen? ⟨B, 0, none⟩ = false) :
    Calls Tryd.prog 93 #[v, .pointer (some ⟨B, 0, none⟩)] w fun e w' => e = .returned (.int .i32 (crcFrom C l).toNat) ∧ Below w0.heap.size w0 w' := by
  by_cases hl : 0 < l.length
  · obtain ⟨b, off, cap, rfl, h1, h2, hlt, hcell⟩ := hr.plain hl
    have hu : ∀ x ∈ l, 0 ≤ x ∧ x ≤ 255 := by obtain ⟨_, _, _, _, _, h3, _⟩ := hr; exact fun x hx => bd_u8 (h3 x hx)
    have h2' : l.length ≤ 9223372036854775807 := by unfold maxLen at h2; omega
    have Hw := hid hw
    have HU := hid hu
    have H4 := hid h4
    clear hw h4 hr hu
    go_enter Tryd.func93, Tryd.ntmps93
    go_wp2_with fail
    go_loopw [8] (fun i wr => ∃ k : Nat, k ≤ l.length ∧ i = .int .i64 k ∧ wr.cell? ⟨B, 0, none⟩ = some (.int .i32 (crcFrom C (l.take k)).toNat) ∧ wr.frozen? ⟨B, 0, none⟩ = false ∧ Below w0.heap.size w0 wr) (fun i _ => l.length - (intOf i).toNat)
    case atStart => exact ⟨0, Nat.zero_le _, rfl, hc, hf, Hw.out⟩
    case round =>
      obtain ⟨k, hk, rfl, hck, hfk, hwr⟩ := hrel
      by_cases hlt2 : k < l.length
      · have hkc : wr.cell? ⟨b, off + k, none⟩ = some (.int .u8 l[k]) := (hwr.cell (p := ⟨b, off + k, none⟩) hlt).trans (hcell k hlt2)
        have hx := HU.out l[k] (List.getElem_mem hlt2)
        obtain ⟨x, hxx⟩ : ∃ x : Nat, l[k] = (x : Int) := ⟨l[k].toNat, by omega⟩
        have hs := crc_snoc C l k hlt2
        rw [hxx] at hkc hs hx
        have st := fun w h => step_any (crcFrom C (l.take k)) x (by omega) w h
        rw [← hs] at st
        have ST := hid st
        clear st hs hxx hcell
        go_wp2_with fail
        refine (ST.out _ (H4.out.later hwr)).mono ?_
        rintro e w2 ⟨rfl, rfl⟩
        go_wp2
        go_roundw
        case rel => exact ⟨k + 1, by omega, by go_num, World.cell?_setCell_same' _ _ _ (by rw [hck]; rfl), by rw [World.frozen?_setCell]; exact hfk, hwr.setCell (p := ⟨B, 0, none⟩) hB _⟩
        case measure => simp [intOf]; omega
      · obtain rfl : k = l.length := by omega
        rw [List.take_length] at hck
        go_wp2
        go_ret
        exact ⟨rfl, hwr⟩
  · obtain rfl : l = [] := List.length_eq_zero_iff.1 (by omega)
    obtain ⟨a, cap, rfl, _⟩ := hr
    have Hw := hid hw
    clear hw h4
    simp only [List.length_nil]
    go_enter Tryd.func93, Tryd.ntmps93
    go_wp2_with fail
    go_rounds 1
    go_ret
    exact ⟨rfl, Hw.out⟩
theorem sum_do (v : Value) (l : List Int) (w0 : World) (hr : Reads .u8 w0 v l) (h4 : Four w0) : ∀ w, Below w0.heap.size w0 w → ∀ B, w0.heap.size ≤ B → w.cell? ⟨B, 0, none⟩ = some (.int .i32 65535) → w.frozen? ⟨B, 0, none⟩ = false →
    Calls Tryd.prog 93 #[v, .pointer (some ⟨B, 0, none⟩)] w fun e w' => e = .returned (.int .i32 (crcOf l).toNat) ∧ Below w0.heap.size w0 w' :=
  fun w hw B hB hc hf => add_any 65535#16 v l B w0 w hw hr h4 hB hc hf
theorem of_any (v : Value) (l : List Int) (w : World) (hr : Reads .u8 w v l) (h4 : Four w) :
    Calls Tryd.prog 20 #[v] w fun e w' => e = .returned (.int .i32 (crcOf l).toNat) ∧ Below w.heap.size w w' := by
  have H := hid (fun w' hw B hB hc hf => add_any 65535#16 v l B w w' hw hr h4 hB hc hf)
  clear hr h4
  go_enter Tryd.func20, Tryd.ntmps20
  go_wp2_with (first | (go_at_call 93; refine (H.out _ ?_ _ ?_ ?_ ?_).mono ?_) | (go_at_call 59; go_in))
  · go_grown
  · omega
  · go_simp
  · go_simp
  · rintro e w' ⟨rfl, hb⟩
    go_wp2
    go_ret
    exact ⟨rfl, hb⟩
def hiB (c : BitVec 16) : Int := (c.toNat : Int) / 256
def loB (c : BitVec 16) : Int := (c.toNat : Int) % 256
def sealL (l : List Int) : List Int := l ++ [hiB (crcOf l), loB (crcOf l)]
theorem seal_any (v : Value) (l : List Int) (w : World) (hr : Reads .u8 w v l) (h4 : Four w) (hl : l.length ≤ 1000000) :
    Calls Tryd.prog 27 #[v] w fun e w' => ∃ v', e = .returned v' ∧ Below w.heap.size w w' ∧ w'.ownsRow w.heap.size 5 1 v' (l.length + 2) (vU8 (sealL l)) := by
  obtain ⟨i0, hi, hz0, hz1, hz2⟩ := info_parts Tryd.infoU8
  have O := hid (of_any v l w hr h4)
  have R := hid (fun w' (hb : Below w.heap.size w w') => hr.later hb)
  clear hr h4
  have hc := (crcOf l).isLt
  go_enter Tryd.func27, Tryd.ntmps27
  go_wp2_with fail
  refine O.out.mono ?_
  rintro e w1 ⟨rfl, hb1⟩
  have R1 := hid (R.out w1 hb1)
  go_wp2_with (at_builtin; refine wpList_append_reads rfl _ _ 22 rfl w.heap.size 5 i0 (.int .u8 0) .u8 1 Tryd.underlying22 hi hz0 hz1 hz2 rfl _ _ _ rfl (ownsRow_empty ?cs ?c0) v l rfl ?c1 ?c2 ?c3 ?c4 ?_)
  case cs => rfl
  case c0 => exact hb1.size
  case c1 => exact R.out _ (hb1.alloc hb1.size _)
  case c2 => simp [maxLen]; omega
  case c3 => omega
  case c4 => have := hb1.size; simp; omega
  intro v1 w2 hown2 hg2
  have hb2 : Below w.heap.size w w2 := (hb1.alloc hb1.size _).grown hg2 (by have := hb1.size; simp; omega) (fun k e => by simp [Value.ownBlock] at e; have := hb1.size; omega)
  have hz2' := hb2.size
  go_wp2_with (at_builtin; refine wpList_append_own _ rfl _ _ 22 rfl w.heap.size 5 i0 (.int .u8 0) 1 1 Tryd.underlying22 hi hz0 hz1 hz2 rfl (by decide) _ _ _ rfl (hown2.alloc _) ⟨w2.heap.size, 0, none⟩ 2 2 [.int .u8 (hiB (crcOf l)), .int .u8 (loB (crcOf l))] rfl rfl ?d3 ?d4 ?d5 ?d6 ?d7 ?_)
  case d3 =>
    intro j u h
    rcases j with _ | _ | j <;> simp at h <;> subst h <;> go_simp <;> rfl
  case d4 => simp [Value.oneCell']
  case d5 => simp [maxLen]; omega
  case d6 => omega
  case d7 => simp; omega
  intro v3 w3 hown3 hg3 _
  have hb3 : Below w.heap.size w w3 := (hb2.alloc hb2.size _).grown hg3 (by simp; omega) (fun k e => (hown2.lt k e).1)
  go_wp2
  go_ret
  exact ⟨v3, rfl, hb3, by simpa [vU8, sealL] using hown3⟩
theorem open_short (a : Option Addr) (n c : Nat) (w : World) (hn : n < 2) :
    Calls Tryd.prog 22 #[.slice a n c] w fun e w' => e = .returned (.tuple #[.slice none 0 0, .int .i64 4]) ∧ w = w' := by
  go_enter Tryd.func22, Tryd.ntmps22
  go_wp2
  go_ret2
  exact ⟨rfl, rfl⟩
theorem open_bad (v : Value) (l : List Int) (m : Nat) (hm : l.length = m + 2) (w : World) (hr : Reads .u8 w v l) (h4 : Four w) (hbad : l ≠ sealL (l.take m)) :
    Calls Tryd.prog 22 #[v] w fun e w' => e = .returned (.tuple #[.slice none 0 0, .int .i64 7]) ∧ Below w.heap.size w w' := by
  obtain ⟨b, off, c, rfl, h1, h2, hlt, hcell⟩ := hr.plain (by omega)
  have hc := (crcOf (l.take m)).isLt
  have hu : ∀ x ∈ l, 0 ≤ x ∧ x ≤ 255 := by obtain ⟨_, _, _, _, _, h3, _⟩ := hr; exact fun x hx => bd_u8 (h3 x hx)
  have hx0 := hu l[m] (List.getElem_mem (by omega))
  have hx1 := hu l[m + 1] (List.getElem_mem (by omega))
  have c0 := hcell m (by omega)
  have c1 := hcell (m + 1) (by omega)
  have hrt := hr.take m (by omega)
  have A := sum_do _ (l.take m) w hrt h4
  have hd : ((crcOf (l.take m)).toNat : Int) / 256 ≠ l[m] ∨ ((crcOf (l.take m)).toNat : Int) / 256 = l[m] ∧ ((crcOf (l.take m)).toNat : Int) % 256 ≠ l[m + 1] := by
    by_cases e1 : ((crcOf (l.take m)).toNat : Int) / 256 = l[m]
    · by_cases e2 : ((crcOf (l.take m)).toNat : Int) % 256 = l[m + 1]
      · refine absurd ?_ hbad
        unfold sealL hiB loB
        rw [e1, e2]
        conv => lhs; rw [← List.take_append_drop m l]
        congr 1
        rw [List.drop_eq_getElem_cons (by omega), List.drop_eq_getElem_cons (by omega), List.drop_eq_nil_of_le (by omega)]
      · exact .inr ⟨e1, e2⟩
    · exact .inl e1
  have h2' : m + 2 ≤ 9223372036854775807 := by unfold maxLen at h2; omega
  have hmc : m ≤ c := by omega
  clear hr h4 hrt hu hcell hbad
  generalize crcOf (l.take m) = C at *
  generalize l[m] = x0 at *
  generalize l[m + 1] = x1 at *
  rw [hm] at *
  clear hm
  replace A := hid A
  rcases hd with e1 | ⟨e1, e2⟩
  · have t1 : ((C.toNat : Int) / 256 != x0) = true := by simp; exact e1
    clear e1
    go_enter Tryd.func22, Tryd.ntmps22
    go_wp2_with (first | (go_at_call 93; refine (A.out _ ?_ _ ?_ ?_ ?_).mono ?_) | (go_at_call 59; go_in))
    · go_grown
    · omega
    · go_simp
    · go_simp
    · rintro e w1 ⟨rfl, hb⟩
      obtain ⟨hcc, hff⟩ := bcell hb
      go_wp2
      go_ret2
      exact ⟨rfl, hb⟩
  · have t1 : ((C.toNat : Int) / 256 != x0) = false := by simp; exact e1
    have t2 : ((C.toNat : Int) % 256 != x1) = true := by simp; exact e2
    clear e1 e2
    go_enter Tryd.func22, Tryd.ntmps22
    go_wp2_with (first | (go_at_call 93; refine (A.out _ ?_ _ ?_ ?_ ?_).mono ?_) | (go_at_call 59; go_in))
    · go_grown
    · omega
    · go_simp
    · go_simp
    · rintro e w1 ⟨rfl, hb⟩
      obtain ⟨hcc, hff⟩ := bcell hb
      go_wp2
      go_ret2
      exact ⟨rfl, hb⟩
set_option maxRecDepth 20000 in
theorem open_ok (v : Value) (l : List Int) (m : Nat) (hm : l.length = m + 2) (w : World) (hr : Reads .u8 w v l) (h4 : Four w) (hok : l = sealL (l.take m)) (hl : l.length ≤ 1000000) :
    Calls Tryd.prog 22 #[v] w fun e w' => ∃ v', e = .returned (.tuple #[v', .int .i64 0]) ∧ Below w.heap.size w w' ∧ w'.ownsRow w.heap.size 5 1 v' m (vU8 (l.take m)) := by
  obtain ⟨i0, hi, hz0, hz1, hz2⟩ := info_parts Tryd.infoU8
  obtain ⟨b, off, c, rfl, h1, h2, hlt, hcell⟩ := hr.plain (by omega)
  have hc := (crcOf (l.take m)).isLt
  have c0 := hcell m (by omega)
  have c1 := hcell (m + 1) (by omega)
  have hrt := hr.take m (by omega)
  have A := sum_do _ (l.take m) w hrt h4
  have R := hid (fun w' (hb : Below w.heap.size w w') => hrt.later hb)
  have htl : (l.take m).length = m := by simp; omega
  have e1 : l[m] = ((crcOf (l.take m)).toNat : Int) / 256 := by
    have : l[m]? = some (hiB (crcOf (l.take m))) := by
      conv => lhs; rw [hok]
      unfold sealL
      rw [List.getElem?_append_right (by omega), htl]; simp
    rw [List.getElem?_eq_getElem (by omega)] at this
    exact Option.some.inj this
  have e2 : l[m + 1] = ((crcOf (l.take m)).toNat : Int) % 256 := by
    have : l[m + 1]? = some (loB (crcOf (l.take m))) := by
      conv => lhs; rw [hok]
      unfold sealL
      rw [List.getElem?_append_right (by omega), htl]; simp
    rw [List.getElem?_eq_getElem (by omega)] at this
    exact Option.some.inj this
  have hu : ∀ x ∈ l, 0 ≤ x ∧ x ≤ 255 := by obtain ⟨_, _, _, _, _, h3, _⟩ := hr; exact fun x hx => bd_u8 (h3 x hx)
  have hx0 := hu l[m] (List.getElem_mem (by omega))
  have hx1 := hu l[m + 1] (List.getElem_mem (by omega))
  have h2' : m + 2 ≤ 9223372036854775807 := by unfold maxLen at h2; omega
  have hmc : m ≤ c := by omega
  have hm6 : m ≤ 1000000 := by omega
  clear hr h4 hrt hcell hok hu
  generalize crcOf (l.take m) = C at *
  generalize l[m] = x0 at *
  generalize l[m + 1] = x1 at *
  have t1 : ((C.toNat : Int) / 256 != x0) = false := by simp [e1]
  have t2 : ((C.toNat : Int) % 256 != x1) = false := by simp [e2]
  clear e1 e2
  generalize hlm : l.take m = lm at *
  clear hlm
  rw [hm] at *
  clear hm
  replace A := hid A
  have HL := hid htl
  have H6 := hid hm6
  clear htl hm6 hl
  go_enter Tryd.func22, Tryd.ntmps22
  go_wp2_with (first | (go_at_call 93; refine (A.out _ ?_ _ ?_ ?_ ?_).mono ?_) | (go_at_call 59; go_in))
  · go_grown
  · omega
  · go_simp
  · go_simp
  · rintro e w1 ⟨rfl, hb⟩
    obtain ⟨hcc, hff⟩ := bcell hb
    go_wp2_with (at_builtin; refine wpList_append_reads rfl _ _ 22 rfl w.heap.size 5 i0 (.int .u8 0) .u8 1 Tryd.underlying22 hi hz0 hz1 hz2 rfl _ _ _ rfl (ownsRow_empty ?cs ?c0) _ lm rfl ?c1 ?c2 ?c3 ?c4 ?_)
    case cs => rfl
    case c0 => exact hb.size
    case c1 => exact R.out _ (hb.alloc hb.size _)
    case c2 => have := H6.out; rw [HL.out]; simp [maxLen]; omega
    case c3 => have := H6.out; rw [HL.out]; omega
    case c4 => have := hb.size; simp; omega
    intro v2 w2 hown2 hg2
    have hb2 : Below w.heap.size w w2 := (hb.alloc hb.size _).grown hg2 (by have := hb.size; simp; omega) (fun k e => by simp [Value.ownBlock] at e; have := hb.size; omega)
    rw [HL.out] at hown2
    clear hcc hff
    go_wp2
    go_ret2
    exact ⟨v2, rfl, hb2, hown2⟩
end Go.Proofs.YtecbfegohdllbaaDoor
end
section
/- Plain facts on the sum of layer 11 (crc). -/
namespace Go.Proofs.YtecbfegohdllbaaDoor
theorem hi_eq (c : BitVec 16) : BitVec.ofInt 16 (hiB c) = c >>> 8 := by
  unfold hiB
  rw [show ((c.toNat : Int) / 256) = ((c.toNat / 256 : Nat) : Int) by omega, BitVec.ofInt_natCast]
  apply BitVec.eq_of_toNat_eq
  rw [BitVec.toNat_ofNat, BitVec.toNat_ushiftRight, Nat.shiftRight_eq_div_pow]
  have := c.isLt; omega
theorem lo_eq (c : BitVec 16) : BitVec.ofInt 16 (loB c) = c &&& 255#16 := by
  unfold loB
  rw [show ((c.toNat : Int) % 256) = ((c.toNat % 256 : Nat) : Int) by omega, BitVec.ofInt_natCast]
  apply BitVec.eq_of_toNat_eq
  rw [BitVec.toNat_ofNat, BitVec.toNat_and]
  have h := Nat.and_two_pow_sub_one_eq_mod c.toNat 8
  have e : (255#16).toNat = 2 ^ 8 - 1 := rfl
  rw [e, h]; have := c.isLt; omega
theorem split8 (x : BitVec 16) : x ^^^ ((x >>> 8) <<< 8) = x &&& 255#16 := by
  apply BitVec.eq_of_getLsbD_eq
  intro i hi
  have hm : ∀ j : Fin 16, (255#16).getLsbD j.val = decide (j.val < 8) := by decide +kernel
  have := hm ⟨i, hi⟩
  simp only [BitVec.getLsbD_xor, BitVec.getLsbD_and, BitVec.getLsbD_shiftLeft, BitVec.getLsbD_ushiftRight]
  rw [this]
  by_cases h : i < 8
  · simp [h]
  · simp [h, hi, show 8 + (i - 8) = i by omega]
theorem step8_low (x : BitVec 16) (h : x.toNat < 256) : step8 x = x <<< 8 := by
  unfold step8
  rw [low4 x (by omega), low4]
  · rw [← BitVec.shiftLeft_add]
  · rw [BitVec.toNat_shiftLeft, Nat.shiftLeft_eq]; omega
/-- A SUM's OWN BYTES LEAVE NOTHING. -/
theorem nought (c : BitVec 16) : stepB (stepB c (hiB c)) (loB c) = 0#16 := by
  unfold stepB
  rw [hi_eq, lo_eq, split8, step8_low (c &&& 255#16) (by rw [BitVec.toNat_and]; exact Nat.lt_of_le_of_lt Nat.and_le_right (by decide)), BitVec.xor_self, step8_zero]
theorem crcFrom_append (c : BitVec 16) (l m : List Int) : crcFrom c (l ++ m) = crcFrom (crcFrom c l) m := List.foldl_append ..
theorem crc_seal (l : List Int) : crcOf (sealL l) = 0#16 := by
  unfold crcOf sealL
  rw [crcFrom_append]
  exact nought _
theorem crc_append (l m : List Int) : crcOf (l ++ m) = crcFrom (crcOf l) m := crcFrom_append _ _ _
theorem hiB_bd (c : BitVec 16) : 0 ≤ hiB c ∧ hiB c ≤ 255 := by have := c.isLt; unfold hiB; omega
theorem loB_bd (c : BitVec 16) : 0 ≤ loB c ∧ loB c ≤ 255 := by have := c.isLt; unfold loB; omega
end Go.Proofs.YtecbfegohdllbaaDoor
end
section
/- Bytes as text, and the page's example of layer 11 (crc). -/
namespace Go.Proofs.YtecbfegohdllbaaDoor
open Go.RowKit
set_option linter.unusedVariables false
theorem conv_reads (v : Value) (l : List Int) (w : World) (h : Reads .u8 w v l) : (convert 22 9 v).run Tryd.prog w = .ok (.string (strOfNums l)) w := by
  by_cases hl : 0 < l.length
  · obtain ⟨b, off, c, rfl, _, _, _, hc⟩ := h.plain hl
    exact run_convert_bytes_arg (P := Tryd.prog) w 22 5 Tryd.underlying22 Tryd.underlying5 b off l.length c l rfl (fun i hi => by rw [hc i hi, List.getD_eq_getElem?_getD, List.getElem?_eq_getElem hi]; rfl) 9 Tryd.underlying9
  · obtain rfl : l = [] := List.length_eq_zero_iff.1 (by omega)
    obtain ⟨a, c, rfl, _⟩ := h
    rcases a with _ | a
    · exact run_convert_bytes_nil (P := Tryd.prog) w 22 5 Tryd.underlying22 Tryd.underlying5 _ _ 9 Tryd.underlying9
    · have hlc : (loadCells a 0).run Tryd.prog w = .ok #[] w := by rfl
      rw [run_convert_bytes_string w 22 9 5 _ _ c Tryd.underlying22 Tryd.underlying5 Tryd.underlying9]
      simp only [List.length_nil]
      rw [run_bytesToString w a 0 c [] hlc]
      rfl
theorem conv_reads_later (v : Value) (l : List Int) (w : World) (h : Reads .u8 w v l) : ∀ w', Below w.heap.size w w' → (convert 22 9 v).run Tryd.prog w' = .ok (.string (strOfNums l)) w' := fun w' hb => conv_reads v l w' (h.later hb)
def nine : List Int := [49, 50, 51, 52, 53, 54, 55, 56, 57]
def eleven : List Int := [49, 50, 51, 52, 53, 54, 55, 56, 57, 41, 177]
theorem crc_nine : crcOf nine = 10673#16 := by decide +kernel
theorem seal_nine : sealL nine = eleven := by decide +kernel
theorem str_nine : strOfNums nine = ⟨#[49, 50, 51, 52, 53, 54, 55, 56, 57]⟩ := by rfl
/-- a slice made of numbers reads as them -/
theorem reads_built (w : World) (l : List Int) (t : TypeId) (fr : Nat × Nat) (vs : Array Value) (hvs : vs = (l.map (Value.int .u8)).toArray) (hw : ∀ x ∈ l, (Lit.int .u8 x).wf = true) (hm : l.length ≤ maxLen) (n : Nat) (hn : n = l.length) :
    Reads .u8 (w.alloc (.cells vs t fr)) (.slice (some ⟨w.heap.size, 0, none⟩) n n) l := by
  subst hvs hn
  refine ⟨some ⟨w.heap.size, 0, none⟩, l.length, rfl, Nat.le_refl _, hm, hw, fun h => (nomatch h), fun b hb i hi => ?_⟩
  obtain rfl := Option.some.inj hb
  rw [Addr.add_lit, World.cell?_alloc_mark]
  simp [hi]
set_option maxRecDepth 20000 in
theorem awake11 (w : World) (h4 : Four w) : Calls Tryd.prog 21 #[] w fun e w' => e = .returned (.bool true) ∧ Below w.heap.size w w' := by
  have hn : ∀ x ∈ nine, (Lit.int .u8 x).wf = true := by decide
  have he : ∀ x ∈ eleven, (Lit.int .u8 x).wf = true := by decide
  have B0 := hid (Below.refl w.heap.size w)
  have F0 := hid h4
  clear h4
  go_enter Tryd.func21, Tryd.ntmps21
  go_wp2_with fail
  refine (open_ok _ eleven 9 rfl _ (reads_built w eleven _ _ _ rfl he (by decide) _ rfl) (F0.out.later ?g1) seal_nine.symm (by decide)).mono ?_
  case g1 => exact (Below.refl _ _).alloc (Nat.le_refl _) _
  rintro e w1 ⟨v1, rfl, hb, hown⟩
  have hr1 : Reads .u8 w1 v1 nine := reads_of_owns hown hn
  clear hown
  have hB : Below w.heap.size w w1 := ((Below.refl w.heap.size w).alloc (Nat.le_refl _) _).trans (hb.mono (by simp))
  clear hb
  have hcs := Lib.run_convert_bytes_const (P := Tryd.prog) w1 22 5 #[.int .u8 49, .int .u8 50, .int .u8 51, .int .u8 52, .int .u8 53, .int .u8 54, .int .u8 55, .int .u8 56, .int .u8 57] 9 9 Tryd.underlying22 Tryd.underlying5
  go_wp2_with fail
  refine (of_any _ nine _ (reads_built w1 nine _ _ _ rfl hn (by decide) _ rfl) (F0.out.later ?g2)).mono ?_
  case g2 => exact hB.alloc hB.size _
  rintro e w2 ⟨rfl, hb2⟩
  have hB2 : Below w1.heap.size w1 w2 := ((Below.refl w1.heap.size w1).alloc (Nat.le_refl _) _).trans (hb2.mono (by simp))
  have hs := conv_reads v1 nine w2 (hr1.later hB2)
  replace hB := chain hB hB2
  clear hcs
  clear hb2 hB2 hr1
  rw [crc_nine, str_nine] at *
  go_wp2_with fail
  refine (of_any _ [] _ ⟨none, 0, rfl, Nat.le_refl _, Nat.zero_le _, by simp, fun _ => ⟨rfl, rfl⟩, fun b hb => (nomatch hb)⟩ (F0.out.later hB)).mono ?_
  rintro e w3 ⟨rfl, hb3⟩
  replace hB := chain hB hb3
  go_wp2
  go_ret
  exact ⟨rfl, hB⟩
end Go.Proofs.YtecbfegohdllbaaDoor
end
section
/- What the functions of the reference of layer 1 return: contracts. -/
namespace Go.Proofs.YtecbfegohdllbaaDoor
open Go.RowKit
theorem pow_bd (k : Nat) (h : k ≤ 62) : (1 : Int) ≤ 2 ^ k ∧ (2 : Int) ^ k ≤ 4611686018427387904 := by
  have h1 : (0 : Int) < 2 ^ k := Int.pow_pos (by decide)
  have h2 : (2 : Nat) ^ k ≤ 2 ^ 62 := Nat.pow_le_pow_right (by decide) h
  have h3 : ((2 ^ k : Nat) : Int) ≤ ((2 ^ 62 : Nat) : Int) := by exact_mod_cast h2
  refine ⟨by omega, ?_⟩
  have e : ((2 ^ k : Nat) : Int) = 2 ^ k := by simp
  have e2 : ((2 ^ 62 : Nat) : Int) = 4611686018427387904 := by decide
  rw [e, e2] at h3
  exact h3
theorem tmod_cases (x m : Int) (hm : 0 < m) : (x.tmod m < 0 ∧ x.tmod m + m = x % m ∧ -m < x.tmod m) ∨ (¬ x.tmod m < 0 ∧ x.tmod m = x % m ∧ x.tmod m < m) := by
  have h1 := Int.emod_nonneg x (show m ≠ 0 by omega)
  have h2 := Int.emod_lt_of_pos x hm
  by_cases hx : 0 ≤ x
  · right
    rw [Int.tmod_eq_emod_of_nonneg hx]; omega
  · have e : x.tmod m = - ((-x) % m) := by
      rw [← Int.tmod_eq_emod_of_nonneg (show 0 ≤ -x by omega), Int.neg_tmod, Int.neg_neg]
    have h3 := Int.emod_nonneg (-x) (show m ≠ 0 by omega)
    have h4 := Int.emod_lt_of_pos (-x) hm
    have e2 : x % m = if (-x) % m = 0 then 0 else m - (-x) % m := by
      have := Int.neg_emod (a := -x) (b := m)
      rw [Int.neg_neg] at this
      rw [this]
      simp only [Int.dvd_iff_emod_eq_zero]
      split <;> omega
    rw [e, e2]
    by_cases h0 : (-x) % m = 0
    · right; rw [if_pos h0]; omega
    · left; rw [if_neg h0]; omega
theorem mod_any (x m : Int) (w : World) (_hx : -9223372036854775808 ≤ x ∧ x ≤ 9223372036854775807) (hm : 1 ≤ m ∧ m ≤ 4611686018427387904) :
    Calls Tryd.prog 62 #[.int .i64 x, .int .i64 m] w fun e w' => e = .returned (.int .i64 (x % m)) ∧ w = w' := by
  have hz : (m == 0) = false := by simp; omega
  rcases tmod_cases x m (by omega) with ⟨h1, h2, h3⟩ | ⟨h1, h2, h3⟩
  · have H2 := hid h2; clear h2
    go_enter Tryd.func62, Tryd.ntmps62
    go_wp2
    go_ret
    exact ⟨ret_int H2.out, rfl⟩
  · have H2 := hid h2; clear h2
    go_enter Tryd.func62, Tryd.ntmps62
    go_wp2
    go_ret
    exact ⟨ret_int H2.out, rfl⟩
def signedI (x : Int) (k : Nat) : Int := (x + 2 ^ (k - 1)) % 2 ^ k - 2 ^ (k - 1)
theorem signed_fold (x h : Int) (hh : 0 < h) : (h ≤ x % (h * 2) → x % (h * 2) - h * 2 = (x + h) % (h * 2) - h) ∧ (¬ h ≤ x % (h * 2) → x % (h * 2) = (x + h) % (h * 2) - h) := by
  have h1 := Int.emod_nonneg x (show h * 2 ≠ 0 by omega)
  have h2 := Int.emod_lt_of_pos x (show 0 < h * 2 by omega)
  have e : (x + h) % (h * 2) = (x % (h * 2) + h) % (h * 2) := by rw [Int.emod_add_emod]
  constructor
  · intro h3
    have e3 : (x % (h * 2) - h) % (h * 2) = x % (h * 2) - h := Int.emod_eq_of_lt (by omega) (by omega)
    have e4 : (x % (h * 2) + h) % (h * 2) = (x % (h * 2) - h) % (h * 2) := by
      rw [show x % (h * 2) + h = (x % (h * 2) - h) + h * 2 by omega, Int.add_emod_right]
    omega
  · intro h3
    have e3 : (x % (h * 2) + h) % (h * 2) = x % (h * 2) + h := Int.emod_eq_of_lt (by omega) (by omega)
    omega
theorem tdiv_exact (x M : Int) (h : M ≠ 0) : (x - x % M).tdiv M = x / M := by
  have : x - x % M = M * (x / M) := by have := Int.mul_ediv_add_emod x M; omega
  rw [this, Int.mul_tdiv_cancel_left _ h]
theorem signed_spec (x : Int) (n : Nat) (h1 : 1 ≤ n) (h2 : n ≤ 32) : (2 ≤ (2 : Int) ^ n ∧ (2 : Int) ^ n ≤ 4611686018427387904) ∧ (0 ≤ x % 2 ^ n ∧ x % 2 ^ n < 2 ^ n) ∧
    ((2 : Int) ^ n / 2 ≤ x % 2 ^ n → x % 2 ^ n - 2 ^ n = signedI x n) ∧ (¬ (2 : Int) ^ n / 2 ≤ x % 2 ^ n → x % 2 ^ n = signedI x n) := by
  obtain ⟨j, rfl⟩ : ∃ j, n = j + 1 := ⟨n - 1, by omega⟩
  have hp := pow_bd (j + 1) (by omega)
  have hj := pow_bd j (by omega)
  have hf := signed_fold x (2 ^ j) (Int.pow_pos (by decide))
  have e : signedI x (j + 1) = (x + 2 ^ j) % (2 ^ j * 2) - 2 ^ j := by unfold signedI; rw [Nat.add_sub_cancel, Int.pow_succ]
  rw [e]; clear e
  rw [Int.pow_succ] at *
  have hq1 := Int.emod_nonneg x (show (2 : Int) ^ j * 2 ≠ 0 by omega)
  have hq2 := Int.emod_lt_of_pos x (show 0 < (2 : Int) ^ j * 2 by omega)
  rw [show (2 : Int) ^ j * 2 / 2 = 2 ^ j by omega]
  exact ⟨by omega, ⟨hq1, hq2⟩, hf.1, hf.2⟩
theorem signed_any (x : Int) (n : Nat) (w : World) (hx : -9223372036854775808 ≤ x ∧ x ≤ 9223372036854775807) (h1 : 1 ≤ n) (h2 : n ≤ 32) :
    Calls Tryd.prog 95 #[.int .i64 x, .int .i64 n] w fun e w' => e = .returned (.int .i64 (signedI x n)) ∧ w = w' := by
  go_enter Tryd.func95, Tryd.ntmps95
  go_wp2_with fail
  go_loop [5, 6] (fun m i => ∃ k : Nat, k ≤ n ∧ i = .int .i64 k ∧ m = .int .i64 (2 ^ k)) (fun _ i => n - (intOf i).toNat)
  case atStart => exact ⟨0, Nat.zero_le _, rfl, rfl⟩
  case round =>
    obtain ⟨k, hk, rfl, rfl⟩ := hrel
    have hp := pow_bd k (by omega)
    by_cases hlt : k < n
    · have hp1 := pow_bd (k + 1) (by omega)
      rw [Int.pow_succ] at hp1
      generalize hm : (2 : Int) ^ k = m at *
      have HM := hid hm; clear hm
      go_wp2_with fail
      go_round
      case rel => exact ⟨k + 1, by omega, by go_num, by rw [Int.pow_succ, HM.out, Int.mul_comm]⟩
      case measure => simp [intOf]; omega
    · obtain rfl : n = k := by omega
      have hf := signed_spec x n h1 h2
      generalize (2 : Int) ^ n = M at *
      obtain ⟨hM, hy, hf1, hf2⟩ := hf
      by_cases c : M / 2 ≤ x % M
      · have e := hid (hf1 c)
        clear hf1 hf2
        go_wp2_with (go_at_call 62; refine (mod_any _ _ _ (by omega) (by omega)).mono ?_; rintro e w' ⟨rfl, rfl⟩)
        go_ret
        exact ⟨ret_int e.out, rfl⟩
      · have e := hid (hf2 c)
        clear hf1 hf2
        go_wp2_with (go_at_call 62; refine (mod_any _ _ _ (by omega) (by omega)).mono ?_; rintro e w' ⟨rfl, rfl⟩)
        go_ret
        exact ⟨ret_int e.out, rfl⟩
theorem rlow_any (x : Int) (w : World) (hx : -9223372036854775808 ≤ x ∧ x ≤ 9223372036854775807) :
    Calls Tryd.prog 87 #[.int .i64 x] w fun e w' => e = .returned (.int .i32 (lowI x)) ∧ w = w' := by
  have hb := lowI_bd x
  have e1 : signedI x 32 = lowI x := by unfold signedI lowI; rw [show ((2:Int) ^ (32 - 1)) = 2147483648 from rfl, show ((2:Int) ^ 32) = 4294967296 from rfl]
  go_enter Tryd.func87, Tryd.ntmps87
  go_wp2_with fail
  refine (signed_any x 32 _ hx (by decide) (by decide)).mono ?_
  rintro e w2 ⟨rfl, rfl⟩
  rw [e1]; clear e1
  go_wp2
  go_ret
  exact ⟨rfl, rfl⟩
theorem rplain_any (x : Int) (w : World) (hx : -2147483648 ≤ x ∧ x ≤ 2147483647) :
    Calls Tryd.prog 98 #[.int .i32 x] w fun e w' => e = .returned (.int .i64 (x % 4294967296)) ∧ w = w' := by
  go_enter Tryd.func98, Tryd.ntmps98
  go_wp2_with fail
  refine (mod_any _ _ _ (by omega) (by omega)).mono ?_
  rintro e w2 ⟨rfl, rfl⟩
  go_wp2
  go_ret
  exact ⟨rfl, rfl⟩
theorem rpair_any (a b : Int) (w : World) (ha : 0 ≤ a ∧ a ≤ 255) (hb : 0 ≤ b ∧ b ≤ 255) :
    Calls Tryd.prog 67 #[.int .u8 a, .int .u8 b] w fun e w' => e = .returned (.int .i32 (halfI (256 * a + b))) ∧ w = w' := by
  have hh := halfI_bd (256 * a + b)
  have e1 : signedI (256 * a + b) 16 = halfI (256 * a + b) := by unfold signedI halfI; rw [show ((2:Int) ^ (16 - 1)) = 32768 from rfl, show ((2:Int) ^ 16) = 65536 from rfl]
  go_enter Tryd.func67, Tryd.ntmps67
  go_wp2_with fail
  refine (signed_any (256 * a + b) 16 _ (by omega) (by decide) (by decide)).mono ?_
  rintro e w2 ⟨rfl, rfl⟩
  rw [e1]; clear e1
  go_wp2
  go_ret
  exact ⟨rfl, rfl⟩
theorem rfrom_short (a : Option Addr) (n c : Nat) (w : World) (hn : n < 4) :
    Calls Tryd.prog 78 #[.slice a n c] w fun e w' => e = .returned (.tuple #[.int .i32 0, .int .i64 4]) ∧ w = w' := by
  go_enter Tryd.func78, Tryd.ntmps78
  go_wp2
  go_ret2
  exact ⟨rfl, rfl⟩
theorem rfrom_long (a : Option Addr) (n c : Nat) (w : World) (hn : 4 < n) (hm : n ≤ 9223372036854775807) :
    Calls Tryd.prog 78 #[.slice a n c] w fun e w' => e = .returned (.tuple #[.int .i32 0, .int .i64 5]) ∧ w = w' := by
  go_enter Tryd.func78, Tryd.ntmps78
  go_wp2
  go_ret2
  exact ⟨rfl, rfl⟩
theorem rfrom_four (b0 b1 b2 b3 : Int) (b off c : Nat) (w : World) (h0 : 0 ≤ b0 ∧ b0 ≤ 255) (h1 : 0 ≤ b1 ∧ b1 ≤ 255) (h2 : 0 ≤ b2 ∧ b2 ≤ 255) (h3 : 0 ≤ b3 ∧ b3 ≤ 255)
    (c0 : w.cell? ⟨b, off, none⟩ = some (.int .u8 b0)) (c1 : w.cell? ⟨b, off + 1, none⟩ = some (.int .u8 b1)) (c2 : w.cell? ⟨b, off + 2, none⟩ = some (.int .u8 b2)) (c3 : w.cell? ⟨b, off + 3, none⟩ = some (.int .u8 b3)) :
    Calls Tryd.prog 78 #[.slice (some ⟨b, off, none⟩) 4 c] w fun e w' => e = .returned (.tuple #[.int .i32 (lowI (((b0 * 256 + b1) * 256 + b2) * 256 + b3)), .int .i64 0]) ∧ w = w' := by
  go_enter Tryd.func78, Tryd.ntmps78
  go_wp2_with fail
  go_loop [4, 5] (fun n i => (i = .int .i64 0 ∧ n = .int .i64 0) ∨ (i = .int .i64 1 ∧ n = .int .i64 b0) ∨ (i = .int .i64 2 ∧ n = .int .i64 (256 * b0 + b1)) ∨ (i = .int .i64 3 ∧ n = .int .i64 (256 * (256 * b0 + b1) + b2)) ∨ (i = .int .i64 4 ∧ n = .int .i64 (256 * (256 * (256 * b0 + b1) + b2) + b3))) (fun _ i => 4 - (intOf i).toNat)
  case atStart => exact .inl ⟨rfl, rfl⟩
  case round =>
    rcases hrel with ⟨rfl, rfl⟩ | ⟨rfl, rfl⟩ | ⟨rfl, rfl⟩ | ⟨rfl, rfl⟩ | ⟨rfl, rfl⟩
    · go_wp2
      go_round
      case rel => exact .inr (.inl ⟨rfl, by simp⟩)
      case measure => simp [intOf]
    · go_wp2
      go_round
      case rel => exact .inr (.inr (.inl ⟨rfl, rfl⟩))
      case measure => simp [intOf]
    · go_wp2
      go_round
      case rel => exact .inr (.inr (.inr (.inl ⟨rfl, rfl⟩)))
      case measure => simp [intOf]
    · go_wp2
      go_round
      case rel => exact .inr (.inr (.inr (.inr ⟨rfl, rfl⟩)))
      case measure => simp [intOf]
    · have e : 256 * (256 * (256 * b0 + b1) + b2) + b3 = ((b0 * 256 + b1) * 256 + b2) * 256 + b3 := by omega
      have E := hid e
      clear e
      go_wp2_with (go_at_call 87; refine (rlow_any _ _ (by omega)).mono ?_; rintro e w' ⟨rfl, rfl⟩)
      go_ret2
      exact ⟨by rw [← E.out]; rfl, rfl⟩
theorem rbytes4_any (x : Int) (w : World) (hx : -2147483648 ≤ x ∧ x ≤ 2147483647) :
    Calls Tryd.prog 75 #[.int .i32 x] w fun e w' => ∃ b c, e = .returned (.slice (some ⟨b, 0, none⟩) 4 c) ∧ Below w.heap.size w w' ∧ 4 ≤ c ∧ c ≤ maxLen ∧ w.heap.size ≤ b ∧ b < w'.heap.size ∧
      w'.cell? ⟨b, 0, none⟩ = some (.int .u8 (x / 16777216 % 256)) ∧ w'.cell? ⟨b, 1, none⟩ = some (.int .u8 (x / 65536 % 256)) ∧ w'.cell? ⟨b, 2, none⟩ = some (.int .u8 (x / 256 % 256)) ∧ w'.cell? ⟨b, 3, none⟩ = some (.int .u8 (x % 256)) := by
  have e1 : x % 4294967296 / 16777216 = x / 16777216 % 256 := by omega
  have e2 : x % 4294967296 / 65536 % 256 = x / 65536 % 256 := by omega
  have e3 : x % 4294967296 / 256 % 256 = x / 256 % 256 := by omega
  have e4 : x % 4294967296 % 256 = x % 256 := by omega
  rw [← e1, ← e2, ← e3, ← e4]
  clear e1 e2 e3 e4
  go_enter Tryd.func75, Tryd.ntmps75
  go_wp2_with (go_at_call 98; refine (rplain_any _ _ hx).mono ?_; rintro e w' ⟨rfl, rfl⟩)
  go_ret
  refine ⟨w.heap.size, 4, rfl, by go_grown, by omega, by simp [maxLen], by omega, by simp, ?_, ?_, ?_, ?_⟩
  all_goals go_simp
end Go.Proofs.YtecbfegohdllbaaDoor
end
section
/- A range over a function whose iterator keeps state of its own in cells: between two rounds it may turn what a relation T names; what it has come to at its end is told. (No program in sight. The steps on the loop's record are turned after the kit's law wpIn_rangeFunc_ownH.) -/
namespace Go.Proofs.YtecbfegohdllbaaDoor
open Go.RowKit Go
set_option linter.unusedVariables false
/-- the iterator's word: at whatever J that abides its turns -/
def SeqTurns {α : Type} (F : Fence) (n : Nat) (P : Program) (g : Nat) (lb : Array Value) (encs : α → Array Value) (T Kp : World → World → Prop) (ok : List α → α → Prop) (St : World → Prop) (S : List α → World → Prop) : Prop :=
  ∀ (l : Nat) (J : List α → World → Prop) (W : World), St W → (∀ s A B, J s A → T A B → J s B) →
    (∀ pre x W1, ok pre x → J pre W1 → YieldAt F (n - 1) P l (encs x) W1 fun e W' => e = .returned (.bool true) ∧ J (pre ++ [x]) W' ∧ Kp W1 W') →
    J [] W →
    CallsIn F n P g (#[.func (.yield l) #[] #[]] ++ lb) W fun e W' => (∃ v, e = .returned v) ∧ ∃ xs, S xs W' ∧ J xs W'
variable {F : Fence} {n : Nat} {P : Program}
theorem wpIn_rangeFunc_turns {α : Type} {g : Operand} {ps : Array Tmp} {assign body : Code} {Q : Exit → Act → World → Prop} {a : Act} {w : World}
    (hro : F.round = none) (h1 : 1 ≤ n) {gf : Nat} {lb : Array Value} (hg : a.eval g = .func (.func gf) #[] lb) (hFg : F.fn gf) (eg : ∀ args w, (callFunc gf args).run P w = .ok (.enter gf args) w)
    {encs : α → Array Value} {T Kp : World → World → Prop} {ok : List α → α → Prop} {St : World → Prop} {S : List α → World → Prop} (hseq : SeqTurns F (n - 1) P gf lb encs T Kp ok St S)
    (hT : ∀ A B, T A B → ∀ (k : Nat) (o : Obj), w.heap.size ≤ k → A.heap[k]? = some o → o.isCells = false → B.heap[k]? = some o)
    (hKt : ∀ {A B C : World}, Kp A B → Kp B C → Kp A C) (hKb : ∀ (W : World) (l : Nat) (o o' : Obj), w.heap.size ≤ l → W.heap[l]? = some o → o.isCells = false → o.isWalk = false → Kp W (W.putObj l o')) (hps : ∀ x, (encs x).size = ps.size)
    (hSt : OwnFrom w.heap.size (fun (_ : Unit) W => St W)) (hst : St w) (hS : OwnFrom w.heap.size S)
    (I : List α → World → Prop) (hI : OwnFrom w.heap.size I) (hIT : ∀ s A B, I s A → T A B → I s B) (h0 : I [] w) (Ax : α → Act → World → Prop) (hAx : ∀ x a', OwnFrom w.heap.size (fun (_ : Unit) W => Ax x a' W))
    (hassign : ∀ (l : Nat) (pre : List α) (x : α) (W : World) (K : Act → World → Prop), ok pre x → I pre W → (∀ a' W', KeepsFrom w.heap.size W W' → Kp W W' → I pre W' → Ax x a' W' → K a' W') →
      assign.wpIn (F.inRound l) (n - 1 - 1) P (Exit.then K (fun _ _ _ => False)) { tmps := (ps.zip (encs x)).foldl (fun t (p, v) => t.setIfInBounds p v) a.tmps, defers := [] } W)
    (hbody : ∀ (l : Nat) (pre : List α) (x : α) (a' : Act) (W : World), w.heap.size ≤ l → ok pre x → I pre W → Ax x a' W → body.wpIn (F.inRound l) (n - 1 - 1) P (ownPostG w.heap.size Kp I (fun _ _ _ => False) (pre ++ [x]) W) a' W)
    (hdone : ∀ (D : Nat) (xs : List α) (W : World), w.heap.size ≤ D → S xs W → I xs W → W.heap[D]? = some (.deferred (some [])) → Q .normal { a with defers := { target := .collected D, args := #[] } :: a.defers } W) :
    (Code.rangeFunc g ps assign body).wpIn F n P Q a w := by
  refine wpIn_rangeFunc ?_
  intro fn hfn
  rw [hro]
  obtain ⟨rec, hrec⟩ : ∃ rec : LoopState → Option Code → Loop, rec = fun st pe => { state := st, pending := pe, fn, tmps := a.tmps, params := ps, assign, body, defers := w.heap.size } := ⟨_, rfl⟩
  obtain ⟨W1, hW1⟩ : ∃ W1, (w.alloc (.deferred (some []))).alloc (.loop (rec .ready none)) = W1 := ⟨_, rfl⟩
  have hL1 : W1.heap[w.heap.size + 1]? = some (.loop (rec .ready none)) := by
    rw [← hW1]; have := World.alloc_heap_new (w.alloc (.deferred (some []))) (.loop (rec .ready none)); rwa [World.size_alloc] at this
  have hK1 : W1.heap[w.heap.size]? = some (.deferred (some [])) := by
    rw [← hW1]; exact (Below.heap_alloc _ _ _ (by simp)).trans (World.alloc_heap_new w _)
  have hI1 : I [] W1 := by rw [← hW1]; exact hI.alloc _ (hI.alloc _ h0)
  have hs1 : St W1 := by rw [← hW1]; exact hSt.alloc (s := ()) _ (hSt.alloc (s := ()) _ hst)
  refine ⟨w.heap.size + 1, [{ target := .collected w.heap.size, args := #[] }], W1, { target := .fn (.func gf) lb, args := #[.func (.yield (w.heap.size + 1)) #[] #[]] }, W1, gf,
    #[.func (.yield (w.heap.size + 1)) #[] #[]] ++ lb, W1, ?_, ?_, ?_, ?_, fun _ => h1, ?_⟩
  · rw [← hW1, hrec]; exact run_enterLoop_outer _ _ _ _ _
  · simp only [resolve, hg]
    simp [go_sem]
  · intro f' hf'; simp [Target.leads] at hf'; subst hf'; exact hFg
  · simp [invoke, go_sem, eg]
  · refine (hseq (w.heap.size + 1)
      (fun pre W => I pre W ∧ W.heap[w.heap.size + 1]? = some (.loop (rec .ready none)) ∧ W.heap[w.heap.size]? = some (.deferred (some [])))
      W1 hs1
      (fun s A B hs ht => ⟨hIT s A B hs.1 ht, hT A B ht _ _ (by omega) hs.2.1 rfl, hT A B ht _ _ (Nat.le_refl _) hs.2.2 rfl⟩)
      ?_ ⟨hI1, hL1, hK1⟩).mono ?_
    · rintro pre x W hokx ⟨hi, hl, hk⟩
      have hlt : w.heap.size + 1 < W.heap.size := (Array.getElem?_eq_some_iff.1 hl).1
      have hy := run_yield (P := P) (args := encs x) hl (by rw [hrec]; exact hps x)
      rw [hrec] at hy
      refine ⟨fn, _, assign, body, hy, roundIn_of_wpIn hfn (hassign _ pre x W _ hokx hi ?_)⟩
      clear hy
      intro a' Wa hkfa hkpa hia hax
      replace hl := hkfa.same _ _ (by omega) hl rfl
      replace hk := hkfa.same _ _ (Nat.le_refl _) hk rfl
      replace hlt : w.heap.size + 1 < Wa.heap.size := (Array.getElem?_eq_some_iff.1 hl).1
      refine ⟨_, run_beginRound hl (by rw [hrec]), ?_⟩
      have hl2 : (Wa.putObj (w.heap.size + 1) (.loop { rec .ready none with state := .busy })).heap[w.heap.size + 1]? = some (.loop { rec .ready none with state := .busy }) := World.putObj_heap_same hlt
      have hk2 : (Wa.putObj (w.heap.size + 1) (.loop { rec .ready none with state := .busy })).heap[w.heap.size]? = some (.deferred (some [])) := (World.putObj_heap_other (by omega)).trans hk
      have hw2 : Kp Wa (Wa.putObj (w.heap.size + 1) (.loop { rec .ready none with state := .busy })) := hKb _ _ _ _ (by omega) hl rfl rfl
      refine wpIn_mono (hbody _ pre x a' _ (by omega) hokx (hI.putObj _ hia (by omega) hl rfl) ((hAx x a').putObj (s := ()) _ hax (by omega) hl rfl)) ?_
      rintro e a3 W3 hp
      cases e with
      | normal =>
        obtain ⟨hk3, hkp3, hi3⟩ := hp
        have hl3 := hk3.same _ _ (by omega) hl2 rfl
        have hk4 := hk3.same _ _ (Nat.le_refl _) hk2 rfl
        have hend := run_endRound (P := P) none hl3
        have hl4 := World.putObj_heap_same (o := .loop (rec .ready none)) (Array.getElem?_eq_some_iff.1 hl3).1
        rw [hrec] at hend hl3 hl4 ⊢
        exact ⟨_, _, hend, rfl, ⟨hI.putObj _ hi3 (by omega) hl3 rfl, hl4, (World.putObj_heap_other (by omega)).trans hk4⟩, hKt hkpa (hKt (hKt (by rw [hrec] at hw2; exact hw2) (by rw [hrec] at hkp3; exact hkp3)) (hKb _ _ _ _ (by omega) hl3 rfl rfl))⟩
      | ret => exact hp.2.elim
      | exit id => exact hp.2.elim
      | goto t => exact hp.2.elim
      | panic ch => exact hp.elim
      | outgrown => exact hp.elim
    · rintro e W2 ⟨⟨v, rfl⟩, xs, hs, hi, hl, hk⟩
      exact ⟨none, _, by have := run_endLoop (P := P) hl (by rw [hrec]; simp); rw [hrec] at this; exact this, hdone _ xs _ (Nat.le_refl _) (hS.putObj _ hs (by omega) hl rfl) (hI.putObj _ hi (by omega) hl rfl) ((World.putObj_heap_other (by omega)).trans hk)⟩
end Go.Proofs.YtecbfegohdllbaaDoor
end
section
/- As the text EachF, but that one operation, z, which waits for all others, may write wherever: a region that draws its order: one order walked serves every order, where what reads may be taken first and what is left comes alone. (No program in sight.) -/
namespace Go.Proofs.YtecbfegohdllbaaDoor
open Go.RowKit Go
section
variable {z : Nat} {B : Nat} {P : Program} {ops : Array Oper} {Q : Exit → Act → World → Prop} {md : Region.Mode}
/-- Whatever order is picked from here on; each step leaves what was there. -/
def wpAnyL (z B : Nat) (P : Program) (md : Region.Mode) (ops : Array Oper) (Q : Exit → Act → World → Prop) : Nat → Array Bool → Act → World → Prop
  | 0, listed, a, w => Region.ready md ops listed = [] ∧ Q .normal a w
  | fuel + 1, listed, a, w =>
    (Region.ready md ops listed = [] → Q .normal a w) ∧
    ∀ i ∈ Region.ready md ops listed, wpOp P ops Q i (fun a' w' => (i ≠ z → Below B w w') ∧ wpAnyL z B P md ops Q fuel (listed.setIfInBounds i true) a' w') a w
theorem wpAny_of_L : ∀ (fuel : Nat) (listed : Array Bool) (a : Act) (w : World), wpAnyL z B P md ops Q fuel listed a w → wpAny P md ops Q fuel listed a w
  | 0, _, _, _, h => h
  | fuel + 1, _, _, _, h => ⟨h.1, fun i hi => wpOp_mono (fun a' w' h' => wpAny_of_L fuel _ a' w' h'.2) (h.2 i hi)⟩
theorem belowL_chain {B : Nat} {w w1 w2 : World} (h : Below B w w1) (k : Below B w1 w2) : Below B w w2 := h.trans k
theorem yieldsIfL_mono {S S' : World → Prop} {o : Oper} {v : Value} {a : Act} (h : ∀ w, S' w → S w) (hy : YieldsIf P ops S o v a) : YieldsIf P ops S' o v a :=
  hy.imp (fun ⟨h1, h2⟩ => ⟨h1, fun w hw => h2 w (h w hw)⟩) id
/-- what waits for i, and what waits for that: none of it listed yet -/
def LagsP (md : Region.Mode) (ops : Array Oper) (i : Nat) (ds : List Nat) (listed : Array Bool) : Prop :=
  ∀ d ∈ ds, listed.getD d true = false ∧ ∃ o, ops[d]? = some o ∧ ∃ e ∈ o.after, Region.binds md e = true ∧ (e.on = i ∨ e.on ∈ ds)
def lags (md : Region.Mode) (ops : Array Oper) (i : Nat) (ds : List Nat) (listed : Array Bool) : Bool :=
  ds.all fun d => !(listed.getD d true) && match ops[d]? with | some o => o.after.any fun e => Region.binds md e && (e.on == i || ds.contains e.on) | none => false
theorem lags_spec {i : Nat} {ds : List Nat} {listed : Array Bool} (h : lags md ops i ds listed = true) : LagsP md ops i ds listed := by
  intro d hd
  have h1 := List.all_eq_true.1 h d hd
  simp only [Bool.and_eq_true, Bool.not_eq_true'] at h1
  refine ⟨h1.1, ?_⟩
  cases ho : ops[d]? with
  | none => rw [ho] at h1; cases h1.2
  | some o =>
    rw [ho] at h1
    obtain ⟨k, hk, he⟩ := Array.any_eq_true.1 h1.2
    simp only [Bool.and_eq_true, Bool.or_eq_true, beq_iff_eq, List.contains_iff_mem] at he
    exact ⟨o, rfl, o.after[k], Array.getElem_mem hk, he.1, he.2⟩
theorem unlisted {listed : Array Bool} {k : Nat} (h0 : listed.getD k true = false) (h1 : listed.getD k false = true) : False := by
  rcases Nat.lt_or_ge k listed.size with h' | h'
  · simp [h'] at h0 h1; rw [h0] at h1; cases h1
  · simp [Array.getElem?_eq_none h'] at h1
theorem lags_not {i d : Nat} {ds : List Nat} {listed : Array Bool} (h : LagsP md ops i ds listed) (hi : listed.getD i true = false) (hd : d ∈ ds) : d ∉ Region.ready md ops listed := by
  intro hr
  obtain ⟨-, o, ho, e, he, hb, hon⟩ := h d hd
  obtain ⟨_, o', ho', hall⟩ := mem_ready.1 hr
  rw [ho] at ho'
  obtain rfl := Option.some.inj ho'
  have h1 := hall e he hb
  rcases hon with rfl | hon
  · exact unlisted hi h1
  · exact unlisted (h _ hon).1 h1
theorem wpAnyL_first {i : Nat} {oi : Oper} {v : Value} (hi : ops[i]? = some oi) (hsel : ∀ (j : Nat) (o : Oper) cs b, ops[j]? = some o → o.op ≠ .select cs b)
    (hQ : ∀ c a w, Q (.panic c) (a.put oi.dst v) w → Q (.panic c) a w) {ds : List Nat} (hzd : z ∈ ds) :
    ∀ (fuel : Nat) (listed : Array Bool) (a : Act) (w : World),
      (∀ j oj, ops[j]? = some oj → j ≠ i → listed.getD j true = false → (∀ e ∈ oj.after, Region.binds md e = true → e.on ≠ i) → oi.apart ops oj = true) →
      LagsP md ops i ds listed → i ∈ Region.ready md ops listed → YieldsIf P ops (fun w' => Below B w w') oi v a →
      wpAnyL z B P md ops Q fuel (listed.setIfInBounds i true) (a.put oi.dst v) w → wpAnyL z B P md ops Q (fuel + 1) listed a w := by
  intro fuel
  induction fuel with
  | zero =>
    intro listed a w _ _ hr hy H
    refine ⟨fun h => (by rw [h] at hr; cases hr), fun j hj => ?_⟩
    by_cases hji : j = i
    · subst hji; exact hy.wpOp hi (Below.refl _ _) ⟨fun _ => Below.refl _ _, H⟩
    · have := ready_mono hj hji
      rw [H.1] at this
      cases this
  | succ fuel ih =>
    intro listed a w hfree hlg hr hy H
    refine ⟨fun h => (by rw [h] at hr; cases hr), fun j hj => ?_⟩
    by_cases hji : j = i
    · subst hji; exact hy.wpOp hi (Below.refl _ _) ⟨fun _ => Below.refl _ _, H⟩
    · have hjz : j ≠ z := fun e => lags_not hlg (mem_ready.1 hr).1 hzd (by rw [← e]; exact hj)
      have hlg' : LagsP md ops i ds (listed.setIfInBounds j true) := fun d hd => by
        have hdj : j ≠ d := fun e => lags_not hlg (mem_ready.1 hr).1 hd (by rw [← e]; exact hj)
        exact ⟨by rw [getD_set_ne true hdj]; exact (hlg d hd).1, (hlg d hd).2⟩
      have h1 := H.2 j (ready_mono hj hji)
      obtain ⟨hjun, oj, hoj, hall⟩ := mem_ready.1 hj
      have hnot : ∀ e ∈ oj.after, Region.binds md e = true → e.on ≠ i := fun e he hb heq => by
        have h1 := hall e he hb
        have h0 := (mem_ready.1 hr).1
        rw [heq] at h1
        rcases Nat.lt_or_ge i listed.size with h' | h'
        · simp [h'] at h0 h1; rw [h0] at h1; cases h1
        · simp [Array.getElem?_eq_none h'] at h1
      have h2 := wpOp_putIf hoj (hfree j oj hoj hji hjun hnot) (fun cs b => hsel i oi cs b hi) (fun cs b => hsel j oj cs b hoj) hQ hy h1
      have hfree' : ∀ k ok, ops[k]? = some ok → k ≠ i → (listed.setIfInBounds j true).getD k true = false →
          (∀ e ∈ ok.after, Region.binds md e = true → e.on ≠ i) → oi.apart ops ok = true := fun k ok hk hki hun hno => by
        refine hfree k ok hk hki ?_ hno
        by_cases hjk : j = k
        · subst hjk; exact hjun
        · rw [getD_set_ne true hjk] at hun; exact hun
      refine wpOp_mono (fun a' w' h3 => ⟨h3.2.1, ih (listed.setIfInBounds j true) a' w' hfree' hlg' (ready_mono hr (Ne.symm hji)) (yieldsIfL_mono (fun w2 hw2 => belowL_chain (h3.2.1 hjz) hw2) h3.1) ?_⟩) h2
      rw [Array.setIfInBounds_comm _ _ hji]
      exact h3.2.2
theorem wpAnyL_take {i : Nat} {oi : Oper} {v : Value} {fuel : Nat} {listed : Array Bool} {a : Act} {w : World} (d : Option Tmp) (hi : ops[i]? = some oi) (hd : oi.dst = d)
    (hs : Region.noSelect ops = true) (hf : Region.free md ops listed i = true) (hr : (Region.ready md ops listed).contains i = true)
    (hQ : ∀ c a w, Q (.panic c) (a.put d v) w → Q (.panic c) a w) (hw : Region.wanted oi (yielded ops a.tmps) = true) (ds : List Nat) (hz : (ds.contains z && lags md ops i ds listed) = true)
    (hv : ∀ w', Below B w w' → (execOp a.eval oi).run P w' = .ok (.value v) w')
    (h : wpAnyL z B P md ops Q fuel (listed.setIfInBounds i true) (a.put d v) w) : wpAnyL z B P md ops Q (fuel + 1) listed a w := by
  subst hd
  simp only [Bool.and_eq_true, List.contains_iff_mem] at hz
  exact wpAnyL_first hi (Region.noSelect_spec hs) hQ hz.1 fuel listed a w (Region.free_spec hi hf) (lags_spec hz.2) (by simpa using hr) (.inl ⟨hw, hv⟩) h
theorem wpAnyL_skip {i : Nat} {oi : Oper} {fuel : Nat} {listed : Array Bool} {a : Act} {w : World} (d : Option Tmp) (hi : ops[i]? = some oi) (hd : oi.dst = d)
    (hs : Region.noSelect ops = true) (hf : Region.free md ops listed i = true) (hr : (Region.ready md ops listed).contains i = true)
    (hQ : ∀ c a w, Q (.panic c) (a.put d undef) w → Q (.panic c) a w) (hw : Region.wanted oi (yielded ops a.tmps) = false) (ds : List Nat) (hz : (ds.contains z && lags md ops i ds listed) = true)
    (h : wpAnyL z B P md ops Q fuel (listed.setIfInBounds i true) (a.put d undef) w) : wpAnyL z B P md ops Q (fuel + 1) listed a w := by
  subst hd
  simp only [Bool.and_eq_true, List.contains_iff_mem] at hz
  exact wpAnyL_first hi (Region.noSelect_spec hs) hQ hz.1 fuel listed a w (Region.free_spec hi hf) (lags_spec hz.2) (by simpa using hr) (.inr ⟨hw, rfl⟩) h
/-- what comes alone -/
theorem wpAnyL_alone {i : Nat} {oi : Oper} {fuel : Nat} {listed : Array Bool} {a : Act} {w : World} (hi : ops[i]? = some oi) (hr : Region.ready md ops listed = [i])
    (hw : Region.wanted oi (yielded ops a.tmps) = true)
    (h : ∀ K : Act → World → Prop, Shut (∀ a' w', (i ≠ z → Below B w w') → wpAnyL z B P md ops Q fuel (listed.setIfInBounds i true) a' w' → K a' w') → oi.wp P a w K Q) : wpAnyL z B P md ops Q (fuel + 1) listed a w := by
  refine ⟨fun h0 => (by rw [hr] at h0; cases h0), fun j hj => ?_⟩
  rw [hr, List.mem_singleton] at hj
  subst hj
  unfold wpOp
  simp only [hi, hw, if_true]
  exact .inl (h _ (fun a' w' h1 h2 => ⟨h1, h2⟩))
theorem wpAnyL_done {listed : Array Bool} {a : Act} {w : World} (hr : Region.ready md ops listed = []) (h : Q .normal a w) :
    ∀ fuel, wpAnyL z B P md ops Q fuel listed a w
  | 0 => ⟨hr, h⟩
  | _ + 1 => ⟨fun _ => h, by rw [hr]; simp⟩
theorem wp_region_L' {id : Nat} {a : Act} {w : World} {n : Nat} {l : Array Bool} (hm : P.follows .mixedOrders = true) (hn : ops.size = n) (hl : Array.replicate n false = l)
    (h : wpAnyL z B P .any ops Q n l a w.drew) : (Code.region id ops true).wp P Q a w := by
  subst hn; subst hl
  exact wp_region_any hm (wpAny_of_L _ _ _ _ h)
theorem wp_region_L {id : Nat} {a : Act} {w : World} (hm : P.follows .mixedOrders = true)
    (h : wpAnyL z B P .any ops Q ops.size (Array.replicate ops.size false) a w.drew) : (Code.region id ops true).wp P Q a w :=
  wp_region_any hm (wpAny_of_L _ _ _ _ h)
end
end Go.Proofs.YtecbfegohdllbaaDoor
end
section
/- Operations by their laws, within a fence. (No program in sight.) -/
namespace Go.Proofs.YtecbfegohdllbaaDoor
open Go.RowKit Go
section
variable {P : Program} {ops : Array Oper} {Q : Exit → Act → World → Prop} {rest : List Oper} {l n : Nat}
theorem wpIn_wide_of_wp {o : Oper} {a : Act} {w : World} {K : Act → World → Prop} (h : o.wp P a w K Q) : o.wpIn Fence.wide n P a w K Q := by
  refine ⟨fun _ _ => trivial, ?_⟩
  show o.uponIn Fence.wide n P a K Q ((execOp a.eval o).run P w)
  unfold Oper.wp at h
  generalize (execOp a.eval o).run P w = r at h ⊢
  have h0 : Fence.wide.depth.isSome = true → 1 ≤ n := fun h0 => absurd (show (none : Option Nat).isSome = true from h0) (by simp)
  cases r with
  | ok x w' =>
    cases x with
    | value v => exact h
    | skip => exact h
    | defer d => exact h
    | enter f args => exact ⟨h0, callsIn_wide.2 h⟩
    | row r args => exact ⟨h0, fun c cs _ => by
        obtain ⟨v, w', hr, hs⟩ := h c cs
        exact ⟨v, w', hr, stepsIn_wide.2 hs⟩⟩
    | _ => exact h.elim
  | halt x w' => cases x <;> first | exact h | exact h.elim
/-- an operation of a list, by its law -/
theorem opIn_wide {o : Oper} {a : Act} {w : World} (hg : o.guard = none) (h : ∀ K : Act → World → Prop, (∀ a w, wpListIn Fence.wide n P ops Q rest a w → K a w) → o.wp P a w K Q) : wpListIn Fence.wide n P ops Q (o :: rest) a w :=
  wpListIn_plain hg fun K hK => wpIn_wide_of_wp (h K hK)
theorem opIn_round {o : Oper} {a : Act} {w : World} (hd : ∀ c, o.op ≠ .defer c) (hg : o.guard = none) (h : ∀ K : Act → World → Prop, (∀ a w, wpListIn (Fence.wide.inRound l) n P ops Q rest a w → K a w) → o.wp P a w K Q) : wpListIn (Fence.wide.inRound l) n P ops Q (o :: rest) a w :=
  wpListIn_plain hg fun K hK => wpIn_of_wp hd (h K hK)
/-- guards of an arm: the operation that stands next -/
theorem at_opIn {F : Fence} {a : Act} {w : World} (op : Op) {d : Option Tmp} {t : TypeId} {p : String} {af : Array Edge} {g : Option (Nat × Bool)}
    (h : wpListIn F n P ops Q (⟨d, op, t, p, af, g⟩ :: rest) a w) : wpListIn F n P ops Q (⟨d, op, t, p, af, g⟩ :: rest) a w := h
theorem at_op {a : Act} {w : World} (op : Op) {d : Option Tmp} {t : TypeId} {p : String} {af : Array Edge} {g : Option (Nat × Bool)}
    (h : wpList P ops Q (⟨d, op, t, p, af, g⟩ :: rest) a w) : wpList P ops Q (⟨d, op, t, p, af, g⟩ :: rest) a w := h
end
end Go.Proofs.YtecbfegohdllbaaDoor
end
