/- Operations by their laws, within a fence. (No program in sight.) -/
import Derived.Test.YtecbfegohdllbaaDoorPackA
import Derived.Laws.Rows
import Derived.Laws.CopyOwn
namespace Go.Proofs.YtecbfegohdllbaaDoor
open Go.RowKit Go
section
variable {P : Program} {ops : Array Oper} {Q : Exit → Act → World → Prop} {rest : List Oper} {l n : Nat}
theorem wpIn_wide_of_wp {o : Oper} {a : Act} {w : World} {K : Act → World → Prop} (h : o.wp P a w K Q) : o.wpIn Fence.wide n P a w K Q := by
  refine ⟨fun _ _ => trivial, ?_⟩
  show o.uponIn Fence.wide n P a K Q ((execOp a.eval o).run P w)
  unfold Oper.wp at h
  generalize (execOp a.eval o).run P w = r at h ⊢
  have h0 : Fence.wide.depth.isSome = true → 1 ≤ n := fun h0 => absurd (show (none : Option Nat).isSome = true from h0) (by simp)
  cases r with
  | ok x w' =>
    cases x with
    | value v => exact h
    | skip => exact h
    | defer d => exact h
    | enter f args => exact ⟨h0, callsIn_wide.2 h⟩
    | row r args => exact ⟨h0, fun c cs _ => by
        obtain ⟨v, w', hr, hs⟩ := h c cs
        exact ⟨v, w', hr, stepsIn_wide.2 hs⟩⟩
    | _ => exact h.elim
  | halt x w' => cases x <;> first | exact h | exact h.elim
/-- an operation of a list, by its law -/
theorem opIn_wide {o : Oper} {a : Act} {w : World} (hg : o.guard = none) (h : ∀ K : Act → World → Prop, (∀ a w, wpListIn Fence.wide n P ops Q rest a w → K a w) → o.wp P a w K Q) : wpListIn Fence.wide n P ops Q (o :: rest) a w :=
  wpListIn_plain hg fun K hK => wpIn_wide_of_wp (h K hK)
theorem opIn_round {o : Oper} {a : Act} {w : World} (hd : ∀ c, o.op ≠ .defer c) (hg : o.guard = none) (h : ∀ K : Act → World → Prop, (∀ a w, wpListIn (Fence.wide.inRound l) n P ops Q rest a w → K a w) → o.wp P a w K Q) : wpListIn (Fence.wide.inRound l) n P ops Q (o :: rest) a w :=
  wpListIn_plain hg fun K hK => wpIn_of_wp hd (h K hK)
/-- guards of an arm: the operation that stands next -/
theorem at_opIn {F : Fence} {a : Act} {w : World} (op : Op) {d : Option Tmp} {t : TypeId} {p : String} {af : Array Edge} {g : Option (Nat × Bool)}
    (h : wpListIn F n P ops Q (⟨d, op, t, p, af, g⟩ :: rest) a w) : wpListIn F n P ops Q (⟨d, op, t, p, af, g⟩ :: rest) a w := h
theorem at_op {a : Act} {w : World} (op : Op) {d : Option Tmp} {t : TypeId} {p : String} {af : Array Edge} {g : Option (Nat × Bool)}
    (h : wpList P ops Q (⟨d, op, t, p, af, g⟩ :: rest) a w) : wpList P ops Q (⟨d, op, t, p, af, g⟩ :: rest) a w := h
end
end Go.Proofs.YtecbfegohdllbaaDoor
