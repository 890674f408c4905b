/- A region that draws its order, in a round of a loop over a function: what is walked outside a round goes in a round as well. (No program in sight.) -/
import Derived.Test.YtecbfegohdllbaaDoorEachF
import Derived.OrdersIn
import Derived.RangeFuncWrites
import Derived.RangeFuncCalls
import Derived.TacticsIn
namespace Go.Proofs.YtecbfegohdllbaaDoor
open Go.RowKit Go
section
variable {P : Program} {ops : Array Oper} {Q : Exit → Act → World → Prop} {md : Region.Mode} {l n : Nat}
theorem rowsIn_of {row : String} {args : Array Value} {w : World} {R : Value → World → Prop} (h : Rows P row args w R) : RowsIn (Fence.wide.inRound l) n P row args w R := fun c cs _ => by
  obtain ⟨v, w', hr, hs⟩ := h c cs
  exact ⟨v, w', hr, stepsIn_wide.2 hs⟩
theorem wpIn_of_wp {o : Oper} {a : Act} {w : World} {K : Act → World → Prop} (hd : ∀ c, o.op ≠ .defer c) (h : o.wp P a w K Q) : o.wpIn (Fence.wide.inRound l) n P a w K Q := by
  refine ⟨fun _ _ => trivial, ?_⟩
  show o.uponIn (Fence.wide.inRound l) n P a K Q ((Oper.semAt (some l) a.eval o).run P w)
  rw [Oper.semAt_some l a.eval o hd]
  unfold Oper.wp at h
  generalize (execOp a.eval o).run P w = r at h ⊢
  have h0 : (Fence.wide.inRound l).depth.isSome = true → 1 ≤ n := fun h0 => absurd (show (none : Option Nat).isSome = true from h0) (by simp)
  cases r with
  | ok x w' =>
    cases x with
    | value v => exact h
    | skip => exact h
    | defer d => exact h
    | enter f args => exact ⟨h0, CallsIn.inRound l (callsIn_wide.2 h)⟩
    | row r args => exact ⟨h0, rowsIn_of h⟩
    | _ => exact h.elim
  | halt x w' => cases x <;> first | exact h | exact h.elim
theorem wpOpIn_of_wpOp (hQ : ¬ LetsOut Q) (hd : ∀ (j : Nat) (o : Oper) c, ops[j]? = some o → o.op ≠ .defer c) {i : Nat} {K : Act → World → Prop} {a : Act} {w : World} (h : wpOp P ops Q i K a w) :
    wpOpIn (Fence.wide.inRound l) n P ops Q i K a w := by
  unfold wpOp at h
  unfold wpOpIn
  cases ho : ops[i]? with
  | none => simpa [ho] using h
  | some o =>
    simp only [ho] at h ⊢
    by_cases hw : Region.wanted o (yielded ops a.tmps) = true
    · simp only [hw, if_true] at h ⊢
      rcases h with h | ⟨_, h⟩
      · exact wpIn_of_wp (fun c => hd i o c ho) h
      · exact absurd h hQ
    · simp only [hw, Bool.false_eq_true, if_false] at h ⊢
      exact ⟨fun _ _ => trivial, h⟩
theorem wpAnyIn_of_any (hQ : ¬ LetsOut Q) (hd : ∀ (j : Nat) (o : Oper) c, ops[j]? = some o → o.op ≠ .defer c) : ∀ (fuel : Nat) (listed : Array Bool) (a : Act) (w : World), wpAny P md ops Q fuel listed a w → wpAnyIn (Fence.wide.inRound l) n P md ops Q fuel listed a w
  | 0, _, _, _, h => h
  | fuel + 1, _, _, _, h => ⟨h.1, fun i hi => wpOpIn_mono (fun a' w' h' => wpAnyIn_of_any hQ hd fuel _ a' w' h') (wpOpIn_of_wpOp hQ hd (h.2 i hi))⟩
def noDefer (ops : Array Oper) : Bool := ops.all fun o => match o.op with | .defer _ => false | _ => true
theorem noDefer_spec (h : noDefer ops = true) (j : Nat) (o : Oper) (c) (ho : ops[j]? = some o) : o.op ≠ .defer c := by
  intro e
  have := (Array.all_eq_true_iff_forall_mem.1 h) o (Array.mem_of_getElem? ho)
  rw [e] at this
  cases this
/-- a region that draws, in a round -/
theorem wpIn_region_F {B : Nat} {id : Nat} {a : Act} {w : World} {k : Nat} {ls : Array Bool} (hm : P.follows .mixedOrders = true) (hn : ops.size = k) (hl : Array.replicate k false = ls) (hd : noDefer ops = true) (hQ : ¬ LetsOut Q)
    (h : wpAnyF B P .any ops Q k ls a w.drew) : (Code.region id ops true).wpIn (Fence.wide.inRound l) n P Q a w := by
  subst hn; subst hl
  exact wpIn_region_any hm (wpAnyIn_of_any hQ (noDefer_spec hd) _ _ _ _ (wpAny_of_F _ _ _ _ h))
end
end Go.Proofs.YtecbfegohdllbaaDoor
