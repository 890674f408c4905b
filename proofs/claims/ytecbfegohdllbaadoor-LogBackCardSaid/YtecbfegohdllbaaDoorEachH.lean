/- As the text EachG: three operations that may come up next; two fresh blocks whatever comes between. (No program in sight.) -/
import Derived.Test.YtecbfegohdllbaaDoorPackA
import Derived.Test.YtecbfegohdllbaaDoorSampleRRef
namespace Go.Proofs.YtecbfegohdllbaaDoor
open Go.RowKit Go
section
variable {B : Nat} {P : Program} {ops : Array Oper} {Q : Exit → Act → World → Prop} {md : Region.Mode}
theorem wpAnyF_three {i j m : Nat} {oi oj om : Oper} {fuel : Nat} {listed : Array Bool} {a : Act} {w : World} (hr : Region.ready md ops listed = [i, j, m])
    (hi : ops[i]? = some oi) (hwi : Region.wanted oi (yielded ops a.tmps) = true) (hj : ops[j]? = some oj) (hwj : Region.wanted oj (yielded ops a.tmps) = true) (hm : ops[m]? = some om) (hwm : Region.wanted om (yielded ops a.tmps) = true)
    (h1 : ∀ K : Act → World → Prop, Shut (∀ a' w', (Below B w w' ∧ wpAnyF B P md ops Q fuel (listed.setIfInBounds i true) a' w') → K a' w') → oi.wp P a w K Q)
    (h2 : ∀ K : Act → World → Prop, Shut (∀ a' w', (Below B w w' ∧ wpAnyF B P md ops Q fuel (listed.setIfInBounds j true) a' w') → K a' w') → oj.wp P a w K Q)
    (h3 : ∀ K : Act → World → Prop, Shut (∀ a' w', (Below B w w' ∧ wpAnyF B P md ops Q fuel (listed.setIfInBounds m true) a' w') → K a' w') → om.wp P a w K Q) : wpAnyF B P md ops Q (fuel + 1) listed a w := by
  refine ⟨fun h0 => (by rw [hr] at h0; cases h0), fun k hk => ?_⟩
  rw [hr] at hk
  simp only [List.mem_cons, List.not_mem_nil, or_false] at hk
  rcases hk with rfl | rfl | rfl
  · exact wpOp_way hi hwi h1
  · exact wpOp_way hj hwj h2
  · exact wpOp_way hm hwm h3
end
/-- two blocks, laid or not, since w -/
structure Two (w : World) (o : Obj) (pa pb : Option Nat) (W : World) : Prop where
  bel : Below w.heap.size w W
  a : ∀ g, pa = some g → w.heap.size ≤ g ∧ W.heap[g]? = some o
  b : ∀ g, pb = some g → w.heap.size ≤ g ∧ W.heap[g]? = some o
  ne : ∀ g h, pa = some g → pb = some h → g ≠ h
theorem Two.refl (w : World) (o : Obj) : Two w o none none w := ⟨Below.refl _ _, (fun _ h => by cases h), (fun _ h => by cases h), (fun _ _ h => by cases h)⟩
theorem Two.later {w W W' : World} {o : Obj} {pa pb : Option Nat} (h : Two w o pa pb W) (hb : Below W.heap.size W W') : Two w o pa pb W' :=
  ⟨h.bel.trans (hb.mono h.bel.size), fun g e => ⟨(h.a g e).1, (hb.block g (lt_of_row (h.a g e).2)).trans (h.a g e).2⟩, fun g e => ⟨(h.b g e).1, (hb.block g (lt_of_row (h.b g e).2)).trans (h.b g e).2⟩, h.ne⟩
theorem Two.setA {w W : World} {o : Obj} {pb : Option Nat} (h : Two w o none pb W) : Two w o (some W.heap.size) pb (W.alloc o) := by
  have hb := (Below.refl W.heap.size W).alloc (Nat.le_refl _) o
  refine ⟨h.bel.trans (hb.mono h.bel.size), fun g e => ?_, fun g e => ⟨(h.b g e).1, (hb.block g (lt_of_row (h.b g e).2)).trans (h.b g e).2⟩, fun g k e1 e2 => ?_⟩
  · obtain rfl := Option.some.inj e; exact ⟨h.bel.size, heap_alloc_new W o⟩
  · obtain rfl := Option.some.inj e1; have := lt_of_row (h.b k e2).2; omega
theorem Two.setB {w W : World} {o : Obj} {pa : Option Nat} (h : Two w o pa none W) : Two w o pa (some W.heap.size) (W.alloc o) := by
  have hb := (Below.refl W.heap.size W).alloc (Nat.le_refl _) o
  refine ⟨h.bel.trans (hb.mono h.bel.size), fun g e => ⟨(h.a g e).1, (hb.block g (lt_of_row (h.a g e).2)).trans (h.a g e).2⟩, fun g e => ?_, fun g k e1 e2 => ?_⟩
  · obtain rfl := Option.some.inj e; exact ⟨h.bel.size, heap_alloc_new W o⟩
  · obtain rfl := Option.some.inj e2; have := lt_of_row (h.a g e1).2; omega
theorem Two.setA' {w W W' : World} {o : Obj} {pb : Option Nat} {g : Nat} (h : Two w o none pb W) (hg : g = W.heap.size) (hw : W' = W.alloc o) : Two w o (some g) pb W' := by subst hg; subst hw; exact h.setA
theorem Two.setB' {w W W' : World} {o : Obj} {pa : Option Nat} {g : Nat} (h : Two w o pa none W) (hg : g = W.heap.size) (hw : W' = W.alloc o) : Two w o pa (some g) W' := by subst hg; subst hw; exact h.setB
theorem alloc_below {B : Nat} {W W' : World} {o : Obj} (hw : W' = W.alloc o) (hB : B ≤ W.heap.size) : Below B W W' := by subst hw; exact (Below.refl _ _).alloc hB _
/-- a region that cannot but go on, with two numbers told -/
def TwoPost (A : Nat → Nat → Act) (F : Nat → Nat → World → Prop) : Exit → Act → World → Prop
  | .normal, a, w => ∃ g h, F g h w ∧ a = A g h
  | _, _, _ => False
theorem wp_then_two {P : Program} {c : Code} {a : Act} {w : World} {Q' : Exit → Act → World → Prop} (A : Nat → Nat → Act) (F : Nat → Nat → World → Prop) (h1 : c.wp P (TwoPost A F) a w) (h2 : ∀ g h w', F g h w' → Q' .normal (A g h) w') : c.wp P Q' a w :=
  wp_mono h1 (fun e a' w' h => by
    cases e with
    | normal => obtain ⟨g, k, h3, rfl⟩ := h; exact h2 g k w' h3
    | _ => exact h.elim)
end Go.Proofs.YtecbfegohdllbaaDoor
