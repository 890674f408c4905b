/- A value made of integers alone (arrays and structs of them), opened: every cell is an integer of its kind. -/
import Derived.Test.YtecbfegohdllbaaDoorPackA
import Derived.OpenShut
namespace Go.Proofs.YtecbfegohdllbaaDoor
open Go.RowKit Go.ChangeShapes Go.WideShapes
set_option linter.unusedVariables false
set_option linter.unusedSimpArgs false
/-- the kind of a type's i-th cell, where it is an integer -/
def kindAt (P : Program) : Nat → TypeId → Nat → Option IntKind
  | 0, _, _ => none
  | n + 1, t, i => match P.underlying t with
    | some (.int k) => if i = 0 then some k else none
    | some (.array m e) => if i / P.cellsOf e < m then kindAt P n e (i % P.cellsOf e) else none
    | some (.struct fs) => fs.toList.findSome? fun f => if f.offset ≤ i ∧ i < f.offset + P.cellsOf f.type then kindAt P n f.type (i - f.offset) else none
    | _ => none
section
variable {H : Type} {enc : TypeId × Value → H} {P : Program} {w : World} {base : Nat} {spare : Nat → Bool} {held : Bool}
theorem flat_cell {n : Nat} : ∀ {t : TypeId} {i : Nat} {k : IntKind}, kindAt P n t i = some k → ∀ {fuel : Nat} {cs : List Value} {x : DataW H × List MemPlace}, DataW.trod enc P w base spare held fuel t cs = some x → ∃ z, cs[i]? = some (.int k z) ∧ (Lit.int k z).wf = true := by
  induction n with
  | zero => intro t i k hk; simp [kindAt] at hk
  | succ n ih =>
    intro t i k hk fuel cs x h
    unfold kindAt at hk
    split at hk
    · rename_i k' hu
      split at hk
      · rename_i hi
        subst hi
        obtain rfl := Option.some.inj hk
        obtain ⟨z, rfl, _, hw⟩ := DataW.trod_int hu h
        exact ⟨z, rfl, hw⟩
      · cases hk
    · rename_i m e hu
      split at hk
      · rename_i hi
        obtain ⟨xs, m', _, _, hl, hlx, hg⟩ := DataW.trod_array hu h
        have h1 := hg _ hi
        rw [List.getElem?_eq_getElem (by omega)] at h1
        obtain ⟨z, hz, hw⟩ := ih hk h1
        refine ⟨z, ?_, hw⟩
        rw [List.getElem?_take] at hz
        split at hz
        · rw [List.getElem?_drop, Nat.div_add_mod' i] at hz; exact hz
        · cases hz
      · cases hk
    · rename_i fs hu
      obtain ⟨f, hf, hif⟩ := List.exists_of_findSome?_eq_some hk
      split at hif
      · rename_i hi
        obtain ⟨xs, m', _, _, hl, hlx, hg⟩ := DataW.trod_struct hu h
        obtain ⟨j, hj⟩ := List.getElem?_of_mem hf
        have hj' : fs[j]? = some f := by simpa using hj
        have hjl : j < fs.size := (Array.getElem?_eq_some_iff.1 hj').1
        have h1 := hg j f hj'
        rw [List.getElem?_eq_getElem (by omega)] at h1
        obtain ⟨z, hz, hw⟩ := ih hif h1
        refine ⟨z, ?_, hw⟩
        rw [List.getElem?_take] at hz
        split at hz
        · rw [List.getElem?_drop, show f.offset + (i - f.offset) = i by omega] at hz; exact hz
        · cases hz
      · cases hif
    · cases hk
/-- all cells of such a value, as a list of numbers -/
theorem flat_cells {n N : Nat} {t : TypeId} {ks : List IntKind} (hk : (List.range N).map (kindAt P n t) = ks.map some) {fuel : Nat} {cs : List Value} {x : DataW H × List MemPlace} (h : DataW.trod enc P w base spare held fuel t cs = some x) (hl : cs.length = N) :
    ∃ zs : List Int, zs.length = N ∧ cs = List.zipWith Value.int ks zs ∧ ∀ (i : Nat) (k : IntKind) (z : Int), ks[i]? = some k → zs[i]? = some z → (Lit.int k z).wf = true := by
  have hkl : ks.length = N := by have := congrArg List.length hk; simpa using this.symm
  have each : ∀ i, i < N → ∃ z, cs[i]? = some (.int (ks.getD i .i64) z) ∧ (Lit.int (ks.getD i .i64) z).wf = true := by
    intro i hi
    have h1 : kindAt P n t i = some (ks.getD i .i64) := by
      have := congrArg (fun l => l[i]?) hk
      simp [hi, List.getD, List.getElem?_eq_getElem (show i < ks.length by omega)] at this
      simpa [List.getD, List.getElem?_eq_getElem (show i < ks.length by omega)] using this
    exact flat_cell h1 h
  have : ∃ f : Nat → Int, ∀ i, i < N → cs[i]? = some (.int (ks.getD i .i64) (f i)) ∧ (Lit.int (ks.getD i .i64) (f i)).wf = true := by
    classical
    exact ⟨fun i => if hi : i < N then Classical.choose (each i hi) else 0, fun i hi => by simp only [dif_pos hi]; exact Classical.choose_spec (each i hi)⟩
  obtain ⟨f, hf⟩ := this
  refine ⟨(List.range N).map f, by simp, ?_, ?_⟩
  · apply List.ext_getElem?
    intro i
    by_cases hi : i < N
    · rw [(hf i hi).1, List.getElem?_zipWith, List.getElem?_eq_getElem (show i < ks.length by omega)]
      simp [hi, List.getD, List.getElem?_eq_getElem (show i < ks.length by omega)]
    · rw [List.getElem?_eq_none (by omega), List.getElem?_eq_none (by simp; omega)]
  · intro i k z h1 h2
    have hi : i < N := by have := (List.getElem?_eq_some_iff.1 h1).1; omega
    have := (hf i hi).2
    simp [hi] at h2
    subst h2
    simpa [List.getD, h1] using this
end
end Go.Proofs.YtecbfegohdllbaaDoor
