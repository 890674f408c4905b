/- Rows of 32 numbers: what the reference's arrays hold. -/
import Derived.Test.YtkfffpdhnmjjmabRef01
import Derived.Laws.Rows
import Derived.Laws.Tables
import Derived.Laws.OwnMore
namespace Go.Proofs.Ytkfffpdhnmjjmab
open Go.RowKit
set_option linter.unusedVariables false
/-- 32 numbers as cells -/
def rowF (f : Nat → Int) : Array Value := ((List.range 32).map fun i => Value.int .i64 (f i)).toArray
theorem rowF_size (f : Nat → Int) : (rowF f).size = 32 := by simp [rowF]
theorem rowF_get (f : Nat → Int) (i : Nat) (h : i < 32) : (rowF f)[i]? = some (.int .i64 (f i)) := by simp [rowF, h]
theorem rowF_congr {f g : Nat → Int} (h : ∀ i, i < 32 → f i = g i) : rowF f = rowF g := by
  unfold rowF
  congr 1
  exact List.map_congr_left (fun i hi => by rw [h i (List.mem_range.1 hi)])
theorem rowF_set (f : Nat → Int) (k : Nat) (v : Int) : (rowF f).setIfInBounds k (.int .i64 v) = rowF (fun i => if i = k then v else f i) := by
  apply Array.ext_getElem?
  intro i
  rw [Array.getElem?_setIfInBounds, rowF_size]
  by_cases hi : i < 32
  · rw [rowF_get f i hi, rowF_get (fun i => if i = k then v else f i) i hi]
    by_cases hk : k = i
    · subst hk; simp [hi]
    · rw [if_neg hk, if_neg (fun e => hk e.symm)]
  · have h1 : (rowF f)[i]? = none := Array.getElem?_eq_none (by rw [rowF_size]; omega)
    have h2 : ∀ g, (rowF g)[i]? = none := fun g => Array.getElem?_eq_none (by rw [rowF_size]; omega)
    rw [h1, h2]
    by_cases hk : k = i
    · subst hk; simp [hi]
    · simp [hk]
end Go.Proofs.Ytkfffpdhnmjjmab
