/- What the cards of the statements over the crc's table share: what the row's list gives, and a world that meets it. -/
import Derived.Test.YtecbfegohdllbaaDoorCards
import Derived.Test.YtecbfegohdllbaaDoorTie
import Derived.WalkKit
import Derived.ProofKit
import Derived.OpenShut
import Derived.Deep.DeepHandedRow
import Derived.Lib.LaidTab
import Derived.Test.YtecbfegohdllbaaDoorPackA
namespace Go.Proofs.YtecbfegohdllbaaDoor
open Go.RowKit
def tabI : List Int := [0, 4129, 8258, 12387, 16516, 20645, 24774, 28903, 33032, 37161, 41290, 45419, 49548, 53677, 57806, 61935]
theorem gTab : Tryd.prog.globalNamed "astrolabe/crc.four" = some 0 := by kernel_rfl
theorem gTabType : (Tryd.prog.globals[0]?).map (·.type) = some 134 := by kernel_rfl
theorem cellsTab : Tryd.prog.cellsOf 134 = 16 := by kernel_rfl
theorem cellsInt : Tryd.prog.cellsOf 21 = 1 := by kernel_rfl
theorem tab_is : ∀ i : Fin 16, tabI.getD i.val 0 = (tab i.val : Int) := by decide +kernel
/-- WHAT THE ROW's LIST GIVES: the table's cells. -/
theorem four_of {rest : List (String × DataW Unit)} {W : World} (h : laidMet Tryd.prog (("astrolabe/crc.four", Rows.laid_astrolabe_crc_four) :: rest) W) : Four W := by
  have t : Lib.TabIs Tryd.prog W "astrolabe/crc.four" .i32 tabI := Lib.tabIs_of_head (rest := rest) gTab gTabType Tryd.underlying134 Tryd.underlying21 cellsInt cellsTab h
  intro i hi
  rw [t.cell gTab i (by simpa [tabI] using hi), tab_is ⟨i, hi⟩]
noncomputable def laidWorld (os : Os) : World :=
  { World.holding Tryd.prog os ⟨#[], #[], []⟩ with heap := (World.holding Tryd.prog os ⟨#[], #[], []⟩).heap.modify 0 fun
      | .cells _ t frozen => .cells (tabI.map fun z => Value.int .i32 z).toArray t frozen
      | o => o }
end Go.Proofs.YtecbfegohdllbaaDoor
