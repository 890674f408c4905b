/- What the cards of the statements over the crc's table and the two sentences of package frame share: what the row's list gives, and a world that meets it. -/
import Derived.Test.YtecbfegohdllbaaDoorCard
import Derived.Test.YtecbfegohdllbaaDoorFrameCheck
import Derived.Stop.LaidTwo
import Derived.Stop.ErrReads
import Derived.Stop.Texts
import Derived.Deep.DeepWitnessRowRef
namespace Go.Proofs.YtecbfegohdllbaaDoor
open Go.RowKit
theorem gRange : Tryd.prog.globalNamed "astrolabe/frame.errRange" = some 1 := by kernel_rfl
theorem gRangeType : (Tryd.prog.globals[1]?).map (·.type) = some 102 := by kernel_rfl
theorem gForm : Tryd.prog.globalNamed "astrolabe/frame.errForm" = some 2 := by kernel_rfl
theorem gFormType : (Tryd.prog.globals[2]?).map (·.type) = some 102 := by kernel_rfl
theorem starStr : "*" ++ "errors.errorString" = "*errors.errorString" := by decide
theorem rowStr (u : TypeId) (h : Tryd.prog.typeName? 3 u = some "*errors.errorString") : u = 174 :=
  typeName_ptr_named (nm := "errors.errorString") (by rw [starStr]; kernel_rfl) (by kernel_rfl) (by decide) u (by rw [starStr]; exact h)
theorem cellsErrStr : Tryd.prog.cellsOf 198 = 1 := by kernel_rfl
theorem cellsStr : Tryd.prog.cellsOf 9 = 1 := by kernel_rfl
/-- WHAT THE ROW's LIST GIVES: the two sentences, different ones. -/
theorem errs_of {x : String × DataW Unit} {rest : List (String × DataW Unit)} {W : World} (h : laidMet Tryd.prog (x :: ("astrolabe/frame.errRange", Rows.laid_astrolabe_frame_errRange) :: ("astrolabe/frame.errForm", Rows.laid_astrolabe_frame_errForm) :: rest) W) : ∃ a0 a1, ErrsAt W a0 a1 := by
  obtain ⟨a0, a1, s0, s1, c0, c1, t0, t1, hv0, hv1, -, -, -, -, -, -, hne, hb0, hb1⟩ := laid_sentinels2 h.tail gRange gRangeType gForm gFormType Tryd.underlying102 rowStr Tryd.underlying174 Tryd.underlying198 rfl rfl Tryd.underlying9 cellsErrStr cellsStr
  have e0 := World.var?_cell gRange hv0 0
  have e1 := World.var?_cell gForm hv1 0
  exact ⟨a0, a1, by simpa using e0, by simpa using e1, hne, ⟨c0, t0, hb0⟩, ⟨c1, t1, hb1⟩⟩
/-- WHAT A ROW's LIST OF ONE SENTENCE GIVES. -/
theorem errr_of {x : String × DataW Unit} {rest : List (String × DataW Unit)} {W : World} (h : laidMet Tryd.prog (x :: ("astrolabe/frame.errRange", Rows.laid_astrolabe_frame_errRange) :: rest) W) : ∃ a0, W.cell? ⟨1, 0, none⟩ = some (.iface 174 (.pointer (some a0))) := by
  obtain ⟨a0, s0, hv0, -, -, -⟩ := laid_sentinel h.tail gRange gRangeType Tryd.underlying102 rowStr Tryd.underlying174 Tryd.underlying198 rfl rfl Tryd.underlying9 cellsErrStr cellsStr
  have e0 := World.var?_cell gRange hv0 0
  exact ⟨a0, by simpa using e0⟩
abbrev rangeS : ByteArray := { data := #[97, 32, 110, 117, 109, 98, 101, 114, 32, 111, 117, 116, 32, 111, 102, 32, 105, 116, 115, 32, 98, 111, 117, 110, 100, 115] }
abbrev formS : ByteArray := { data := #[110, 111, 32, 102, 114, 97, 109, 101, 32, 111, 102, 32, 116, 104, 105, 115, 32, 107, 105, 110, 100] }
noncomputable def lowF : Nat := (World.holding Tryd.prog default ⟨#[], #[], []⟩).heap.size
noncomputable def laidWorldF (os : Os) : World :=
  let w0 := World.holding Tryd.prog os ⟨#[.cells #[.string rangeS] 198, .cells #[.string formS] 198], #[], []⟩
  { w0 with heap := ((w0.heap.modify 0 fun
      | .cells _ t frozen => .cells (tabI.map fun z => Value.int .i32 z).toArray t frozen
      | o => o).modify 1 fun
      | .cells _ t frozen => .cells #[.iface 174 (.pointer (some ⟨lowF, 0, none⟩))] t frozen
      | o => o).modify 2 fun
      | .cells _ t frozen => .cells #[.iface 174 (.pointer (some ⟨lowF + 1, 0, none⟩))] t frozen
      | o => o }
theorem band {a b : Bool} (h : a = true) (k : b = true) : (a && b) = true := by rw [h, k]; rfl
/-- what the rows ask of the program alone: each costs the kernel near a minute, so once for all laws -/
theorem pEnter : Tryd.prog.mayEnter = true := by kernel_rfl
theorem pLifts : (false == Tryd.prog.liftsFinal) = true := by kernel_rfl
theorem pMake : (Tryd.prog.make == some Rows.crcJoinsRow.make) = true := by kernel_rfl
theorem pHeard : Tryd.prog.stopsHeard = true := by kernel_rfl
theorem pLaid : laidOutB Tryd.prog = true := by kernel_rfl
theorem pRowed : mapsRowed Tryd.prog = true := by kernel_rfl
theorem pOwn : ownKnob Tryd.prog.godebug = none := by kernel_rfl
end Go.Proofs.YtecbfegohdllbaaDoor
