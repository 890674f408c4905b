/-
  No cell of these rows narrows 'for every input' (looked for: loops, veiled, ifaces, maps, wideKeys, modest, calm, conditions, laid).
  DERIVED. THE GIVEN ROWS OF THIS SEAT. 9 by the template 'for every input the law returns true; each argument reads behind the call as it read before'; 0 by the template 'total and deterministic' (their statements: YtkfffpdhnmjjmabTotals.lean).
  GIVEN WITH THE SEED: the statements are not yours to turn. If you find one false, say at which input.
  Laid BY PROGRAM, IN A SANDBOX (cutbox-rows.mjs): the forced cells as the released guide's own fill.sh prints them over the translation 2edf580599c02015… (all of the seat's roots in one cut). By AI agents, Wed Nov 11 2026. No macro, syntax, notation, axiom, sorry.
-/
import Derived.Test.YtkfffpdhnmjjmabChecked
import GoSem.Claim
import GoSem.ClaimJoined
import GoSem.ClaimMapViews
import Derived.JoinedTies
import Derived.KernelRfl
namespace Go.Proofs.Ytkfffpdhnmjjmab
/- THE CELL 'sum', in the pinned program and in every row, IS THE sha256 OF THE DUMP (.gsa) THAT YtkfffpdhnmjjmabProg.lean LOADS. Nothing in Lean hashes anything: it is a label: what it is worth is what the hold of that sum in a sandbox is worth. -/
noncomputable def Try.pinned : Pinned := { name := "ytkfffpdhnmjjmab", sum := "2edf580599c02015587570533ed336e04c986be512752844ec284cc9ec69406e", checked := Try.checked }
namespace Rows
def none {H : Type} : Left H := { results := [], args := [] }

/-- 'astrolabelaw03.PickSels': WHATEVER THE INPUT: true; the input reads as it did. -/
def pickSelsSpec : ChangeSpec := { name := "pickSels", fn := fun _ => fun
  | [d1, d2, d3] => { results := [.lit (.bool true)], args := [d1, d2, d3] }
  | _ => none }
def pickSelsRow : OpenClaim := { program := "ytkfffpdhnmjjmab", sum := "2edf580599c02015587570533ed336e04c986be512752844ec284cc9ec69406e", func := "astrolabe/astrolabelaw03.PickSels", spec := "pickSels", unfollowed := true, recurses := true, apart := false }
def PickSelsSaid : Prop := pickSelsRow.holds Try.pinned (OpenSpec.ofChange pickSelsSpec)

/-- ITS FALSE NEIGHBOUR: 'it returns false'. Refute it at one input. -/
def pickSelsWrong : ChangeSpec := { name := "pickSels", fn := fun _ => fun
  | [d1, d2, d3] => { results := [.lit (.bool false)], args := [d1, d2, d3] }
  | _ => none }
def PickSelsWrongFalsely : Prop := pickSelsRow.holds Try.pinned (OpenSpec.ofChange pickSelsWrong)

/-- 'astrolabelaw01.WordTells': WHATEVER THE INPUT: true; the input reads as it did. -/
def wordTellsSpec : ChangeSpec := { name := "wordTells", fn := fun _ => fun
  | [d1, d2, d3, d4] => { results := [.lit (.bool true)], args := [d1, d2, d3, d4] }
  | _ => none }
def wordTellsRow : OpenClaim := { program := "ytkfffpdhnmjjmab", sum := "2edf580599c02015587570533ed336e04c986be512752844ec284cc9ec69406e", func := "astrolabe/astrolabelaw01.WordTells", spec := "wordTells", apart := false }
def WordTellsSaid : Prop := wordTellsRow.holds Try.pinned (OpenSpec.ofChange wordTellsSpec)

/-- ITS FALSE NEIGHBOUR: 'it returns false'. Refute it at one input. -/
def wordTellsWrong : ChangeSpec := { name := "wordTells", fn := fun _ => fun
  | [d1, d2, d3, d4] => { results := [.lit (.bool false)], args := [d1, d2, d3, d4] }
  | _ => none }
def WordTellsWrongFalsely : Prop := wordTellsRow.holds Try.pinned (OpenSpec.ofChange wordTellsWrong)

/-- 'astrolabelaw03.PickTells': WHATEVER THE INPUT: true; the input reads as it did. -/
def pickTellsSpec : ChangeSpec := { name := "pickTells", fn := fun _ => fun
  | [d1, d2, d3] => { results := [.lit (.bool true)], args := [d1, d2, d3] }
  | _ => none }
def pickTellsRow : OpenClaim := { program := "ytkfffpdhnmjjmab", sum := "2edf580599c02015587570533ed336e04c986be512752844ec284cc9ec69406e", func := "astrolabe/astrolabelaw03.PickTells", spec := "pickTells", unfollowed := true, recurses := true, apart := false }
def PickTellsSaid : Prop := pickTellsRow.holds Try.pinned (OpenSpec.ofChange pickTellsSpec)

/-- ITS FALSE NEIGHBOUR: 'it returns false'. Refute it at one input. -/
def pickTellsWrong : ChangeSpec := { name := "pickTells", fn := fun _ => fun
  | [d1, d2, d3] => { results := [.lit (.bool false)], args := [d1, d2, d3] }
  | _ => none }
def PickTellsWrongFalsely : Prop := pickTellsRow.holds Try.pinned (OpenSpec.ofChange pickTellsWrong)

/-- 'astrolabelaw03.PickOrders': WHATEVER THE INPUT: true; the input reads as it did. -/
def pickOrdersSpec : ChangeSpec := { name := "pickOrders", fn := fun _ => fun
  | [d1, d2] => { results := [.lit (.bool true)], args := [d1, d2] }
  | _ => none }
def pickOrdersRow : OpenClaim := { program := "ytkfffpdhnmjjmab", sum := "2edf580599c02015587570533ed336e04c986be512752844ec284cc9ec69406e", func := "astrolabe/astrolabelaw03.PickOrders", spec := "pickOrders", unfollowed := true, recurses := true, apart := false }
def PickOrdersSaid : Prop := pickOrdersRow.holds Try.pinned (OpenSpec.ofChange pickOrdersSpec)

/-- ITS FALSE NEIGHBOUR: 'it returns false'. Refute it at one input. -/
def pickOrdersWrong : ChangeSpec := { name := "pickOrders", fn := fun _ => fun
  | [d1, d2] => { results := [.lit (.bool false)], args := [d1, d2] }
  | _ => none }
def PickOrdersWrongFalsely : Prop := pickOrdersRow.holds Try.pinned (OpenSpec.ofChange pickOrdersWrong)

/-- 'astrolabelaw02.ShiftTells': WHATEVER THE INPUT: true; the input reads as it did. -/
def shiftTellsSpec : ChangeSpec := { name := "shiftTells", fn := fun _ => fun
  | [d1, d2] => { results := [.lit (.bool true)], args := [d1, d2] }
  | _ => none }
def shiftTellsRow : OpenClaim := { program := "ytkfffpdhnmjjmab", sum := "2edf580599c02015587570533ed336e04c986be512752844ec284cc9ec69406e", func := "astrolabe/astrolabelaw02.ShiftTells", spec := "shiftTells", unfollowed := true, recurses := true, apart := false }
def ShiftTellsSaid : Prop := shiftTellsRow.holds Try.pinned (OpenSpec.ofChange shiftTellsSpec)

/-- ITS FALSE NEIGHBOUR: 'it returns false'. Refute it at one input. -/
def shiftTellsWrong : ChangeSpec := { name := "shiftTells", fn := fun _ => fun
  | [d1, d2] => { results := [.lit (.bool false)], args := [d1, d2] }
  | _ => none }
def ShiftTellsWrongFalsely : Prop := shiftTellsRow.holds Try.pinned (OpenSpec.ofChange shiftTellsWrong)

/-- 'astrolabelaw02.ShiftBack': WHATEVER THE INPUT: true; the input reads as it did. -/
def shiftBackSpec : ChangeSpec := { name := "shiftBack", fn := fun _ => fun
  | [d1, d2, d3] => { results := [.lit (.bool true)], args := [d1, d2, d3] }
  | _ => none }
def shiftBackRow : OpenClaim := { program := "ytkfffpdhnmjjmab", sum := "2edf580599c02015587570533ed336e04c986be512752844ec284cc9ec69406e", func := "astrolabe/astrolabelaw02.ShiftBack", spec := "shiftBack", unfollowed := true, recurses := true, apart := false }
def ShiftBackSaid : Prop := shiftBackRow.holds Try.pinned (OpenSpec.ofChange shiftBackSpec)

/-- ITS FALSE NEIGHBOUR: 'it returns false'. Refute it at one input. -/
def shiftBackWrong : ChangeSpec := { name := "shiftBack", fn := fun _ => fun
  | [d1, d2, d3] => { results := [.lit (.bool false)], args := [d1, d2, d3] }
  | _ => none }
def ShiftBackWrongFalsely : Prop := shiftBackRow.holds Try.pinned (OpenSpec.ofChange shiftBackWrong)

/-- 'astrolabelaw02.ShiftLeads': WHATEVER THE INPUT: true; the input reads as it did. -/
def shiftLeadsSpec : ChangeSpec := { name := "shiftLeads", fn := fun _ => fun
  | [d] => { results := [.lit (.bool true)], args := [d] }
  | _ => none }
def shiftLeadsRow : OpenClaim := { program := "ytkfffpdhnmjjmab", sum := "2edf580599c02015587570533ed336e04c986be512752844ec284cc9ec69406e", func := "astrolabe/astrolabelaw02.ShiftLeads", spec := "shiftLeads", unfollowed := true, recurses := true, apart := false }
def ShiftLeadsSaid : Prop := shiftLeadsRow.holds Try.pinned (OpenSpec.ofChange shiftLeadsSpec)

/-- ITS FALSE NEIGHBOUR: 'it returns false'. Refute it at one input. -/
def shiftLeadsWrong : ChangeSpec := { name := "shiftLeads", fn := fun _ => fun
  | [d] => { results := [.lit (.bool false)], args := [d] }
  | _ => none }
def ShiftLeadsWrongFalsely : Prop := shiftLeadsRow.holds Try.pinned (OpenSpec.ofChange shiftLeadsWrong)

/-- 'astrolabelaw02.ShiftCounts': WHATEVER THE INPUT: true; the input reads as it did. -/
def shiftCountsSpec : ChangeSpec := { name := "shiftCounts", fn := fun _ => fun
  | [d1, d2] => { results := [.lit (.bool true)], args := [d1, d2] }
  | _ => none }
def shiftCountsRow : OpenClaim := { program := "ytkfffpdhnmjjmab", sum := "2edf580599c02015587570533ed336e04c986be512752844ec284cc9ec69406e", func := "astrolabe/astrolabelaw02.ShiftCounts", spec := "shiftCounts", unfollowed := true, recurses := true, apart := false }
def ShiftCountsSaid : Prop := shiftCountsRow.holds Try.pinned (OpenSpec.ofChange shiftCountsSpec)

/-- ITS FALSE NEIGHBOUR: 'it returns false'. Refute it at one input. -/
def shiftCountsWrong : ChangeSpec := { name := "shiftCounts", fn := fun _ => fun
  | [d1, d2] => { results := [.lit (.bool false)], args := [d1, d2] }
  | _ => none }
def ShiftCountsWrongFalsely : Prop := shiftCountsRow.holds Try.pinned (OpenSpec.ofChange shiftCountsWrong)

/-- 'astrolabelaw02.ShiftHalves': WHATEVER THE INPUT: true; the input reads as it did. -/
def shiftHalvesSpec : ChangeSpec := { name := "shiftHalves", fn := fun _ => fun
  | [d1, d2] => { results := [.lit (.bool true)], args := [d1, d2] }
  | _ => none }
def shiftHalvesRow : OpenClaim := { program := "ytkfffpdhnmjjmab", sum := "2edf580599c02015587570533ed336e04c986be512752844ec284cc9ec69406e", func := "astrolabe/astrolabelaw02.ShiftHalves", spec := "shiftHalves", unfollowed := true, recurses := true, apart := false }
def ShiftHalvesSaid : Prop := shiftHalvesRow.holds Try.pinned (OpenSpec.ofChange shiftHalvesSpec)

/-- ITS FALSE NEIGHBOUR: 'it returns false'. Refute it at one input. -/
def shiftHalvesWrong : ChangeSpec := { name := "shiftHalves", fn := fun _ => fun
  | [d1, d2] => { results := [.lit (.bool false)], args := [d1, d2] }
  | _ => none }
def ShiftHalvesWrongFalsely : Prop := shiftHalvesRow.holds Try.pinned (OpenSpec.ofChange shiftHalvesWrong)

/- THE SECOND FORM. 'bulk': how many values and letters a reading holds, each counted each time it is reached (what is shared counts as often as it is met; a slice's spare places count too). A statement '..UptoSaid' is the law's where the arguments, and the package variables that the reading takes, are together of bulk at most 1048576: NARROWER than '..Said'. Prove '..Said' where nothing that the law and all that it calls make is longer than what came in: it says more and counts as full. Else prove '..UptoSaid'. A law counts once. -/
mutual
def uptoBulk {H : Type} : DataW H → Nat
  | .lit (.string bytes) => bytes.length + 1
  | .lit _ => 1
  | .nil => 1
  | .ptr d => uptoBulk d + 1
  | .slice elems spare => uptoBulkAll elems + uptoBulkAll spare + 1
  | .agg parts => uptoBulkAll parts + 1
  | .iface _ d => uptoBulk d + 1
  | .map entries => uptoBulkEntries entries + 1
  | .held _ => 1
def uptoBulkAll {H : Type} : List (DataW H) → Nat
  | [] => 0
  | d :: r => uptoBulk d + uptoBulkAll r
def uptoBulkEntries {H : Type} : List (Lit × DataW H) → Nat
  | [] => 0
  | x :: r => uptoBulkEntry x + uptoBulkEntries r
def uptoBulkEntry {H : Type} : Lit × DataW H → Nat
  | (.string bytes, d) => bytes.length + uptoBulk d + 1
  | (_, d) => uptoBulk d + 1
 end
def uptoSmall : (H : Type) → List (DataW H) → Bool := fun _ ds => decide (uptoBulkAll ds ≤ 1048576)
def OpenSpec.upto (s : _root_.Go.ChangeSpec) : _root_.Go.OpenSpec := { _root_.Go.OpenSpec.ofChange s with cond := some uptoSmall }

/-- 'astrolabelaw03.PickSels', WHERE WHAT IT READS IS OF BULK AT MOST 1048576: true; the input reads as it did. -/
def pickSelsUptoRow : OpenClaim := { program := "ytkfffpdhnmjjmab", sum := "2edf580599c02015587570533ed336e04c986be512752844ec284cc9ec69406e", func := "astrolabe/astrolabelaw03.PickSels", spec := "pickSels", unfollowed := true, recurses := true, apart := false, narrowed := true }
def PickSelsUptoSaid : Prop := pickSelsUptoRow.holds Try.pinned (OpenSpec.upto pickSelsSpec)

/-- 'astrolabelaw01.WordTells', WHERE WHAT IT READS IS OF BULK AT MOST 1048576: true; the input reads as it did. -/
def wordTellsUptoRow : OpenClaim := { program := "ytkfffpdhnmjjmab", sum := "2edf580599c02015587570533ed336e04c986be512752844ec284cc9ec69406e", func := "astrolabe/astrolabelaw01.WordTells", spec := "wordTells", apart := false, narrowed := true }
def WordTellsUptoSaid : Prop := wordTellsUptoRow.holds Try.pinned (OpenSpec.upto wordTellsSpec)

/-- 'astrolabelaw03.PickTells', WHERE WHAT IT READS IS OF BULK AT MOST 1048576: true; the input reads as it did. -/
def pickTellsUptoRow : OpenClaim := { program := "ytkfffpdhnmjjmab", sum := "2edf580599c02015587570533ed336e04c986be512752844ec284cc9ec69406e", func := "astrolabe/astrolabelaw03.PickTells", spec := "pickTells", unfollowed := true, recurses := true, apart := false, narrowed := true }
def PickTellsUptoSaid : Prop := pickTellsUptoRow.holds Try.pinned (OpenSpec.upto pickTellsSpec)

/-- 'astrolabelaw03.PickOrders', WHERE WHAT IT READS IS OF BULK AT MOST 1048576: true; the input reads as it did. -/
def pickOrdersUptoRow : OpenClaim := { program := "ytkfffpdhnmjjmab", sum := "2edf580599c02015587570533ed336e04c986be512752844ec284cc9ec69406e", func := "astrolabe/astrolabelaw03.PickOrders", spec := "pickOrders", unfollowed := true, recurses := true, apart := false, narrowed := true }
def PickOrdersUptoSaid : Prop := pickOrdersUptoRow.holds Try.pinned (OpenSpec.upto pickOrdersSpec)

/-- 'astrolabelaw02.ShiftTells', WHERE WHAT IT READS IS OF BULK AT MOST 1048576: true; the input reads as it did. -/
def shiftTellsUptoRow : OpenClaim := { program := "ytkfffpdhnmjjmab", sum := "2edf580599c02015587570533ed336e04c986be512752844ec284cc9ec69406e", func := "astrolabe/astrolabelaw02.ShiftTells", spec := "shiftTells", unfollowed := true, recurses := true, apart := false, narrowed := true }
def ShiftTellsUptoSaid : Prop := shiftTellsUptoRow.holds Try.pinned (OpenSpec.upto shiftTellsSpec)

/-- 'astrolabelaw02.ShiftBack', WHERE WHAT IT READS IS OF BULK AT MOST 1048576: true; the input reads as it did. -/
def shiftBackUptoRow : OpenClaim := { program := "ytkfffpdhnmjjmab", sum := "2edf580599c02015587570533ed336e04c986be512752844ec284cc9ec69406e", func := "astrolabe/astrolabelaw02.ShiftBack", spec := "shiftBack", unfollowed := true, recurses := true, apart := false, narrowed := true }
def ShiftBackUptoSaid : Prop := shiftBackUptoRow.holds Try.pinned (OpenSpec.upto shiftBackSpec)

/-- 'astrolabelaw02.ShiftLeads', WHERE WHAT IT READS IS OF BULK AT MOST 1048576: true; the input reads as it did. -/
def shiftLeadsUptoRow : OpenClaim := { program := "ytkfffpdhnmjjmab", sum := "2edf580599c02015587570533ed336e04c986be512752844ec284cc9ec69406e", func := "astrolabe/astrolabelaw02.ShiftLeads", spec := "shiftLeads", unfollowed := true, recurses := true, apart := false, narrowed := true }
def ShiftLeadsUptoSaid : Prop := shiftLeadsUptoRow.holds Try.pinned (OpenSpec.upto shiftLeadsSpec)

/-- 'astrolabelaw02.ShiftCounts', WHERE WHAT IT READS IS OF BULK AT MOST 1048576: true; the input reads as it did. -/
def shiftCountsUptoRow : OpenClaim := { program := "ytkfffpdhnmjjmab", sum := "2edf580599c02015587570533ed336e04c986be512752844ec284cc9ec69406e", func := "astrolabe/astrolabelaw02.ShiftCounts", spec := "shiftCounts", unfollowed := true, recurses := true, apart := false, narrowed := true }
def ShiftCountsUptoSaid : Prop := shiftCountsUptoRow.holds Try.pinned (OpenSpec.upto shiftCountsSpec)

/-- 'astrolabelaw02.ShiftHalves', WHERE WHAT IT READS IS OF BULK AT MOST 1048576: true; the input reads as it did. -/
def shiftHalvesUptoRow : OpenClaim := { program := "ytkfffpdhnmjjmab", sum := "2edf580599c02015587570533ed336e04c986be512752844ec284cc9ec69406e", func := "astrolabe/astrolabelaw02.ShiftHalves", spec := "shiftHalves", unfollowed := true, recurses := true, apart := false, narrowed := true }
def ShiftHalvesUptoSaid : Prop := shiftHalvesUptoRow.holds Try.pinned (OpenSpec.upto shiftHalvesSpec)

end Rows
end Go.Proofs.Ytkfffpdhnmjjmab
