/-
  No cell of these rows narrows 'for every input' (looked for: loops, veiled, ifaces, maps, wideKeys, modest, calm, conditions, laid).
  DERIVED. THE GIVEN ROWS OF THIS SEAT. 12 by the template 'for every input the law returns true; each argument reads behind the call as it read before'; 0 by the template 'total and deterministic' (their statements: YtkfffpdhnmjjmaaTotals.lean).
  GIVEN WITH THE SEED: the statements are not yours to turn. If you find one false, say at which input.
  Laid BY PROGRAM, IN A SANDBOX (cutbox-rows.mjs): the forced cells as the released guide's own fill.sh prints them over the translation 75ba2f9320f5f318… (all of the seat's roots in one cut). By AI agents, Wed Nov 11 2026. No macro, syntax, notation, axiom, sorry.
-/
import Derived.Test.YtkfffpdhnmjjmaaChecked
import GoSem.Claim
import GoSem.ClaimJoined
import GoSem.ClaimMapViews
import Derived.JoinedTies
import Derived.KernelRfl
namespace Go.Proofs.Ytkfffpdhnmjjmaa
/- THE CELL 'sum', in the pinned program and in every row, IS THE sha256 OF THE DUMP (.gsa) THAT YtkfffpdhnmjjmaaProg.lean LOADS. Nothing in Lean hashes anything: it is a label: what it is worth is what the hold of that sum in a sandbox is worth. -/
noncomputable def Try.pinned : Pinned := { name := "ytkfffpdhnmjjmaa", sum := "75ba2f9320f5f3184ce7511086c5df72a7d6668dd149f7db95055f74156391c4", checked := Try.checked }
namespace Rows
def none {H : Type} : Left H := { results := [], args := [] }

/-- 'astrolabelaw04.SatNear': WHATEVER THE INPUT: true; the input reads as it did. -/
def satNearSpec : ChangeSpec := { name := "satNear", fn := fun _ => fun
  | [d1, d2] => { results := [.lit (.bool true)], args := [d1, d2] }
  | _ => none }
def satNearRow : OpenClaim := { program := "ytkfffpdhnmjjmaa", sum := "75ba2f9320f5f3184ce7511086c5df72a7d6668dd149f7db95055f74156391c4", func := "astrolabe/astrolabelaw04.SatNear", spec := "satNear", apart := false }
def SatNearSaid : Prop := satNearRow.holds Try.pinned (OpenSpec.ofChange satNearSpec)

/-- ITS FALSE NEIGHBOUR: 'it returns false'. Refute it at one input. -/
def satNearWrong : ChangeSpec := { name := "satNear", fn := fun _ => fun
  | [d1, d2] => { results := [.lit (.bool false)], args := [d1, d2] }
  | _ => none }
def SatNearWrongFalsely : Prop := satNearRow.holds Try.pinned (OpenSpec.ofChange satNearWrong)

/-- 'astrolabelaw04.SatClamps': WHATEVER THE INPUT: true; the input reads as it did. -/
def satClampsSpec : ChangeSpec := { name := "satClamps", fn := fun _ => fun
  | [d1, d2, d3] => { results := [.lit (.bool true)], args := [d1, d2, d3] }
  | _ => none }
def satClampsRow : OpenClaim := { program := "ytkfffpdhnmjjmaa", sum := "75ba2f9320f5f3184ce7511086c5df72a7d6668dd149f7db95055f74156391c4", func := "astrolabe/astrolabelaw04.SatClamps", spec := "satClamps", apart := false }
def SatClampsSaid : Prop := satClampsRow.holds Try.pinned (OpenSpec.ofChange satClampsSpec)

/-- ITS FALSE NEIGHBOUR: 'it returns false'. Refute it at one input. -/
def satClampsWrong : ChangeSpec := { name := "satClamps", fn := fun _ => fun
  | [d1, d2, d3] => { results := [.lit (.bool false)], args := [d1, d2, d3] }
  | _ => none }
def SatClampsWrongFalsely : Prop := satClampsRow.holds Try.pinned (OpenSpec.ofChange satClampsWrong)

/-- 'astrolabelaw04.SatTells': WHATEVER THE INPUT: true; the input reads as it did. -/
def satTellsSpec : ChangeSpec := { name := "satTells", fn := fun _ => fun
  | [d1, d2, d3, d4] => { results := [.lit (.bool true)], args := [d1, d2, d3, d4] }
  | _ => none }
def satTellsRow : OpenClaim := { program := "ytkfffpdhnmjjmaa", sum := "75ba2f9320f5f3184ce7511086c5df72a7d6668dd149f7db95055f74156391c4", func := "astrolabe/astrolabelaw04.SatTells", spec := "satTells", apart := false }
def SatTellsSaid : Prop := satTellsRow.holds Try.pinned (OpenSpec.ofChange satTellsSpec)

/-- ITS FALSE NEIGHBOUR: 'it returns false'. Refute it at one input. -/
def satTellsWrong : ChangeSpec := { name := "satTells", fn := fun _ => fun
  | [d1, d2, d3, d4] => { results := [.lit (.bool false)], args := [d1, d2, d3, d4] }
  | _ => none }
def SatTellsWrongFalsely : Prop := satTellsRow.holds Try.pinned (OpenSpec.ofChange satTellsWrong)

/-- 'astrolabelaw04.SatTurns': WHATEVER THE INPUT: true; the input reads as it did. -/
def satTurnsSpec : ChangeSpec := { name := "satTurns", fn := fun _ => fun
  | [d1, d2, d3] => { results := [.lit (.bool true)], args := [d1, d2, d3] }
  | _ => none }
def satTurnsRow : OpenClaim := { program := "ytkfffpdhnmjjmaa", sum := "75ba2f9320f5f3184ce7511086c5df72a7d6668dd149f7db95055f74156391c4", func := "astrolabe/astrolabelaw04.SatTurns", spec := "satTurns", apart := false }
def SatTurnsSaid : Prop := satTurnsRow.holds Try.pinned (OpenSpec.ofChange satTurnsSpec)

/-- ITS FALSE NEIGHBOUR: 'it returns false'. Refute it at one input. -/
def satTurnsWrong : ChangeSpec := { name := "satTurns", fn := fun _ => fun
  | [d1, d2, d3] => { results := [.lit (.bool false)], args := [d1, d2, d3] }
  | _ => none }
def SatTurnsWrongFalsely : Prop := satTurnsRow.holds Try.pinned (OpenSpec.ofChange satTurnsWrong)

/-- 'astrolabelaw01.WordJoins': WHATEVER THE INPUT: true; the input reads as it did. -/
def wordJoinsSpec : ChangeSpec := { name := "wordJoins", fn := fun _ => fun
  | [d1, d2, d3] => { results := [.lit (.bool true)], args := [d1, d2, d3] }
  | _ => none }
def wordJoinsRow : OpenClaim := { program := "ytkfffpdhnmjjmaa", sum := "75ba2f9320f5f3184ce7511086c5df72a7d6668dd149f7db95055f74156391c4", func := "astrolabe/astrolabelaw01.WordJoins", spec := "wordJoins", apart := false }
def WordJoinsSaid : Prop := wordJoinsRow.holds Try.pinned (OpenSpec.ofChange wordJoinsSpec)

/-- ITS FALSE NEIGHBOUR: 'it returns false'. Refute it at one input. -/
def wordJoinsWrong : ChangeSpec := { name := "wordJoins", fn := fun _ => fun
  | [d1, d2, d3] => { results := [.lit (.bool false)], args := [d1, d2, d3] }
  | _ => none }
def WordJoinsWrongFalsely : Prop := wordJoinsRow.holds Try.pinned (OpenSpec.ofChange wordJoinsWrong)

/-- 'astrolabelaw05.FixTells': WHATEVER THE INPUT: true; the input reads as it did. -/
def fixTellsSpec : ChangeSpec := { name := "fixTells", fn := fun _ => fun
  | [d1, d2, d3, d4] => { results := [.lit (.bool true)], args := [d1, d2, d3, d4] }
  | _ => none }
def fixTellsRow : OpenClaim := { program := "ytkfffpdhnmjjmaa", sum := "75ba2f9320f5f3184ce7511086c5df72a7d6668dd149f7db95055f74156391c4", func := "astrolabe/astrolabelaw05.FixTells", spec := "fixTells", unfollowed := true, recurses := true, apart := false }
def FixTellsSaid : Prop := fixTellsRow.holds Try.pinned (OpenSpec.ofChange fixTellsSpec)

/-- ITS FALSE NEIGHBOUR: 'it returns false'. Refute it at one input. -/
def fixTellsWrong : ChangeSpec := { name := "fixTells", fn := fun _ => fun
  | [d1, d2, d3, d4] => { results := [.lit (.bool false)], args := [d1, d2, d3, d4] }
  | _ => none }
def FixTellsWrongFalsely : Prop := fixTellsRow.holds Try.pinned (OpenSpec.ofChange fixTellsWrong)

/-- 'astrolabelaw05.FixNear': WHATEVER THE INPUT: true; the input reads as it did. -/
def fixNearSpec : ChangeSpec := { name := "fixNear", fn := fun _ => fun
  | [d1, d2] => { results := [.lit (.bool true)], args := [d1, d2] }
  | _ => none }
def fixNearRow : OpenClaim := { program := "ytkfffpdhnmjjmaa", sum := "75ba2f9320f5f3184ce7511086c5df72a7d6668dd149f7db95055f74156391c4", func := "astrolabe/astrolabelaw05.FixNear", spec := "fixNear", unfollowed := true, recurses := true, apart := false }
def FixNearSaid : Prop := fixNearRow.holds Try.pinned (OpenSpec.ofChange fixNearSpec)

/-- ITS FALSE NEIGHBOUR: 'it returns false'. Refute it at one input. -/
def fixNearWrong : ChangeSpec := { name := "fixNear", fn := fun _ => fun
  | [d1, d2] => { results := [.lit (.bool false)], args := [d1, d2] }
  | _ => none }
def FixNearWrongFalsely : Prop := fixNearRow.holds Try.pinned (OpenSpec.ofChange fixNearWrong)

/-- 'astrolabelaw05.FixWhole': WHATEVER THE INPUT: true; the input reads as it did. -/
def fixWholeSpec : ChangeSpec := { name := "fixWhole", fn := fun _ => fun
  | [d1, d2] => { results := [.lit (.bool true)], args := [d1, d2] }
  | _ => none }
def fixWholeRow : OpenClaim := { program := "ytkfffpdhnmjjmaa", sum := "75ba2f9320f5f3184ce7511086c5df72a7d6668dd149f7db95055f74156391c4", func := "astrolabe/astrolabelaw05.FixWhole", spec := "fixWhole", unfollowed := true, recurses := true, apart := false }
def FixWholeSaid : Prop := fixWholeRow.holds Try.pinned (OpenSpec.ofChange fixWholeSpec)

/-- ITS FALSE NEIGHBOUR: 'it returns false'. Refute it at one input. -/
def fixWholeWrong : ChangeSpec := { name := "fixWhole", fn := fun _ => fun
  | [d1, d2] => { results := [.lit (.bool false)], args := [d1, d2] }
  | _ => none }
def FixWholeWrongFalsely : Prop := fixWholeRow.holds Try.pinned (OpenSpec.ofChange fixWholeWrong)

/-- 'astrolabelaw05.FixOnes': WHATEVER THE INPUT: true; the input reads as it did. -/
def fixOnesSpec : ChangeSpec := { name := "fixOnes", fn := fun _ => fun
  | [d1, d2] => { results := [.lit (.bool true)], args := [d1, d2] }
  | _ => none }
def fixOnesRow : OpenClaim := { program := "ytkfffpdhnmjjmaa", sum := "75ba2f9320f5f3184ce7511086c5df72a7d6668dd149f7db95055f74156391c4", func := "astrolabe/astrolabelaw05.FixOnes", spec := "fixOnes", unfollowed := true, recurses := true, apart := false }
def FixOnesSaid : Prop := fixOnesRow.holds Try.pinned (OpenSpec.ofChange fixOnesSpec)

/-- ITS FALSE NEIGHBOUR: 'it returns false'. Refute it at one input. -/
def fixOnesWrong : ChangeSpec := { name := "fixOnes", fn := fun _ => fun
  | [d1, d2] => { results := [.lit (.bool false)], args := [d1, d2] }
  | _ => none }
def FixOnesWrongFalsely : Prop := fixOnesRow.holds Try.pinned (OpenSpec.ofChange fixOnesWrong)

/-- 'astrolabelaw05.FixRounds': WHATEVER THE INPUT: true; the input reads as it did. -/
def fixRoundsSpec : ChangeSpec := { name := "fixRounds", fn := fun _ => fun
  | [d1, d2] => { results := [.lit (.bool true)], args := [d1, d2] }
  | _ => none }
def fixRoundsRow : OpenClaim := { program := "ytkfffpdhnmjjmaa", sum := "75ba2f9320f5f3184ce7511086c5df72a7d6668dd149f7db95055f74156391c4", func := "astrolabe/astrolabelaw05.FixRounds", spec := "fixRounds", unfollowed := true, recurses := true, apart := false }
def FixRoundsSaid : Prop := fixRoundsRow.holds Try.pinned (OpenSpec.ofChange fixRoundsSpec)

/-- ITS FALSE NEIGHBOUR: 'it returns false'. Refute it at one input. -/
def fixRoundsWrong : ChangeSpec := { name := "fixRounds", fn := fun _ => fun
  | [d1, d2] => { results := [.lit (.bool false)], args := [d1, d2] }
  | _ => none }
def FixRoundsWrongFalsely : Prop := fixRoundsRow.holds Try.pinned (OpenSpec.ofChange fixRoundsWrong)

/-- 'astrolabelaw03.PickFlips': WHATEVER THE INPUT: true; the input reads as it did. -/
def pickFlipsSpec : ChangeSpec := { name := "pickFlips", fn := fun _ => fun
  | [d] => { results := [.lit (.bool true)], args := [d] }
  | _ => none }
def pickFlipsRow : OpenClaim := { program := "ytkfffpdhnmjjmaa", sum := "75ba2f9320f5f3184ce7511086c5df72a7d6668dd149f7db95055f74156391c4", func := "astrolabe/astrolabelaw03.PickFlips", spec := "pickFlips", unfollowed := true, recurses := true, apart := false }
def PickFlipsSaid : Prop := pickFlipsRow.holds Try.pinned (OpenSpec.ofChange pickFlipsSpec)

/-- ITS FALSE NEIGHBOUR: 'it returns false'. Refute it at one input. -/
def pickFlipsWrong : ChangeSpec := { name := "pickFlips", fn := fun _ => fun
  | [d] => { results := [.lit (.bool false)], args := [d] }
  | _ => none }
def PickFlipsWrongFalsely : Prop := pickFlipsRow.holds Try.pinned (OpenSpec.ofChange pickFlipsWrong)

/-- 'astrolabelaw01.WordBack': WHATEVER THE INPUT: true; the input reads as it did. -/
def wordBackSpec : ChangeSpec := { name := "wordBack", fn := fun _ => fun
  | [d] => { results := [.lit (.bool true)], args := [d] }
  | _ => none }
def wordBackRow : OpenClaim := { program := "ytkfffpdhnmjjmaa", sum := "75ba2f9320f5f3184ce7511086c5df72a7d6668dd149f7db95055f74156391c4", func := "astrolabe/astrolabelaw01.WordBack", spec := "wordBack", apart := false }
def WordBackSaid : Prop := wordBackRow.holds Try.pinned (OpenSpec.ofChange wordBackSpec)

/-- ITS FALSE NEIGHBOUR: 'it returns false'. Refute it at one input. -/
def wordBackWrong : ChangeSpec := { name := "wordBack", fn := fun _ => fun
  | [d] => { results := [.lit (.bool false)], args := [d] }
  | _ => none }
def WordBackWrongFalsely : Prop := wordBackRow.holds Try.pinned (OpenSpec.ofChange wordBackWrong)

/- THE SECOND FORM. 'bulk': how many values and letters a reading holds, each counted each time it is reached (what is shared counts as often as it is met; a slice's spare places count too). A statement '..UptoSaid' is the law's where the arguments, and the package variables that the reading takes, are together of bulk at most 1048576: NARROWER than '..Said'. Prove '..Said' where nothing that the law and all that it calls make is longer than what came in: it says more and counts as full. Else prove '..UptoSaid'. A law counts once. -/
mutual
def uptoBulk {H : Type} : DataW H → Nat
  | .lit (.string bytes) => bytes.length + 1
  | .lit _ => 1
  | .nil => 1
  | .ptr d => uptoBulk d + 1
  | .slice elems spare => uptoBulkAll elems + uptoBulkAll spare + 1
  | .agg parts => uptoBulkAll parts + 1
  | .iface _ d => uptoBulk d + 1
  | .map entries => uptoBulkEntries entries + 1
  | .held _ => 1
def uptoBulkAll {H : Type} : List (DataW H) → Nat
  | [] => 0
  | d :: r => uptoBulk d + uptoBulkAll r
def uptoBulkEntries {H : Type} : List (Lit × DataW H) → Nat
  | [] => 0
  | x :: r => uptoBulkEntry x + uptoBulkEntries r
def uptoBulkEntry {H : Type} : Lit × DataW H → Nat
  | (.string bytes, d) => bytes.length + uptoBulk d + 1
  | (_, d) => uptoBulk d + 1
 end
def uptoSmall : (H : Type) → List (DataW H) → Bool := fun _ ds => decide (uptoBulkAll ds ≤ 1048576)
def OpenSpec.upto (s : _root_.Go.ChangeSpec) : _root_.Go.OpenSpec := { _root_.Go.OpenSpec.ofChange s with cond := some uptoSmall }

/-- 'astrolabelaw04.SatNear', WHERE WHAT IT READS IS OF BULK AT MOST 1048576: true; the input reads as it did. -/
def satNearUptoRow : OpenClaim := { program := "ytkfffpdhnmjjmaa", sum := "75ba2f9320f5f3184ce7511086c5df72a7d6668dd149f7db95055f74156391c4", func := "astrolabe/astrolabelaw04.SatNear", spec := "satNear", apart := false, narrowed := true }
def SatNearUptoSaid : Prop := satNearUptoRow.holds Try.pinned (OpenSpec.upto satNearSpec)

/-- 'astrolabelaw04.SatClamps', WHERE WHAT IT READS IS OF BULK AT MOST 1048576: true; the input reads as it did. -/
def satClampsUptoRow : OpenClaim := { program := "ytkfffpdhnmjjmaa", sum := "75ba2f9320f5f3184ce7511086c5df72a7d6668dd149f7db95055f74156391c4", func := "astrolabe/astrolabelaw04.SatClamps", spec := "satClamps", apart := false, narrowed := true }
def SatClampsUptoSaid : Prop := satClampsUptoRow.holds Try.pinned (OpenSpec.upto satClampsSpec)

/-- 'astrolabelaw04.SatTells', WHERE WHAT IT READS IS OF BULK AT MOST 1048576: true; the input reads as it did. -/
def satTellsUptoRow : OpenClaim := { program := "ytkfffpdhnmjjmaa", sum := "75ba2f9320f5f3184ce7511086c5df72a7d6668dd149f7db95055f74156391c4", func := "astrolabe/astrolabelaw04.SatTells", spec := "satTells", apart := false, narrowed := true }
def SatTellsUptoSaid : Prop := satTellsUptoRow.holds Try.pinned (OpenSpec.upto satTellsSpec)

/-- 'astrolabelaw04.SatTurns', WHERE WHAT IT READS IS OF BULK AT MOST 1048576: true; the input reads as it did. -/
def satTurnsUptoRow : OpenClaim := { program := "ytkfffpdhnmjjmaa", sum := "75ba2f9320f5f3184ce7511086c5df72a7d6668dd149f7db95055f74156391c4", func := "astrolabe/astrolabelaw04.SatTurns", spec := "satTurns", apart := false, narrowed := true }
def SatTurnsUptoSaid : Prop := satTurnsUptoRow.holds Try.pinned (OpenSpec.upto satTurnsSpec)

/-- 'astrolabelaw01.WordJoins', WHERE WHAT IT READS IS OF BULK AT MOST 1048576: true; the input reads as it did. -/
def wordJoinsUptoRow : OpenClaim := { program := "ytkfffpdhnmjjmaa", sum := "75ba2f9320f5f3184ce7511086c5df72a7d6668dd149f7db95055f74156391c4", func := "astrolabe/astrolabelaw01.WordJoins", spec := "wordJoins", apart := false, narrowed := true }
def WordJoinsUptoSaid : Prop := wordJoinsUptoRow.holds Try.pinned (OpenSpec.upto wordJoinsSpec)

/-- 'astrolabelaw05.FixTells', WHERE WHAT IT READS IS OF BULK AT MOST 1048576: true; the input reads as it did. -/
def fixTellsUptoRow : OpenClaim := { program := "ytkfffpdhnmjjmaa", sum := "75ba2f9320f5f3184ce7511086c5df72a7d6668dd149f7db95055f74156391c4", func := "astrolabe/astrolabelaw05.FixTells", spec := "fixTells", unfollowed := true, recurses := true, apart := false, narrowed := true }
def FixTellsUptoSaid : Prop := fixTellsUptoRow.holds Try.pinned (OpenSpec.upto fixTellsSpec)

/-- 'astrolabelaw05.FixNear', WHERE WHAT IT READS IS OF BULK AT MOST 1048576: true; the input reads as it did. -/
def fixNearUptoRow : OpenClaim := { program := "ytkfffpdhnmjjmaa", sum := "75ba2f9320f5f3184ce7511086c5df72a7d6668dd149f7db95055f74156391c4", func := "astrolabe/astrolabelaw05.FixNear", spec := "fixNear", unfollowed := true, recurses := true, apart := false, narrowed := true }
def FixNearUptoSaid : Prop := fixNearUptoRow.holds Try.pinned (OpenSpec.upto fixNearSpec)

/-- 'astrolabelaw05.FixWhole', WHERE WHAT IT READS IS OF BULK AT MOST 1048576: true; the input reads as it did. -/
def fixWholeUptoRow : OpenClaim := { program := "ytkfffpdhnmjjmaa", sum := "75ba2f9320f5f3184ce7511086c5df72a7d6668dd149f7db95055f74156391c4", func := "astrolabe/astrolabelaw05.FixWhole", spec := "fixWhole", unfollowed := true, recurses := true, apart := false, narrowed := true }
def FixWholeUptoSaid : Prop := fixWholeUptoRow.holds Try.pinned (OpenSpec.upto fixWholeSpec)

/-- 'astrolabelaw05.FixOnes', WHERE WHAT IT READS IS OF BULK AT MOST 1048576: true; the input reads as it did. -/
def fixOnesUptoRow : OpenClaim := { program := "ytkfffpdhnmjjmaa", sum := "75ba2f9320f5f3184ce7511086c5df72a7d6668dd149f7db95055f74156391c4", func := "astrolabe/astrolabelaw05.FixOnes", spec := "fixOnes", unfollowed := true, recurses := true, apart := false, narrowed := true }
def FixOnesUptoSaid : Prop := fixOnesUptoRow.holds Try.pinned (OpenSpec.upto fixOnesSpec)

/-- 'astrolabelaw05.FixRounds', WHERE WHAT IT READS IS OF BULK AT MOST 1048576: true; the input reads as it did. -/
def fixRoundsUptoRow : OpenClaim := { program := "ytkfffpdhnmjjmaa", sum := "75ba2f9320f5f3184ce7511086c5df72a7d6668dd149f7db95055f74156391c4", func := "astrolabe/astrolabelaw05.FixRounds", spec := "fixRounds", unfollowed := true, recurses := true, apart := false, narrowed := true }
def FixRoundsUptoSaid : Prop := fixRoundsUptoRow.holds Try.pinned (OpenSpec.upto fixRoundsSpec)

/-- 'astrolabelaw03.PickFlips', WHERE WHAT IT READS IS OF BULK AT MOST 1048576: true; the input reads as it did. -/
def pickFlipsUptoRow : OpenClaim := { program := "ytkfffpdhnmjjmaa", sum := "75ba2f9320f5f3184ce7511086c5df72a7d6668dd149f7db95055f74156391c4", func := "astrolabe/astrolabelaw03.PickFlips", spec := "pickFlips", unfollowed := true, recurses := true, apart := false, narrowed := true }
def PickFlipsUptoSaid : Prop := pickFlipsUptoRow.holds Try.pinned (OpenSpec.upto pickFlipsSpec)

/-- 'astrolabelaw01.WordBack', WHERE WHAT IT READS IS OF BULK AT MOST 1048576: true; the input reads as it did. -/
def wordBackUptoRow : OpenClaim := { program := "ytkfffpdhnmjjmaa", sum := "75ba2f9320f5f3184ce7511086c5df72a7d6668dd149f7db95055f74156391c4", func := "astrolabe/astrolabelaw01.WordBack", spec := "wordBack", apart := false, narrowed := true }
def WordBackUptoSaid : Prop := wordBackUptoRow.holds Try.pinned (OpenSpec.upto wordBackSpec)

end Rows
end Go.Proofs.Ytkfffpdhnmjjmaa
