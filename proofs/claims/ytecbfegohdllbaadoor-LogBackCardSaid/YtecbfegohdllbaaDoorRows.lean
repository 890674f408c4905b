/-
  NARROWER THAN 'FOR EVERY INPUT', by the rows' own cells (each row's printed sentence says how): CrcJoins: laid · CrcTells: laid · CrcBursts: laid · CrcNought: laid · SampleTells: laid · SampleBack: laid · SampleAgain: laid · FrameTells: laid · FrameBack: laid · FrameBursts: laid · FrameForms: laid · StreamTells: laid · StreamCounts: laid · StreamFinds: laid · LogPlays: laid · LogLast: laid · LogBack: laid.
  DERIVED. THE GIVEN ROWS OF THIS SEAT. 17 by the template 'for every input the law returns true; each argument reads behind the call as it read before'; 0 by the template 'total and deterministic' (their statements: YtecbfegohdllbaaDoorTotals.lean).
  GIVEN WITH THE SEED: the statements are not yours to turn. If you find one false, say at which input.
  Laid BY PROGRAM, IN A SANDBOX (cutbox-rows.mjs): the forced cells as the released guide's own fill.sh prints them over the translation 2636e01a3548f695… (all of the seat's roots in one cut). By AI agents, Wed Nov 11 2026. No macro, syntax, notation, axiom, sorry.
-/
import Derived.Test.YtecbfegohdllbaaDoorChecked
import GoSem.Claim
import GoSem.ClaimJoined
import GoSem.ClaimMapViews
import Derived.JoinedTies
import Derived.KernelRfl
namespace Go.Proofs.YtecbfegohdllbaaDoor
/- THE CELL 'sum', in the pinned program and in every row, IS THE sha256 OF THE DUMP (.gsa) THAT YtecbfegohdllbaaDoorProg.lean LOADS. Nothing in Lean hashes anything: it is a label: what it is worth is what the hold of that sum in a sandbox is worth. -/
noncomputable def Tryd.pinned : Pinned := { name := "ytecbfegohdllbaadoor", sum := "2636e01a3548f6953143238e3a179d5dcdbdee87007e0ab7cacc89fae0238493", checked := Tryd.checked }
namespace Rows
def none {H : Type} : Left H := { results := [], args := [] }

/- WHAT THE LISTED PACKAGE-LEVEL VARIABLES READ AS WHEN THE CALL BEGINS. Each datum BY PROGRAM (the guide's laid-datum.mjs) off the statement by which the dump's own 'gosem.cut.vars' lays the variable. In a bare row this is a premise. The card (YtecbfegohdllbaaDoorCards.lean) ties it to the program's text. -/
def laid_astrolabe_crc_four {H : Type} : DataW H := .agg [.lit (.int .i32 0), .lit (.int .i32 4129), .lit (.int .i32 8258), .lit (.int .i32 12387), .lit (.int .i32 16516), .lit (.int .i32 20645), .lit (.int .i32 24774), .lit (.int .i32 28903), .lit (.int .i32 33032), .lit (.int .i32 37161), .lit (.int .i32 41290), .lit (.int .i32 45419), .lit (.int .i32 49548), .lit (.int .i32 53677), .lit (.int .i32 57806), .lit (.int .i32 61935)]
def laid_astrolabe_frame_errRange {H : Type} : DataW H := .iface "*errors.errorString" (.ptr (.agg [.lit (.string [97, 32, 110, 117, 109, 98, 101, 114, 32, 111, 117, 116, 32, 111, 102, 32, 105, 116, 115, 32, 98, 111, 117, 110, 100, 115])]))
def laid_astrolabe_frame_errForm {H : Type} : DataW H := .iface "*errors.errorString" (.ptr (.agg [.lit (.string [110, 111, 32, 102, 114, 97, 109, 101, 32, 111, 102, 32, 116, 104, 105, 115, 32, 107, 105, 110, 100])]))

/-- 'astrolabelaw11.CrcJoins': WHATEVER THE INPUT: true; the input reads as it did. -/
def crcJoinsSpec : ChangeSpec := { name := "crcJoins", fn := fun _ => fun
  | [d1, d2, d3] => { results := [.lit (.bool true)], args := [d1, d2, d3] }
  | _ => none }
def crcJoinsRow : OpenClaim := { program := "ytecbfegohdllbaadoor", sum := "2636e01a3548f6953143238e3a179d5dcdbdee87007e0ab7cacc89fae0238493", func := "astrolabe/astrolabelaw11.CrcJoins", spec := "crcJoins", unfollowed := true, recurses := true, named := ["astrolabe/crc.four"], apart := false, laid := [("astrolabe/crc.four", laid_astrolabe_crc_four)] }
def CrcJoinsSaid : Prop := crcJoinsRow.holds Tryd.pinned (OpenSpec.ofChange crcJoinsSpec)

/-- ITS FALSE NEIGHBOUR: 'it returns false'. Refute it at one input. -/
def crcJoinsWrong : ChangeSpec := { name := "crcJoins", fn := fun _ => fun
  | [d1, d2, d3] => { results := [.lit (.bool false)], args := [d1, d2, d3] }
  | _ => none }
def CrcJoinsWrongFalsely : Prop := crcJoinsRow.holds Tryd.pinned (OpenSpec.ofChange crcJoinsWrong)

/-- 'astrolabelaw11.CrcTells': WHATEVER THE INPUT: true; the input reads as it did. -/
def crcTellsSpec : ChangeSpec := { name := "crcTells", fn := fun _ => fun
  | [d1, d2, d3] => { results := [.lit (.bool true)], args := [d1, d2, d3] }
  | _ => none }
def crcTellsRow : OpenClaim := { program := "ytecbfegohdllbaadoor", sum := "2636e01a3548f6953143238e3a179d5dcdbdee87007e0ab7cacc89fae0238493", func := "astrolabe/astrolabelaw11.CrcTells", spec := "crcTells", unfollowed := true, recurses := true, named := ["astrolabe/crc.four"], apart := false, laid := [("astrolabe/crc.four", laid_astrolabe_crc_four)] }
def CrcTellsSaid : Prop := crcTellsRow.holds Tryd.pinned (OpenSpec.ofChange crcTellsSpec)

/-- ITS FALSE NEIGHBOUR: 'it returns false'. Refute it at one input. -/
def crcTellsWrong : ChangeSpec := { name := "crcTells", fn := fun _ => fun
  | [d1, d2, d3] => { results := [.lit (.bool false)], args := [d1, d2, d3] }
  | _ => none }
def CrcTellsWrongFalsely : Prop := crcTellsRow.holds Tryd.pinned (OpenSpec.ofChange crcTellsWrong)

/-- 'astrolabelaw11.CrcBursts': WHATEVER THE INPUT: true; the input reads as it did. -/
def crcBurstsSpec : ChangeSpec := { name := "crcBursts", fn := fun _ => fun
  | [d1, d2, d3] => { results := [.lit (.bool true)], args := [d1, d2, d3] }
  | _ => none }
def crcBurstsRow : OpenClaim := { program := "ytecbfegohdllbaadoor", sum := "2636e01a3548f6953143238e3a179d5dcdbdee87007e0ab7cacc89fae0238493", func := "astrolabe/astrolabelaw11.CrcBursts", spec := "crcBursts", unfollowed := true, recurses := true, named := ["astrolabe/crc.four"], apart := false, laid := [("astrolabe/crc.four", laid_astrolabe_crc_four)] }
def CrcBurstsSaid : Prop := crcBurstsRow.holds Tryd.pinned (OpenSpec.ofChange crcBurstsSpec)

/-- ITS FALSE NEIGHBOUR: 'it returns false'. Refute it at one input. -/
def crcBurstsWrong : ChangeSpec := { name := "crcBursts", fn := fun _ => fun
  | [d1, d2, d3] => { results := [.lit (.bool false)], args := [d1, d2, d3] }
  | _ => none }
def CrcBurstsWrongFalsely : Prop := crcBurstsRow.holds Tryd.pinned (OpenSpec.ofChange crcBurstsWrong)

/-- 'astrolabelaw11.CrcNought': WHATEVER THE INPUT: true; the input reads as it did. -/
def crcNoughtSpec : ChangeSpec := { name := "crcNought", fn := fun _ => fun
  | [d1, d2] => { results := [.lit (.bool true)], args := [d1, d2] }
  | _ => none }
def crcNoughtRow : OpenClaim := { program := "ytecbfegohdllbaadoor", sum := "2636e01a3548f6953143238e3a179d5dcdbdee87007e0ab7cacc89fae0238493", func := "astrolabe/astrolabelaw11.CrcNought", spec := "crcNought", unfollowed := true, recurses := true, named := ["astrolabe/crc.four"], apart := false, laid := [("astrolabe/crc.four", laid_astrolabe_crc_four)] }
def CrcNoughtSaid : Prop := crcNoughtRow.holds Tryd.pinned (OpenSpec.ofChange crcNoughtSpec)

/-- ITS FALSE NEIGHBOUR: 'it returns false'. Refute it at one input. -/
def crcNoughtWrong : ChangeSpec := { name := "crcNought", fn := fun _ => fun
  | [d1, d2] => { results := [.lit (.bool false)], args := [d1, d2] }
  | _ => none }
def CrcNoughtWrongFalsely : Prop := crcNoughtRow.holds Tryd.pinned (OpenSpec.ofChange crcNoughtWrong)

/-- 'astrolabelaw31.SampleTells': WHATEVER THE INPUT: true; the input reads as it did. -/
def sampleTellsSpec : ChangeSpec := { name := "sampleTells", fn := fun _ => fun
  | [d1, d2] => { results := [.lit (.bool true)], args := [d1, d2] }
  | _ => none }
def sampleTellsRow : OpenClaim := { program := "ytecbfegohdllbaadoor", sum := "2636e01a3548f6953143238e3a179d5dcdbdee87007e0ab7cacc89fae0238493", func := "astrolabe/astrolabelaw31.SampleTells", spec := "sampleTells", unfollowed := true, recurses := true, named := ["astrolabe/crc.four"], apart := false, laid := [("astrolabe/crc.four", laid_astrolabe_crc_four)] }
def SampleTellsSaid : Prop := sampleTellsRow.holds Tryd.pinned (OpenSpec.ofChange sampleTellsSpec)

/-- ITS FALSE NEIGHBOUR: 'it returns false'. Refute it at one input. -/
def sampleTellsWrong : ChangeSpec := { name := "sampleTells", fn := fun _ => fun
  | [d1, d2] => { results := [.lit (.bool false)], args := [d1, d2] }
  | _ => none }
def SampleTellsWrongFalsely : Prop := sampleTellsRow.holds Tryd.pinned (OpenSpec.ofChange sampleTellsWrong)

/-- 'astrolabelaw31.SampleBack': WHATEVER THE INPUT: true; the input reads as it did. -/
def sampleBackSpec : ChangeSpec := { name := "sampleBack", fn := fun _ => fun
  | [d1, d2, d3] => { results := [.lit (.bool true)], args := [d1, d2, d3] }
  | _ => none }
def sampleBackRow : OpenClaim := { program := "ytecbfegohdllbaadoor", sum := "2636e01a3548f6953143238e3a179d5dcdbdee87007e0ab7cacc89fae0238493", func := "astrolabe/astrolabelaw31.SampleBack", spec := "sampleBack", unfollowed := true, recurses := true, named := ["astrolabe/crc.four"], apart := false, laid := [("astrolabe/crc.four", laid_astrolabe_crc_four)] }
def SampleBackSaid : Prop := sampleBackRow.holds Tryd.pinned (OpenSpec.ofChange sampleBackSpec)

/-- ITS FALSE NEIGHBOUR: 'it returns false'. Refute it at one input. -/
def sampleBackWrong : ChangeSpec := { name := "sampleBack", fn := fun _ => fun
  | [d1, d2, d3] => { results := [.lit (.bool false)], args := [d1, d2, d3] }
  | _ => none }
def SampleBackWrongFalsely : Prop := sampleBackRow.holds Tryd.pinned (OpenSpec.ofChange sampleBackWrong)

/-- 'astrolabelaw31.SampleAgain': WHATEVER THE INPUT: true; the input reads as it did. -/
def sampleAgainSpec : ChangeSpec := { name := "sampleAgain", fn := fun _ => fun
  | [d] => { results := [.lit (.bool true)], args := [d] }
  | _ => none }
def sampleAgainRow : OpenClaim := { program := "ytecbfegohdllbaadoor", sum := "2636e01a3548f6953143238e3a179d5dcdbdee87007e0ab7cacc89fae0238493", func := "astrolabe/astrolabelaw31.SampleAgain", spec := "sampleAgain", unfollowed := true, recurses := true, named := ["astrolabe/crc.four"], apart := false, laid := [("astrolabe/crc.four", laid_astrolabe_crc_four)] }
def SampleAgainSaid : Prop := sampleAgainRow.holds Tryd.pinned (OpenSpec.ofChange sampleAgainSpec)

/-- ITS FALSE NEIGHBOUR: 'it returns false'. Refute it at one input. -/
def sampleAgainWrong : ChangeSpec := { name := "sampleAgain", fn := fun _ => fun
  | [d] => { results := [.lit (.bool false)], args := [d] }
  | _ => none }
def SampleAgainWrongFalsely : Prop := sampleAgainRow.holds Tryd.pinned (OpenSpec.ofChange sampleAgainWrong)

/-- 'astrolabelaw36.FrameTells': WHATEVER THE INPUT: true; the input reads as it did. -/
def frameTellsSpec : ChangeSpec := { name := "frameTells", fn := fun _ => fun
  | [d1, d2] => { results := [.lit (.bool true)], args := [d1, d2] }
  | _ => none }
def frameTellsRow : OpenClaim := { program := "ytecbfegohdllbaadoor", sum := "2636e01a3548f6953143238e3a179d5dcdbdee87007e0ab7cacc89fae0238493", func := "astrolabe/astrolabelaw36.FrameTells", spec := "frameTells", inPlace := ["internal/reflectlite.TypeOf"], unfollowed := true, recurses := true, named := ["astrolabe/frame.errRange", "astrolabe/crc.four", "astrolabe/frame.errForm"], apart := false, laid := [("astrolabe/crc.four", laid_astrolabe_crc_four), ("astrolabe/frame.errRange", laid_astrolabe_frame_errRange), ("astrolabe/frame.errForm", laid_astrolabe_frame_errForm)] }
def FrameTellsSaid : Prop := frameTellsRow.holds Tryd.pinned (OpenSpec.ofChange frameTellsSpec)

/-- ITS FALSE NEIGHBOUR: 'it returns false'. Refute it at one input. -/
def frameTellsWrong : ChangeSpec := { name := "frameTells", fn := fun _ => fun
  | [d1, d2] => { results := [.lit (.bool false)], args := [d1, d2] }
  | _ => none }
def FrameTellsWrongFalsely : Prop := frameTellsRow.holds Tryd.pinned (OpenSpec.ofChange frameTellsWrong)

/-- 'astrolabelaw36.FrameBack': WHATEVER THE INPUT: true; the input reads as it did. -/
def frameBackSpec : ChangeSpec := { name := "frameBack", fn := fun _ => fun
  | [d1, d2] => { results := [.lit (.bool true)], args := [d1, d2] }
  | _ => none }
def frameBackRow : OpenClaim := { program := "ytecbfegohdllbaadoor", sum := "2636e01a3548f6953143238e3a179d5dcdbdee87007e0ab7cacc89fae0238493", func := "astrolabe/astrolabelaw36.FrameBack", spec := "frameBack", inPlace := ["internal/reflectlite.TypeOf"], unfollowed := true, recurses := true, named := ["astrolabe/frame.errRange", "astrolabe/crc.four", "astrolabe/frame.errForm"], apart := false, laid := [("astrolabe/crc.four", laid_astrolabe_crc_four), ("astrolabe/frame.errRange", laid_astrolabe_frame_errRange), ("astrolabe/frame.errForm", laid_astrolabe_frame_errForm)] }
def FrameBackSaid : Prop := frameBackRow.holds Tryd.pinned (OpenSpec.ofChange frameBackSpec)

/-- ITS FALSE NEIGHBOUR: 'it returns false'. Refute it at one input. -/
def frameBackWrong : ChangeSpec := { name := "frameBack", fn := fun _ => fun
  | [d1, d2] => { results := [.lit (.bool false)], args := [d1, d2] }
  | _ => none }
def FrameBackWrongFalsely : Prop := frameBackRow.holds Tryd.pinned (OpenSpec.ofChange frameBackWrong)

/-- 'astrolabelaw36.FrameBursts': WHATEVER THE INPUT: true; the input reads as it did. -/
def frameBurstsSpec : ChangeSpec := { name := "frameBursts", fn := fun _ => fun
  | [d1, d2, d3] => { results := [.lit (.bool true)], args := [d1, d2, d3] }
  | _ => none }
def frameBurstsRow : OpenClaim := { program := "ytecbfegohdllbaadoor", sum := "2636e01a3548f6953143238e3a179d5dcdbdee87007e0ab7cacc89fae0238493", func := "astrolabe/astrolabelaw36.FrameBursts", spec := "frameBursts", inPlace := ["internal/reflectlite.TypeOf"], unfollowed := true, recurses := true, named := ["astrolabe/frame.errRange", "astrolabe/crc.four", "astrolabe/frame.errForm"], apart := false, laid := [("astrolabe/crc.four", laid_astrolabe_crc_four), ("astrolabe/frame.errRange", laid_astrolabe_frame_errRange), ("astrolabe/frame.errForm", laid_astrolabe_frame_errForm)] }
def FrameBurstsSaid : Prop := frameBurstsRow.holds Tryd.pinned (OpenSpec.ofChange frameBurstsSpec)

/-- ITS FALSE NEIGHBOUR: 'it returns false'. Refute it at one input. -/
def frameBurstsWrong : ChangeSpec := { name := "frameBursts", fn := fun _ => fun
  | [d1, d2, d3] => { results := [.lit (.bool false)], args := [d1, d2, d3] }
  | _ => none }
def FrameBurstsWrongFalsely : Prop := frameBurstsRow.holds Tryd.pinned (OpenSpec.ofChange frameBurstsWrong)

/-- 'astrolabelaw36.FrameForms': WHATEVER THE INPUT: true; the input reads as it did. -/
def frameFormsSpec : ChangeSpec := { name := "frameForms", fn := fun _ => fun
  | [d1, d2, d3] => { results := [.lit (.bool true)], args := [d1, d2, d3] }
  | _ => none }
def frameFormsRow : OpenClaim := { program := "ytecbfegohdllbaadoor", sum := "2636e01a3548f6953143238e3a179d5dcdbdee87007e0ab7cacc89fae0238493", func := "astrolabe/astrolabelaw36.FrameForms", spec := "frameForms", inPlace := ["internal/reflectlite.TypeOf"], unfollowed := true, recurses := true, named := ["astrolabe/frame.errRange", "astrolabe/crc.four", "astrolabe/frame.errForm"], apart := false, laid := [("astrolabe/crc.four", laid_astrolabe_crc_four), ("astrolabe/frame.errRange", laid_astrolabe_frame_errRange), ("astrolabe/frame.errForm", laid_astrolabe_frame_errForm)] }
def FrameFormsSaid : Prop := frameFormsRow.holds Tryd.pinned (OpenSpec.ofChange frameFormsSpec)

/-- ITS FALSE NEIGHBOUR: 'it returns false'. Refute it at one input. -/
def frameFormsWrong : ChangeSpec := { name := "frameForms", fn := fun _ => fun
  | [d1, d2, d3] => { results := [.lit (.bool false)], args := [d1, d2, d3] }
  | _ => none }
def FrameFormsWrongFalsely : Prop := frameFormsRow.holds Tryd.pinned (OpenSpec.ofChange frameFormsWrong)

/-- 'astrolabelaw46.StreamTells': WHATEVER THE INPUT: true; the input reads as it did. -/
def streamTellsSpec : ChangeSpec := { name := "streamTells", fn := fun _ => fun
  | [d] => { results := [.lit (.bool true)], args := [d] }
  | _ => none }
def streamTellsRow : OpenClaim := { program := "ytecbfegohdllbaadoor", sum := "2636e01a3548f6953143238e3a179d5dcdbdee87007e0ab7cacc89fae0238493", func := "astrolabe/astrolabelaw46.StreamTells", spec := "streamTells", inPlace := ["internal/reflectlite.TypeOf"], unfollowed := true, recurses := true, named := ["astrolabe/crc.four", "astrolabe/frame.errForm", "astrolabe/frame.errRange"], apart := false, laid := [("astrolabe/crc.four", laid_astrolabe_crc_four), ("astrolabe/frame.errRange", laid_astrolabe_frame_errRange), ("astrolabe/frame.errForm", laid_astrolabe_frame_errForm)] }
def StreamTellsSaid : Prop := streamTellsRow.holds Tryd.pinned (OpenSpec.ofChange streamTellsSpec)

/-- ITS FALSE NEIGHBOUR: 'it returns false'. Refute it at one input. -/
def streamTellsWrong : ChangeSpec := { name := "streamTells", fn := fun _ => fun
  | [d] => { results := [.lit (.bool false)], args := [d] }
  | _ => none }
def StreamTellsWrongFalsely : Prop := streamTellsRow.holds Tryd.pinned (OpenSpec.ofChange streamTellsWrong)

/-- 'astrolabelaw46.StreamCounts': WHATEVER THE INPUT: true; the input reads as it did. -/
def streamCountsSpec : ChangeSpec := { name := "streamCounts", fn := fun _ => fun
  | [d] => { results := [.lit (.bool true)], args := [d] }
  | _ => none }
def streamCountsRow : OpenClaim := { program := "ytecbfegohdllbaadoor", sum := "2636e01a3548f6953143238e3a179d5dcdbdee87007e0ab7cacc89fae0238493", func := "astrolabe/astrolabelaw46.StreamCounts", spec := "streamCounts", inPlace := ["internal/reflectlite.TypeOf"], unfollowed := true, recurses := true, named := ["astrolabe/crc.four", "astrolabe/frame.errForm", "astrolabe/frame.errRange"], apart := false, laid := [("astrolabe/crc.four", laid_astrolabe_crc_four), ("astrolabe/frame.errRange", laid_astrolabe_frame_errRange), ("astrolabe/frame.errForm", laid_astrolabe_frame_errForm)] }
def StreamCountsSaid : Prop := streamCountsRow.holds Tryd.pinned (OpenSpec.ofChange streamCountsSpec)

/-- ITS FALSE NEIGHBOUR: 'it returns false'. Refute it at one input. -/
def streamCountsWrong : ChangeSpec := { name := "streamCounts", fn := fun _ => fun
  | [d] => { results := [.lit (.bool false)], args := [d] }
  | _ => none }
def StreamCountsWrongFalsely : Prop := streamCountsRow.holds Tryd.pinned (OpenSpec.ofChange streamCountsWrong)

/-- 'astrolabelaw46.StreamFinds': WHATEVER THE INPUT: true; the input reads as it did. -/
def streamFindsSpec : ChangeSpec := { name := "streamFinds", fn := fun _ => fun
  | [d1, d2] => { results := [.lit (.bool true)], args := [d1, d2] }
  | _ => none }
def streamFindsRow : OpenClaim := { program := "ytecbfegohdllbaadoor", sum := "2636e01a3548f6953143238e3a179d5dcdbdee87007e0ab7cacc89fae0238493", func := "astrolabe/astrolabelaw46.StreamFinds", spec := "streamFinds", inPlace := ["internal/reflectlite.TypeOf"], unfollowed := true, recurses := true, named := ["astrolabe/crc.four", "astrolabe/frame.errForm", "astrolabe/frame.errRange"], apart := false, laid := [("astrolabe/crc.four", laid_astrolabe_crc_four), ("astrolabe/frame.errRange", laid_astrolabe_frame_errRange), ("astrolabe/frame.errForm", laid_astrolabe_frame_errForm)] }
def StreamFindsSaid : Prop := streamFindsRow.holds Tryd.pinned (OpenSpec.ofChange streamFindsSpec)

/-- ITS FALSE NEIGHBOUR: 'it returns false'. Refute it at one input. -/
def streamFindsWrong : ChangeSpec := { name := "streamFinds", fn := fun _ => fun
  | [d1, d2] => { results := [.lit (.bool false)], args := [d1, d2] }
  | _ => none }
def StreamFindsWrongFalsely : Prop := streamFindsRow.holds Tryd.pinned (OpenSpec.ofChange streamFindsWrong)

/-- 'astrolabelaw47.LogPlays': WHATEVER THE INPUT: true; the input reads as it did. -/
def logPlaysSpec : ChangeSpec := { name := "logPlays", fn := fun _ => fun
  | [d1, d2, d3] => { results := [.lit (.bool true)], args := [d1, d2, d3] }
  | _ => none }
def logPlaysRow : OpenClaim := { program := "ytecbfegohdllbaadoor", sum := "2636e01a3548f6953143238e3a179d5dcdbdee87007e0ab7cacc89fae0238493", func := "astrolabe/astrolabelaw47.LogPlays", spec := "logPlays", inPlace := ["internal/reflectlite.TypeOf"], unfollowed := true, recurses := true, named := ["astrolabe/frame.errRange", "astrolabe/crc.four"], apart := false, laid := [("astrolabe/crc.four", laid_astrolabe_crc_four), ("astrolabe/frame.errRange", laid_astrolabe_frame_errRange)] }
def LogPlaysSaid : Prop := logPlaysRow.holds Tryd.pinned (OpenSpec.ofChange logPlaysSpec)

/-- ITS FALSE NEIGHBOUR: 'it returns false'. Refute it at one input. -/
def logPlaysWrong : ChangeSpec := { name := "logPlays", fn := fun _ => fun
  | [d1, d2, d3] => { results := [.lit (.bool false)], args := [d1, d2, d3] }
  | _ => none }
def LogPlaysWrongFalsely : Prop := logPlaysRow.holds Tryd.pinned (OpenSpec.ofChange logPlaysWrong)

/-- 'astrolabelaw47.LogLast': WHATEVER THE INPUT: true; the input reads as it did. -/
def logLastSpec : ChangeSpec := { name := "logLast", fn := fun _ => fun
  | [d1, d2] => { results := [.lit (.bool true)], args := [d1, d2] }
  | _ => none }
def logLastRow : OpenClaim := { program := "ytecbfegohdllbaadoor", sum := "2636e01a3548f6953143238e3a179d5dcdbdee87007e0ab7cacc89fae0238493", func := "astrolabe/astrolabelaw47.LogLast", spec := "logLast", inPlace := ["internal/reflectlite.TypeOf"], unfollowed := true, recurses := true, named := ["astrolabe/frame.errRange", "astrolabe/crc.four"], apart := false, laid := [("astrolabe/crc.four", laid_astrolabe_crc_four), ("astrolabe/frame.errRange", laid_astrolabe_frame_errRange)] }
def LogLastSaid : Prop := logLastRow.holds Tryd.pinned (OpenSpec.ofChange logLastSpec)

/-- ITS FALSE NEIGHBOUR: 'it returns false'. Refute it at one input. -/
def logLastWrong : ChangeSpec := { name := "logLast", fn := fun _ => fun
  | [d1, d2] => { results := [.lit (.bool false)], args := [d1, d2] }
  | _ => none }
def LogLastWrongFalsely : Prop := logLastRow.holds Tryd.pinned (OpenSpec.ofChange logLastWrong)

/-- 'astrolabelaw47.LogBack': WHATEVER THE INPUT: true; the input reads as it did. -/
def logBackSpec : ChangeSpec := { name := "logBack", fn := fun _ => fun
  | [d1, d2, d3, d4] => { results := [.lit (.bool true)], args := [d1, d2, d3, d4] }
  | _ => none }
def logBackRow : OpenClaim := { program := "ytecbfegohdllbaadoor", sum := "2636e01a3548f6953143238e3a179d5dcdbdee87007e0ab7cacc89fae0238493", func := "astrolabe/astrolabelaw47.LogBack", spec := "logBack", inPlace := ["internal/reflectlite.TypeOf"], unfollowed := true, recurses := true, named := ["astrolabe/frame.errRange", "astrolabe/crc.four", "astrolabe/frame.errForm"], apart := false, laid := [("astrolabe/crc.four", laid_astrolabe_crc_four), ("astrolabe/frame.errRange", laid_astrolabe_frame_errRange), ("astrolabe/frame.errForm", laid_astrolabe_frame_errForm)] }
def LogBackSaid : Prop := logBackRow.holds Tryd.pinned (OpenSpec.ofChange logBackSpec)

/-- ITS FALSE NEIGHBOUR: 'it returns false'. Refute it at one input. -/
def logBackWrong : ChangeSpec := { name := "logBack", fn := fun _ => fun
  | [d1, d2, d3, d4] => { results := [.lit (.bool false)], args := [d1, d2, d3, d4] }
  | _ => none }
def LogBackWrongFalsely : Prop := logBackRow.holds Tryd.pinned (OpenSpec.ofChange logBackWrong)

/- THE SECOND FORM. 'bulk': how many values and letters a reading holds, each counted each time it is reached (what is shared counts as often as it is met; a slice's spare places count too). A statement '..UptoSaid' is the law's where the arguments, and the package variables that the reading takes, are together of bulk at most 1048576: NARROWER than '..Said'. Prove '..Said' where nothing that the law and all that it calls make is longer than what came in: it says more and counts as full. Else prove '..UptoSaid'. A law counts once. -/
mutual
def uptoBulk {H : Type} : DataW H → Nat
  | .lit (.string bytes) => bytes.length + 1
  | .lit _ => 1
  | .nil => 1
  | .ptr d => uptoBulk d + 1
  | .slice elems spare => uptoBulkAll elems + uptoBulkAll spare + 1
  | .agg parts => uptoBulkAll parts + 1
  | .iface _ d => uptoBulk d + 1
  | .map entries => uptoBulkEntries entries + 1
  | .held _ => 1
def uptoBulkAll {H : Type} : List (DataW H) → Nat
  | [] => 0
  | d :: r => uptoBulk d + uptoBulkAll r
def uptoBulkEntries {H : Type} : List (Lit × DataW H) → Nat
  | [] => 0
  | x :: r => uptoBulkEntry x + uptoBulkEntries r
def uptoBulkEntry {H : Type} : Lit × DataW H → Nat
  | (.string bytes, d) => bytes.length + uptoBulk d + 1
  | (_, d) => uptoBulk d + 1
 end
def uptoSmall : (H : Type) → List (DataW H) → Bool := fun _ ds => decide (uptoBulkAll ds ≤ 1048576)
def OpenSpec.upto (s : _root_.Go.ChangeSpec) : _root_.Go.OpenSpec := { _root_.Go.OpenSpec.ofChange s with cond := some uptoSmall }

/-- 'astrolabelaw11.CrcJoins', WHERE WHAT IT READS IS OF BULK AT MOST 1048576: true; the input reads as it did. -/
def crcJoinsUptoRow : OpenClaim := { program := "ytecbfegohdllbaadoor", sum := "2636e01a3548f6953143238e3a179d5dcdbdee87007e0ab7cacc89fae0238493", func := "astrolabe/astrolabelaw11.CrcJoins", spec := "crcJoins", unfollowed := true, recurses := true, named := ["astrolabe/crc.four"], apart := false, laid := [("astrolabe/crc.four", laid_astrolabe_crc_four)], narrowed := true }
def CrcJoinsUptoSaid : Prop := crcJoinsUptoRow.holds Tryd.pinned (OpenSpec.upto crcJoinsSpec)

/-- 'astrolabelaw11.CrcTells', WHERE WHAT IT READS IS OF BULK AT MOST 1048576: true; the input reads as it did. -/
def crcTellsUptoRow : OpenClaim := { program := "ytecbfegohdllbaadoor", sum := "2636e01a3548f6953143238e3a179d5dcdbdee87007e0ab7cacc89fae0238493", func := "astrolabe/astrolabelaw11.CrcTells", spec := "crcTells", unfollowed := true, recurses := true, named := ["astrolabe/crc.four"], apart := false, laid := [("astrolabe/crc.four", laid_astrolabe_crc_four)], narrowed := true }
def CrcTellsUptoSaid : Prop := crcTellsUptoRow.holds Tryd.pinned (OpenSpec.upto crcTellsSpec)

/-- 'astrolabelaw11.CrcBursts', WHERE WHAT IT READS IS OF BULK AT MOST 1048576: true; the input reads as it did. -/
def crcBurstsUptoRow : OpenClaim := { program := "ytecbfegohdllbaadoor", sum := "2636e01a3548f6953143238e3a179d5dcdbdee87007e0ab7cacc89fae0238493", func := "astrolabe/astrolabelaw11.CrcBursts", spec := "crcBursts", unfollowed := true, recurses := true, named := ["astrolabe/crc.four"], apart := false, laid := [("astrolabe/crc.four", laid_astrolabe_crc_four)], narrowed := true }
def CrcBurstsUptoSaid : Prop := crcBurstsUptoRow.holds Tryd.pinned (OpenSpec.upto crcBurstsSpec)

/-- 'astrolabelaw11.CrcNought', WHERE WHAT IT READS IS OF BULK AT MOST 1048576: true; the input reads as it did. -/
def crcNoughtUptoRow : OpenClaim := { program := "ytecbfegohdllbaadoor", sum := "2636e01a3548f6953143238e3a179d5dcdbdee87007e0ab7cacc89fae0238493", func := "astrolabe/astrolabelaw11.CrcNought", spec := "crcNought", unfollowed := true, recurses := true, named := ["astrolabe/crc.four"], apart := false, laid := [("astrolabe/crc.four", laid_astrolabe_crc_four)], narrowed := true }
def CrcNoughtUptoSaid : Prop := crcNoughtUptoRow.holds Tryd.pinned (OpenSpec.upto crcNoughtSpec)

/-- 'astrolabelaw31.SampleTells', WHERE WHAT IT READS IS OF BULK AT MOST 1048576: true; the input reads as it did. -/
def sampleTellsUptoRow : OpenClaim := { program := "ytecbfegohdllbaadoor", sum := "2636e01a3548f6953143238e3a179d5dcdbdee87007e0ab7cacc89fae0238493", func := "astrolabe/astrolabelaw31.SampleTells", spec := "sampleTells", unfollowed := true, recurses := true, named := ["astrolabe/crc.four"], apart := false, laid := [("astrolabe/crc.four", laid_astrolabe_crc_four)], narrowed := true }
def SampleTellsUptoSaid : Prop := sampleTellsUptoRow.holds Tryd.pinned (OpenSpec.upto sampleTellsSpec)

/-- 'astrolabelaw31.SampleBack', WHERE WHAT IT READS IS OF BULK AT MOST 1048576: true; the input reads as it did. -/
def sampleBackUptoRow : OpenClaim := { program := "ytecbfegohdllbaadoor", sum := "2636e01a3548f6953143238e3a179d5dcdbdee87007e0ab7cacc89fae0238493", func := "astrolabe/astrolabelaw31.SampleBack", spec := "sampleBack", unfollowed := true, recurses := true, named := ["astrolabe/crc.four"], apart := false, laid := [("astrolabe/crc.four", laid_astrolabe_crc_four)], narrowed := true }
def SampleBackUptoSaid : Prop := sampleBackUptoRow.holds Tryd.pinned (OpenSpec.upto sampleBackSpec)

/-- 'astrolabelaw31.SampleAgain', WHERE WHAT IT READS IS OF BULK AT MOST 1048576: true; the input reads as it did. -/
def sampleAgainUptoRow : OpenClaim := { program := "ytecbfegohdllbaadoor", sum := "2636e01a3548f6953143238e3a179d5dcdbdee87007e0ab7cacc89fae0238493", func := "astrolabe/astrolabelaw31.SampleAgain", spec := "sampleAgain", unfollowed := true, recurses := true, named := ["astrolabe/crc.four"], apart := false, laid := [("astrolabe/crc.four", laid_astrolabe_crc_four)], narrowed := true }
def SampleAgainUptoSaid : Prop := sampleAgainUptoRow.holds Tryd.pinned (OpenSpec.upto sampleAgainSpec)

/-- 'astrolabelaw36.FrameTells', WHERE WHAT IT READS IS OF BULK AT MOST 1048576: true; the input reads as it did. -/
def frameTellsUptoRow : OpenClaim := { program := "ytecbfegohdllbaadoor", sum := "2636e01a3548f6953143238e3a179d5dcdbdee87007e0ab7cacc89fae0238493", func := "astrolabe/astrolabelaw36.FrameTells", spec := "frameTells", inPlace := ["internal/reflectlite.TypeOf"], unfollowed := true, recurses := true, named := ["astrolabe/frame.errRange", "astrolabe/crc.four", "astrolabe/frame.errForm"], apart := false, laid := [("astrolabe/crc.four", laid_astrolabe_crc_four), ("astrolabe/frame.errRange", laid_astrolabe_frame_errRange), ("astrolabe/frame.errForm", laid_astrolabe_frame_errForm)], narrowed := true }
def FrameTellsUptoSaid : Prop := frameTellsUptoRow.holds Tryd.pinned (OpenSpec.upto frameTellsSpec)

/-- 'astrolabelaw36.FrameBack', WHERE WHAT IT READS IS OF BULK AT MOST 1048576: true; the input reads as it did. -/
def frameBackUptoRow : OpenClaim := { program := "ytecbfegohdllbaadoor", sum := "2636e01a3548f6953143238e3a179d5dcdbdee87007e0ab7cacc89fae0238493", func := "astrolabe/astrolabelaw36.FrameBack", spec := "frameBack", inPlace := ["internal/reflectlite.TypeOf"], unfollowed := true, recurses := true, named := ["astrolabe/frame.errRange", "astrolabe/crc.four", "astrolabe/frame.errForm"], apart := false, laid := [("astrolabe/crc.four", laid_astrolabe_crc_four), ("astrolabe/frame.errRange", laid_astrolabe_frame_errRange), ("astrolabe/frame.errForm", laid_astrolabe_frame_errForm)], narrowed := true }
def FrameBackUptoSaid : Prop := frameBackUptoRow.holds Tryd.pinned (OpenSpec.upto frameBackSpec)

/-- 'astrolabelaw36.FrameBursts', WHERE WHAT IT READS IS OF BULK AT MOST 1048576: true; the input reads as it did. -/
def frameBurstsUptoRow : OpenClaim := { program := "ytecbfegohdllbaadoor", sum := "2636e01a3548f6953143238e3a179d5dcdbdee87007e0ab7cacc89fae0238493", func := "astrolabe/astrolabelaw36.FrameBursts", spec := "frameBursts", inPlace := ["internal/reflectlite.TypeOf"], unfollowed := true, recurses := true, named := ["astrolabe/frame.errRange", "astrolabe/crc.four", "astrolabe/frame.errForm"], apart := false, laid := [("astrolabe/crc.four", laid_astrolabe_crc_four), ("astrolabe/frame.errRange", laid_astrolabe_frame_errRange), ("astrolabe/frame.errForm", laid_astrolabe_frame_errForm)], narrowed := true }
def FrameBurstsUptoSaid : Prop := frameBurstsUptoRow.holds Tryd.pinned (OpenSpec.upto frameBurstsSpec)

/-- 'astrolabelaw36.FrameForms', WHERE WHAT IT READS IS OF BULK AT MOST 1048576: true; the input reads as it did. -/
def frameFormsUptoRow : OpenClaim := { program := "ytecbfegohdllbaadoor", sum := "2636e01a3548f6953143238e3a179d5dcdbdee87007e0ab7cacc89fae0238493", func := "astrolabe/astrolabelaw36.FrameForms", spec := "frameForms", inPlace := ["internal/reflectlite.TypeOf"], unfollowed := true, recurses := true, named := ["astrolabe/frame.errRange", "astrolabe/crc.four", "astrolabe/frame.errForm"], apart := false, laid := [("astrolabe/crc.four", laid_astrolabe_crc_four), ("astrolabe/frame.errRange", laid_astrolabe_frame_errRange), ("astrolabe/frame.errForm", laid_astrolabe_frame_errForm)], narrowed := true }
def FrameFormsUptoSaid : Prop := frameFormsUptoRow.holds Tryd.pinned (OpenSpec.upto frameFormsSpec)

/-- 'astrolabelaw46.StreamTells', WHERE WHAT IT READS IS OF BULK AT MOST 1048576: true; the input reads as it did. -/
def streamTellsUptoRow : OpenClaim := { program := "ytecbfegohdllbaadoor", sum := "2636e01a3548f6953143238e3a179d5dcdbdee87007e0ab7cacc89fae0238493", func := "astrolabe/astrolabelaw46.StreamTells", spec := "streamTells", inPlace := ["internal/reflectlite.TypeOf"], unfollowed := true, recurses := true, named := ["astrolabe/crc.four", "astrolabe/frame.errForm", "astrolabe/frame.errRange"], apart := false, laid := [("astrolabe/crc.four", laid_astrolabe_crc_four), ("astrolabe/frame.errRange", laid_astrolabe_frame_errRange), ("astrolabe/frame.errForm", laid_astrolabe_frame_errForm)], narrowed := true }
def StreamTellsUptoSaid : Prop := streamTellsUptoRow.holds Tryd.pinned (OpenSpec.upto streamTellsSpec)

/-- 'astrolabelaw46.StreamCounts', WHERE WHAT IT READS IS OF BULK AT MOST 1048576: true; the input reads as it did. -/
def streamCountsUptoRow : OpenClaim := { program := "ytecbfegohdllbaadoor", sum := "2636e01a3548f6953143238e3a179d5dcdbdee87007e0ab7cacc89fae0238493", func := "astrolabe/astrolabelaw46.StreamCounts", spec := "streamCounts", inPlace := ["internal/reflectlite.TypeOf"], unfollowed := true, recurses := true, named := ["astrolabe/crc.four", "astrolabe/frame.errForm", "astrolabe/frame.errRange"], apart := false, laid := [("astrolabe/crc.four", laid_astrolabe_crc_four), ("astrolabe/frame.errRange", laid_astrolabe_frame_errRange), ("astrolabe/frame.errForm", laid_astrolabe_frame_errForm)], narrowed := true }
def StreamCountsUptoSaid : Prop := streamCountsUptoRow.holds Tryd.pinned (OpenSpec.upto streamCountsSpec)

/-- 'astrolabelaw46.StreamFinds', WHERE WHAT IT READS IS OF BULK AT MOST 1048576: true; the input reads as it did. -/
def streamFindsUptoRow : OpenClaim := { program := "ytecbfegohdllbaadoor", sum := "2636e01a3548f6953143238e3a179d5dcdbdee87007e0ab7cacc89fae0238493", func := "astrolabe/astrolabelaw46.StreamFinds", spec := "streamFinds", inPlace := ["internal/reflectlite.TypeOf"], unfollowed := true, recurses := true, named := ["astrolabe/crc.four", "astrolabe/frame.errForm", "astrolabe/frame.errRange"], apart := false, laid := [("astrolabe/crc.four", laid_astrolabe_crc_four), ("astrolabe/frame.errRange", laid_astrolabe_frame_errRange), ("astrolabe/frame.errForm", laid_astrolabe_frame_errForm)], narrowed := true }
def StreamFindsUptoSaid : Prop := streamFindsUptoRow.holds Tryd.pinned (OpenSpec.upto streamFindsSpec)

/-- 'astrolabelaw47.LogPlays', WHERE WHAT IT READS IS OF BULK AT MOST 1048576: true; the input reads as it did. -/
def logPlaysUptoRow : OpenClaim := { program := "ytecbfegohdllbaadoor", sum := "2636e01a3548f6953143238e3a179d5dcdbdee87007e0ab7cacc89fae0238493", func := "astrolabe/astrolabelaw47.LogPlays", spec := "logPlays", inPlace := ["internal/reflectlite.TypeOf"], unfollowed := true, recurses := true, named := ["astrolabe/frame.errRange", "astrolabe/crc.four"], apart := false, laid := [("astrolabe/crc.four", laid_astrolabe_crc_four), ("astrolabe/frame.errRange", laid_astrolabe_frame_errRange)], narrowed := true }
def LogPlaysUptoSaid : Prop := logPlaysUptoRow.holds Tryd.pinned (OpenSpec.upto logPlaysSpec)

/-- 'astrolabelaw47.LogLast', WHERE WHAT IT READS IS OF BULK AT MOST 1048576: true; the input reads as it did. -/
def logLastUptoRow : OpenClaim := { program := "ytecbfegohdllbaadoor", sum := "2636e01a3548f6953143238e3a179d5dcdbdee87007e0ab7cacc89fae0238493", func := "astrolabe/astrolabelaw47.LogLast", spec := "logLast", inPlace := ["internal/reflectlite.TypeOf"], unfollowed := true, recurses := true, named := ["astrolabe/frame.errRange", "astrolabe/crc.four"], apart := false, laid := [("astrolabe/crc.four", laid_astrolabe_crc_four), ("astrolabe/frame.errRange", laid_astrolabe_frame_errRange)], narrowed := true }
def LogLastUptoSaid : Prop := logLastUptoRow.holds Tryd.pinned (OpenSpec.upto logLastSpec)

/-- 'astrolabelaw47.LogBack', WHERE WHAT IT READS IS OF BULK AT MOST 1048576: true; the input reads as it did. -/
def logBackUptoRow : OpenClaim := { program := "ytecbfegohdllbaadoor", sum := "2636e01a3548f6953143238e3a179d5dcdbdee87007e0ab7cacc89fae0238493", func := "astrolabe/astrolabelaw47.LogBack", spec := "logBack", inPlace := ["internal/reflectlite.TypeOf"], unfollowed := true, recurses := true, named := ["astrolabe/frame.errRange", "astrolabe/crc.four", "astrolabe/frame.errForm"], apart := false, laid := [("astrolabe/crc.four", laid_astrolabe_crc_four), ("astrolabe/frame.errRange", laid_astrolabe_frame_errRange), ("astrolabe/frame.errForm", laid_astrolabe_frame_errForm)], narrowed := true }
def LogBackUptoSaid : Prop := logBackUptoRow.holds Tryd.pinned (OpenSpec.upto logBackSpec)

end Rows
end Go.Proofs.YtecbfegohdllbaaDoor
