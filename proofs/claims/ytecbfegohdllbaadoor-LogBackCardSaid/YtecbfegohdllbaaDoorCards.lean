/-
  DERIVED. GIVEN WITH THE SEED: THE CARDS: each row of YtecbfegohdllbaaDoorRows.lean that lists a variable, with what it lists TIED to the program's text (the seventh form; the later family's looks); each row that meets fmt, with fmt's text TOLD by the authors' own Lean function (tested against real Go, not proved from fmt's source: count such statements apart). THE CARD IS WHAT COUNTS. Prove the row's statement (the work); the ties are given (YtecbfegohdllbaaDoorTie.lean); close each card by the builder's one call (the guide's Derived/Test/ToyasCard.lean, 'card_holds'). Laid BY PROGRAM, IN A SANDBOX (cutbox-door.mjs). By AI agents, Wed Nov 11 2026. No macro, syntax, notation, axiom, sorry.
-/
import Derived.Test.YtecbfegohdllbaaDoorRows
import GoSem.ClaimSeven
namespace Go.Proofs.YtecbfegohdllbaaDoor
namespace Rows

/-- THE TIED CARD OF 'astrolabelaw11.CrcJoins'. -/
def crcJoinsCard : Claim7 := { stood := { row := crcJoinsRow, standIns := [], harness := (true, "1f0492c8182d93db53665745cde7f5d86d7d31c964c8bf1d421ba974072b8212"), looks := true }, kinds := [], alts := [], laidByText := true, laidKinds := [.data], laidTests := true, laidLooks := .later }
def CrcJoinsCardSaid : Prop := Claim7.holds Tryd.pinned (.plain (OpenSpec.ofChange crcJoinsSpec)) crcJoinsCard

/-- THE TIED CARD OF 'astrolabelaw11.CrcTells'. -/
def crcTellsCard : Claim7 := { stood := { row := crcTellsRow, standIns := [], harness := (true, "1f0492c8182d93db53665745cde7f5d86d7d31c964c8bf1d421ba974072b8212"), looks := true }, kinds := [], alts := [], laidByText := true, laidKinds := [.data], laidTests := true, laidLooks := .later }
def CrcTellsCardSaid : Prop := Claim7.holds Tryd.pinned (.plain (OpenSpec.ofChange crcTellsSpec)) crcTellsCard

/-- THE TIED CARD OF 'astrolabelaw11.CrcBursts'. -/
def crcBurstsCard : Claim7 := { stood := { row := crcBurstsRow, standIns := [], harness := (true, "1f0492c8182d93db53665745cde7f5d86d7d31c964c8bf1d421ba974072b8212"), looks := true }, kinds := [], alts := [], laidByText := true, laidKinds := [.data], laidTests := true, laidLooks := .later }
def CrcBurstsCardSaid : Prop := Claim7.holds Tryd.pinned (.plain (OpenSpec.ofChange crcBurstsSpec)) crcBurstsCard

/-- THE TIED CARD OF 'astrolabelaw11.CrcNought'. -/
def crcNoughtCard : Claim7 := { stood := { row := crcNoughtRow, standIns := [], harness := (true, "1f0492c8182d93db53665745cde7f5d86d7d31c964c8bf1d421ba974072b8212"), looks := true }, kinds := [], alts := [], laidByText := true, laidKinds := [.data], laidTests := true, laidLooks := .later }
def CrcNoughtCardSaid : Prop := Claim7.holds Tryd.pinned (.plain (OpenSpec.ofChange crcNoughtSpec)) crcNoughtCard

/-- THE TIED CARD OF 'astrolabelaw31.SampleTells'. -/
def sampleTellsCard : Claim7 := { stood := { row := sampleTellsRow, standIns := [], harness := (true, "1f0492c8182d93db53665745cde7f5d86d7d31c964c8bf1d421ba974072b8212"), looks := true }, kinds := [], alts := [], laidByText := true, laidKinds := [.data], laidTests := true, laidLooks := .later }
def SampleTellsCardSaid : Prop := Claim7.holds Tryd.pinned (.plain (OpenSpec.ofChange sampleTellsSpec)) sampleTellsCard

/-- THE TIED CARD OF 'astrolabelaw31.SampleBack'. -/
def sampleBackCard : Claim7 := { stood := { row := sampleBackRow, standIns := [], harness := (true, "1f0492c8182d93db53665745cde7f5d86d7d31c964c8bf1d421ba974072b8212"), looks := true }, kinds := [], alts := [], laidByText := true, laidKinds := [.data], laidTests := true, laidLooks := .later }
def SampleBackCardSaid : Prop := Claim7.holds Tryd.pinned (.plain (OpenSpec.ofChange sampleBackSpec)) sampleBackCard

/-- THE TIED CARD OF 'astrolabelaw31.SampleAgain'. -/
def sampleAgainCard : Claim7 := { stood := { row := sampleAgainRow, standIns := [], harness := (true, "1f0492c8182d93db53665745cde7f5d86d7d31c964c8bf1d421ba974072b8212"), looks := true }, kinds := [], alts := [], laidByText := true, laidKinds := [.data], laidTests := true, laidLooks := .later }
def SampleAgainCardSaid : Prop := Claim7.holds Tryd.pinned (.plain (OpenSpec.ofChange sampleAgainSpec)) sampleAgainCard

/-- THE TIED CARD OF 'astrolabelaw36.FrameTells'. -/
def frameTellsCard : Claim7 := { stood := { row := frameTellsRow, standIns := [], harness := (true, "1f0492c8182d93db53665745cde7f5d86d7d31c964c8bf1d421ba974072b8212"), looks := true }, kinds := [], alts := [], laidByText := true, laidKinds := [.data, .sentinel, .sentinel], laidTests := true, laidLooks := .later }
def FrameTellsCardSaid : Prop := Claim7.holds Tryd.pinned (.plain (OpenSpec.ofChange frameTellsSpec)) frameTellsCard

/-- THE TIED CARD OF 'astrolabelaw36.FrameBack'. -/
def frameBackCard : Claim7 := { stood := { row := frameBackRow, standIns := [], harness := (true, "1f0492c8182d93db53665745cde7f5d86d7d31c964c8bf1d421ba974072b8212"), looks := true }, kinds := [], alts := [], laidByText := true, laidKinds := [.data, .sentinel, .sentinel], laidTests := true, laidLooks := .later }
def FrameBackCardSaid : Prop := Claim7.holds Tryd.pinned (.plain (OpenSpec.ofChange frameBackSpec)) frameBackCard

/-- THE TIED CARD OF 'astrolabelaw36.FrameBursts'. -/
def frameBurstsCard : Claim7 := { stood := { row := frameBurstsRow, standIns := [], harness := (true, "1f0492c8182d93db53665745cde7f5d86d7d31c964c8bf1d421ba974072b8212"), looks := true }, kinds := [], alts := [], laidByText := true, laidKinds := [.data, .sentinel, .sentinel], laidTests := true, laidLooks := .later }
def FrameBurstsCardSaid : Prop := Claim7.holds Tryd.pinned (.plain (OpenSpec.ofChange frameBurstsSpec)) frameBurstsCard

/-- THE TIED CARD OF 'astrolabelaw36.FrameForms'. -/
def frameFormsCard : Claim7 := { stood := { row := frameFormsRow, standIns := [], harness := (true, "1f0492c8182d93db53665745cde7f5d86d7d31c964c8bf1d421ba974072b8212"), looks := true }, kinds := [], alts := [], laidByText := true, laidKinds := [.data, .sentinel, .sentinel], laidTests := true, laidLooks := .later }
def FrameFormsCardSaid : Prop := Claim7.holds Tryd.pinned (.plain (OpenSpec.ofChange frameFormsSpec)) frameFormsCard

/-- THE TIED CARD OF 'astrolabelaw46.StreamTells'. -/
def streamTellsCard : Claim7 := { stood := { row := streamTellsRow, standIns := [], harness := (true, "1f0492c8182d93db53665745cde7f5d86d7d31c964c8bf1d421ba974072b8212"), looks := true }, kinds := [], alts := [], laidByText := true, laidKinds := [.data, .sentinel, .sentinel], laidTests := true, laidLooks := .later }
def StreamTellsCardSaid : Prop := Claim7.holds Tryd.pinned (.plain (OpenSpec.ofChange streamTellsSpec)) streamTellsCard

/-- THE TIED CARD OF 'astrolabelaw46.StreamCounts'. -/
def streamCountsCard : Claim7 := { stood := { row := streamCountsRow, standIns := [], harness := (true, "1f0492c8182d93db53665745cde7f5d86d7d31c964c8bf1d421ba974072b8212"), looks := true }, kinds := [], alts := [], laidByText := true, laidKinds := [.data, .sentinel, .sentinel], laidTests := true, laidLooks := .later }
def StreamCountsCardSaid : Prop := Claim7.holds Tryd.pinned (.plain (OpenSpec.ofChange streamCountsSpec)) streamCountsCard

/-- THE TIED CARD OF 'astrolabelaw46.StreamFinds'. -/
def streamFindsCard : Claim7 := { stood := { row := streamFindsRow, standIns := [], harness := (true, "1f0492c8182d93db53665745cde7f5d86d7d31c964c8bf1d421ba974072b8212"), looks := true }, kinds := [], alts := [], laidByText := true, laidKinds := [.data, .sentinel, .sentinel], laidTests := true, laidLooks := .later }
def StreamFindsCardSaid : Prop := Claim7.holds Tryd.pinned (.plain (OpenSpec.ofChange streamFindsSpec)) streamFindsCard

/-- THE TIED CARD OF 'astrolabelaw47.LogPlays'. -/
def logPlaysCard : Claim7 := { stood := { row := logPlaysRow, standIns := [], harness := (true, "1f0492c8182d93db53665745cde7f5d86d7d31c964c8bf1d421ba974072b8212"), looks := true }, kinds := [], alts := [], laidByText := true, laidKinds := [.data, .sentinel], laidTests := true, laidLooks := .later }
def LogPlaysCardSaid : Prop := Claim7.holds Tryd.pinned (.plain (OpenSpec.ofChange logPlaysSpec)) logPlaysCard

/-- THE TIED CARD OF 'astrolabelaw47.LogLast'. -/
def logLastCard : Claim7 := { stood := { row := logLastRow, standIns := [], harness := (true, "1f0492c8182d93db53665745cde7f5d86d7d31c964c8bf1d421ba974072b8212"), looks := true }, kinds := [], alts := [], laidByText := true, laidKinds := [.data, .sentinel], laidTests := true, laidLooks := .later }
def LogLastCardSaid : Prop := Claim7.holds Tryd.pinned (.plain (OpenSpec.ofChange logLastSpec)) logLastCard

/-- THE TIED CARD OF 'astrolabelaw47.LogBack'. -/
def logBackCard : Claim7 := { stood := { row := logBackRow, standIns := [], harness := (true, "1f0492c8182d93db53665745cde7f5d86d7d31c964c8bf1d421ba974072b8212"), looks := true }, kinds := [], alts := [], laidByText := true, laidKinds := [.data, .sentinel, .sentinel], laidTests := true, laidLooks := .later }
def LogBackCardSaid : Prop := Claim7.holds Tryd.pinned (.plain (OpenSpec.ofChange logBackSpec)) logBackCard

/-- THE SECOND FORM's CARD OF 'astrolabelaw11.CrcJoins'. -/
def crcJoinsUptoCard : Claim7 := { stood := { row := crcJoinsUptoRow, standIns := [], harness := (true, "1f0492c8182d93db53665745cde7f5d86d7d31c964c8bf1d421ba974072b8212"), looks := true }, kinds := [], alts := [], laidByText := true, laidKinds := [.data], laidTests := true, laidLooks := .later }
def CrcJoinsUptoCardSaid : Prop := Claim7.holds Tryd.pinned (.plain (OpenSpec.upto crcJoinsSpec)) crcJoinsUptoCard

/-- THE SECOND FORM's CARD OF 'astrolabelaw11.CrcTells'. -/
def crcTellsUptoCard : Claim7 := { stood := { row := crcTellsUptoRow, standIns := [], harness := (true, "1f0492c8182d93db53665745cde7f5d86d7d31c964c8bf1d421ba974072b8212"), looks := true }, kinds := [], alts := [], laidByText := true, laidKinds := [.data], laidTests := true, laidLooks := .later }
def CrcTellsUptoCardSaid : Prop := Claim7.holds Tryd.pinned (.plain (OpenSpec.upto crcTellsSpec)) crcTellsUptoCard

/-- THE SECOND FORM's CARD OF 'astrolabelaw11.CrcBursts'. -/
def crcBurstsUptoCard : Claim7 := { stood := { row := crcBurstsUptoRow, standIns := [], harness := (true, "1f0492c8182d93db53665745cde7f5d86d7d31c964c8bf1d421ba974072b8212"), looks := true }, kinds := [], alts := [], laidByText := true, laidKinds := [.data], laidTests := true, laidLooks := .later }
def CrcBurstsUptoCardSaid : Prop := Claim7.holds Tryd.pinned (.plain (OpenSpec.upto crcBurstsSpec)) crcBurstsUptoCard

/-- THE SECOND FORM's CARD OF 'astrolabelaw11.CrcNought'. -/
def crcNoughtUptoCard : Claim7 := { stood := { row := crcNoughtUptoRow, standIns := [], harness := (true, "1f0492c8182d93db53665745cde7f5d86d7d31c964c8bf1d421ba974072b8212"), looks := true }, kinds := [], alts := [], laidByText := true, laidKinds := [.data], laidTests := true, laidLooks := .later }
def CrcNoughtUptoCardSaid : Prop := Claim7.holds Tryd.pinned (.plain (OpenSpec.upto crcNoughtSpec)) crcNoughtUptoCard

/-- THE SECOND FORM's CARD OF 'astrolabelaw31.SampleTells'. -/
def sampleTellsUptoCard : Claim7 := { stood := { row := sampleTellsUptoRow, standIns := [], harness := (true, "1f0492c8182d93db53665745cde7f5d86d7d31c964c8bf1d421ba974072b8212"), looks := true }, kinds := [], alts := [], laidByText := true, laidKinds := [.data], laidTests := true, laidLooks := .later }
def SampleTellsUptoCardSaid : Prop := Claim7.holds Tryd.pinned (.plain (OpenSpec.upto sampleTellsSpec)) sampleTellsUptoCard

/-- THE SECOND FORM's CARD OF 'astrolabelaw31.SampleBack'. -/
def sampleBackUptoCard : Claim7 := { stood := { row := sampleBackUptoRow, standIns := [], harness := (true, "1f0492c8182d93db53665745cde7f5d86d7d31c964c8bf1d421ba974072b8212"), looks := true }, kinds := [], alts := [], laidByText := true, laidKinds := [.data], laidTests := true, laidLooks := .later }
def SampleBackUptoCardSaid : Prop := Claim7.holds Tryd.pinned (.plain (OpenSpec.upto sampleBackSpec)) sampleBackUptoCard

/-- THE SECOND FORM's CARD OF 'astrolabelaw31.SampleAgain'. -/
def sampleAgainUptoCard : Claim7 := { stood := { row := sampleAgainUptoRow, standIns := [], harness := (true, "1f0492c8182d93db53665745cde7f5d86d7d31c964c8bf1d421ba974072b8212"), looks := true }, kinds := [], alts := [], laidByText := true, laidKinds := [.data], laidTests := true, laidLooks := .later }
def SampleAgainUptoCardSaid : Prop := Claim7.holds Tryd.pinned (.plain (OpenSpec.upto sampleAgainSpec)) sampleAgainUptoCard

/-- THE SECOND FORM's CARD OF 'astrolabelaw36.FrameTells'. -/
def frameTellsUptoCard : Claim7 := { stood := { row := frameTellsUptoRow, standIns := [], harness := (true, "1f0492c8182d93db53665745cde7f5d86d7d31c964c8bf1d421ba974072b8212"), looks := true }, kinds := [], alts := [], laidByText := true, laidKinds := [.data, .sentinel, .sentinel], laidTests := true, laidLooks := .later }
def FrameTellsUptoCardSaid : Prop := Claim7.holds Tryd.pinned (.plain (OpenSpec.upto frameTellsSpec)) frameTellsUptoCard

/-- THE SECOND FORM's CARD OF 'astrolabelaw36.FrameBack'. -/
def frameBackUptoCard : Claim7 := { stood := { row := frameBackUptoRow, standIns := [], harness := (true, "1f0492c8182d93db53665745cde7f5d86d7d31c964c8bf1d421ba974072b8212"), looks := true }, kinds := [], alts := [], laidByText := true, laidKinds := [.data, .sentinel, .sentinel], laidTests := true, laidLooks := .later }
def FrameBackUptoCardSaid : Prop := Claim7.holds Tryd.pinned (.plain (OpenSpec.upto frameBackSpec)) frameBackUptoCard

/-- THE SECOND FORM's CARD OF 'astrolabelaw36.FrameBursts'. -/
def frameBurstsUptoCard : Claim7 := { stood := { row := frameBurstsUptoRow, standIns := [], harness := (true, "1f0492c8182d93db53665745cde7f5d86d7d31c964c8bf1d421ba974072b8212"), looks := true }, kinds := [], alts := [], laidByText := true, laidKinds := [.data, .sentinel, .sentinel], laidTests := true, laidLooks := .later }
def FrameBurstsUptoCardSaid : Prop := Claim7.holds Tryd.pinned (.plain (OpenSpec.upto frameBurstsSpec)) frameBurstsUptoCard

/-- THE SECOND FORM's CARD OF 'astrolabelaw36.FrameForms'. -/
def frameFormsUptoCard : Claim7 := { stood := { row := frameFormsUptoRow, standIns := [], harness := (true, "1f0492c8182d93db53665745cde7f5d86d7d31c964c8bf1d421ba974072b8212"), looks := true }, kinds := [], alts := [], laidByText := true, laidKinds := [.data, .sentinel, .sentinel], laidTests := true, laidLooks := .later }
def FrameFormsUptoCardSaid : Prop := Claim7.holds Tryd.pinned (.plain (OpenSpec.upto frameFormsSpec)) frameFormsUptoCard

/-- THE SECOND FORM's CARD OF 'astrolabelaw46.StreamTells'. -/
def streamTellsUptoCard : Claim7 := { stood := { row := streamTellsUptoRow, standIns := [], harness := (true, "1f0492c8182d93db53665745cde7f5d86d7d31c964c8bf1d421ba974072b8212"), looks := true }, kinds := [], alts := [], laidByText := true, laidKinds := [.data, .sentinel, .sentinel], laidTests := true, laidLooks := .later }
def StreamTellsUptoCardSaid : Prop := Claim7.holds Tryd.pinned (.plain (OpenSpec.upto streamTellsSpec)) streamTellsUptoCard

/-- THE SECOND FORM's CARD OF 'astrolabelaw46.StreamCounts'. -/
def streamCountsUptoCard : Claim7 := { stood := { row := streamCountsUptoRow, standIns := [], harness := (true, "1f0492c8182d93db53665745cde7f5d86d7d31c964c8bf1d421ba974072b8212"), looks := true }, kinds := [], alts := [], laidByText := true, laidKinds := [.data, .sentinel, .sentinel], laidTests := true, laidLooks := .later }
def StreamCountsUptoCardSaid : Prop := Claim7.holds Tryd.pinned (.plain (OpenSpec.upto streamCountsSpec)) streamCountsUptoCard

/-- THE SECOND FORM's CARD OF 'astrolabelaw46.StreamFinds'. -/
def streamFindsUptoCard : Claim7 := { stood := { row := streamFindsUptoRow, standIns := [], harness := (true, "1f0492c8182d93db53665745cde7f5d86d7d31c964c8bf1d421ba974072b8212"), looks := true }, kinds := [], alts := [], laidByText := true, laidKinds := [.data, .sentinel, .sentinel], laidTests := true, laidLooks := .later }
def StreamFindsUptoCardSaid : Prop := Claim7.holds Tryd.pinned (.plain (OpenSpec.upto streamFindsSpec)) streamFindsUptoCard

/-- THE SECOND FORM's CARD OF 'astrolabelaw47.LogPlays'. -/
def logPlaysUptoCard : Claim7 := { stood := { row := logPlaysUptoRow, standIns := [], harness := (true, "1f0492c8182d93db53665745cde7f5d86d7d31c964c8bf1d421ba974072b8212"), looks := true }, kinds := [], alts := [], laidByText := true, laidKinds := [.data, .sentinel], laidTests := true, laidLooks := .later }
def LogPlaysUptoCardSaid : Prop := Claim7.holds Tryd.pinned (.plain (OpenSpec.upto logPlaysSpec)) logPlaysUptoCard

/-- THE SECOND FORM's CARD OF 'astrolabelaw47.LogLast'. -/
def logLastUptoCard : Claim7 := { stood := { row := logLastUptoRow, standIns := [], harness := (true, "1f0492c8182d93db53665745cde7f5d86d7d31c964c8bf1d421ba974072b8212"), looks := true }, kinds := [], alts := [], laidByText := true, laidKinds := [.data, .sentinel], laidTests := true, laidLooks := .later }
def LogLastUptoCardSaid : Prop := Claim7.holds Tryd.pinned (.plain (OpenSpec.upto logLastSpec)) logLastUptoCard

/-- THE SECOND FORM's CARD OF 'astrolabelaw47.LogBack'. -/
def logBackUptoCard : Claim7 := { stood := { row := logBackUptoRow, standIns := [], harness := (true, "1f0492c8182d93db53665745cde7f5d86d7d31c964c8bf1d421ba974072b8212"), looks := true }, kinds := [], alts := [], laidByText := true, laidKinds := [.data, .sentinel, .sentinel], laidTests := true, laidLooks := .later }
def LogBackUptoCardSaid : Prop := Claim7.holds Tryd.pinned (.plain (OpenSpec.upto logBackSpec)) logBackUptoCard
end Rows
end Go.Proofs.YtecbfegohdllbaaDoor
