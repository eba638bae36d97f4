/-
  DERIVED. GIVEN WITH THE SEED: THE CARDS: each row of YtgnjidopnplbbaaGreatDoorRows.lean that lists a variable, with what it lists TIED to the program's text (the seventh form; the later family's looks); each row that meets fmt, with fmt's text TOLD by the authors' own Lean function (tested against real Go, not proved from fmt's source: count such statements apart). THE CARD IS WHAT COUNTS. Prove the row's statement (the work); the ties are given (YtgnjidopnplbbaaGreatDoorTie.lean); close each card by the builder's one call (the guide's Derived/Test/ToyasCard.lean, 'card_holds'). Laid BY PROGRAM, IN A SANDBOX (cutbox-door.mjs). By AI agents, Wed Nov 11 2026. No macro, syntax, notation, axiom, sorry.
-/
import Derived.Test.YtgnjidopnplbbaaGreatDoorRows
import GoSem.ClaimSeven
namespace Go.Proofs.YtgnjidopnplbbaaGreatDoor
namespace Rows

/-- THE TIED CARD OF 'riparianlaw09.StreamChecks'. -/
def streamChecksCard : Claim7 := { stood := { row := streamChecksRow, standIns := [], harness := (true, "66ee3c112570d5b17686b299e7ab907cfb9624d8e186bcd98f25cf8dcd7d4bef"), looks := false }, kinds := [], alts := [], laidByText := true, laidKinds := [.widerDeep], laidTests := true, laidLooks := .later }
def StreamChecksCardSaid : Prop := Claim7.holds Tryz.pinned (.plain (OpenSpec.ofChange streamChecksSpec)) streamChecksCard

/-- THE TIED CARD OF 'riparianlaw09.StreamSizes'. -/
def streamSizesCard : Claim7 := { stood := { row := streamSizesRow, standIns := [], harness := (true, "66ee3c112570d5b17686b299e7ab907cfb9624d8e186bcd98f25cf8dcd7d4bef"), looks := false }, kinds := [], alts := [], laidByText := true, laidKinds := [.widerDeep], laidTests := true, laidLooks := .later }
def StreamSizesCardSaid : Prop := Claim7.holds Tryz.pinned (.plain (OpenSpec.ofChange streamSizesSpec)) streamSizesCard

/-- THE TIED CARD OF 'riparianlaw09.StreamShorter'. -/
def streamShorterCard : Claim7 := { stood := { row := streamShorterRow, standIns := [], harness := (true, "66ee3c112570d5b17686b299e7ab907cfb9624d8e186bcd98f25cf8dcd7d4bef"), looks := false }, kinds := [], alts := [], laidByText := true, laidKinds := [.widerDeep], laidTests := true, laidLooks := .later }
def StreamShorterCardSaid : Prop := Claim7.holds Tryz.pinned (.plain (OpenSpec.ofChange streamShorterSpec)) streamShorterCard

/-- THE TIED CARD OF 'riparianlaw09.StreamBuffers'. -/
def streamBuffersCard : Claim7 := { stood := { row := streamBuffersRow, standIns := [], harness := (true, "66ee3c112570d5b17686b299e7ab907cfb9624d8e186bcd98f25cf8dcd7d4bef"), looks := false }, kinds := [], alts := [], laidByText := true, laidKinds := [.widerDeep], laidTests := true, laidLooks := .later }
def StreamBuffersCardSaid : Prop := Claim7.holds Tryz.pinned (.plain (OpenSpec.ofChange streamBuffersSpec)) streamBuffersCard

/-- THE TIED CARD OF 'riparianlaw09.StreamFifo'. -/
def streamFifoCard : Claim7 := { stood := { row := streamFifoRow, standIns := [], harness := (true, "66ee3c112570d5b17686b299e7ab907cfb9624d8e186bcd98f25cf8dcd7d4bef"), looks := false }, kinds := [], alts := [], laidByText := true, laidKinds := [.widerDeep], laidTests := true, laidLooks := .later }
def StreamFifoCardSaid : Prop := Claim7.holds Tryz.pinned (.plain (OpenSpec.ofChange streamFifoSpec)) streamFifoCard

/-- THE TIED CARD OF 'riparianlaw09.StreamPrograms'. -/
def streamProgramsCard : Claim7 := { stood := { row := streamProgramsRow, standIns := [], harness := (true, "66ee3c112570d5b17686b299e7ab907cfb9624d8e186bcd98f25cf8dcd7d4bef"), looks := false }, kinds := [], alts := [], laidByText := true, laidKinds := [.widerDeep], laidTests := true, laidLooks := .later }
def StreamProgramsCardSaid : Prop := Claim7.holds Tryz.pinned (.plain (OpenSpec.ofChange streamProgramsSpec)) streamProgramsCard

/-- THE TIED CARD OF 'riparianlaw09.StreamSplits'. -/
def streamSplitsCard : Claim7 := { stood := { row := streamSplitsRow, standIns := [], harness := (true, "66ee3c112570d5b17686b299e7ab907cfb9624d8e186bcd98f25cf8dcd7d4bef"), looks := false }, kinds := [], alts := [], laidByText := true, laidKinds := [.widerDeep], laidTests := true, laidLooks := .later }
def StreamSplitsCardSaid : Prop := Claim7.holds Tryz.pinned (.plain (OpenSpec.ofChange streamSplitsSpec)) streamSplitsCard

/-- THE TIED CARD OF 'riparianlaw09.StreamOnce'. -/
def streamOnceCard : Claim7 := { stood := { row := streamOnceRow, standIns := [], harness := (true, "66ee3c112570d5b17686b299e7ab907cfb9624d8e186bcd98f25cf8dcd7d4bef"), looks := false }, kinds := [], alts := [], laidByText := true, laidKinds := [.widerDeep], laidTests := true, laidLooks := .later }
def StreamOnceCardSaid : Prop := Claim7.holds Tryz.pinned (.plain (OpenSpec.ofChange streamOnceSpec)) streamOnceCard

/-- THE TIED CARD OF 'riparianlaw09.StreamFair'. -/
def streamFairCard : Claim7 := { stood := { row := streamFairRow, standIns := [], harness := (true, "66ee3c112570d5b17686b299e7ab907cfb9624d8e186bcd98f25cf8dcd7d4bef"), looks := false }, kinds := [], alts := [], laidByText := true, laidKinds := [.widerDeep], laidTests := true, laidLooks := .later }
def StreamFairCardSaid : Prop := Claim7.holds Tryz.pinned (.plain (OpenSpec.ofChange streamFairSpec)) streamFairCard

/-- THE TIED CARD OF 'riparianlaw09.StreamDone'. -/
def streamDoneCard : Claim7 := { stood := { row := streamDoneRow, standIns := [], harness := (true, "66ee3c112570d5b17686b299e7ab907cfb9624d8e186bcd98f25cf8dcd7d4bef"), looks := false }, kinds := [], alts := [], laidByText := true, laidKinds := [.widerDeep], laidTests := true, laidLooks := .later }
def StreamDoneCardSaid : Prop := Claim7.holds Tryz.pinned (.plain (OpenSpec.ofChange streamDoneSpec)) streamDoneCard

/-- THE TIED CARD OF 'riparianlaw09.StreamMergers'. -/
def streamMergersCard : Claim7 := { stood := { row := streamMergersRow, standIns := [], harness := (true, "66ee3c112570d5b17686b299e7ab907cfb9624d8e186bcd98f25cf8dcd7d4bef"), looks := false }, kinds := [], alts := [], laidByText := true, laidKinds := [.widerDeep], laidTests := true, laidLooks := .later }
def StreamMergersCardSaid : Prop := Claim7.holds Tryz.pinned (.plain (OpenSpec.ofChange streamMergersSpec)) streamMergersCard

/-- THE TIED CARD OF 'riparianlaw09.StreamWork'. -/
def streamWorkCard : Claim7 := { stood := { row := streamWorkRow, standIns := [], harness := (true, "66ee3c112570d5b17686b299e7ab907cfb9624d8e186bcd98f25cf8dcd7d4bef"), looks := false }, kinds := [], alts := [], laidByText := true, laidKinds := [.widerDeep], laidTests := true, laidLooks := .later }
def StreamWorkCardSaid : Prop := Claim7.holds Tryz.pinned (.plain (OpenSpec.ofChange streamWorkSpec)) streamWorkCard

/-- THE TIED CARD OF 'riparianlaw09.StreamMerges'. -/
def streamMergesCard : Claim7 := { stood := { row := streamMergesRow, standIns := [], harness := (true, "66ee3c112570d5b17686b299e7ab907cfb9624d8e186bcd98f25cf8dcd7d4bef"), looks := false }, kinds := [], alts := [], laidByText := true, laidKinds := [.widerDeep], laidTests := true, laidLooks := .later }
def StreamMergesCardSaid : Prop := Claim7.holds Tryz.pinned (.plain (OpenSpec.ofChange streamMergesSpec)) streamMergesCard

/-- THE SECOND FORM's CARD OF 'riparianlaw09.StreamChecks'. -/
def streamChecksUptoCard : Claim7 := { stood := { row := streamChecksUptoRow, standIns := [], harness := (true, "66ee3c112570d5b17686b299e7ab907cfb9624d8e186bcd98f25cf8dcd7d4bef"), looks := false }, kinds := [], alts := [], laidByText := true, laidKinds := [.widerDeep], laidTests := true, laidLooks := .later }
def StreamChecksUptoCardSaid : Prop := Claim7.holds Tryz.pinned (.plain (OpenSpec.upto streamChecksSpec)) streamChecksUptoCard

/-- THE SECOND FORM's CARD OF 'riparianlaw09.StreamSizes'. -/
def streamSizesUptoCard : Claim7 := { stood := { row := streamSizesUptoRow, standIns := [], harness := (true, "66ee3c112570d5b17686b299e7ab907cfb9624d8e186bcd98f25cf8dcd7d4bef"), looks := false }, kinds := [], alts := [], laidByText := true, laidKinds := [.widerDeep], laidTests := true, laidLooks := .later }
def StreamSizesUptoCardSaid : Prop := Claim7.holds Tryz.pinned (.plain (OpenSpec.upto streamSizesSpec)) streamSizesUptoCard

/-- THE SECOND FORM's CARD OF 'riparianlaw09.StreamShorter'. -/
def streamShorterUptoCard : Claim7 := { stood := { row := streamShorterUptoRow, standIns := [], harness := (true, "66ee3c112570d5b17686b299e7ab907cfb9624d8e186bcd98f25cf8dcd7d4bef"), looks := false }, kinds := [], alts := [], laidByText := true, laidKinds := [.widerDeep], laidTests := true, laidLooks := .later }
def StreamShorterUptoCardSaid : Prop := Claim7.holds Tryz.pinned (.plain (OpenSpec.upto streamShorterSpec)) streamShorterUptoCard

/-- THE SECOND FORM's CARD OF 'riparianlaw09.StreamBuffers'. -/
def streamBuffersUptoCard : Claim7 := { stood := { row := streamBuffersUptoRow, standIns := [], harness := (true, "66ee3c112570d5b17686b299e7ab907cfb9624d8e186bcd98f25cf8dcd7d4bef"), looks := false }, kinds := [], alts := [], laidByText := true, laidKinds := [.widerDeep], laidTests := true, laidLooks := .later }
def StreamBuffersUptoCardSaid : Prop := Claim7.holds Tryz.pinned (.plain (OpenSpec.upto streamBuffersSpec)) streamBuffersUptoCard

/-- THE SECOND FORM's CARD OF 'riparianlaw09.StreamFifo'. -/
def streamFifoUptoCard : Claim7 := { stood := { row := streamFifoUptoRow, standIns := [], harness := (true, "66ee3c112570d5b17686b299e7ab907cfb9624d8e186bcd98f25cf8dcd7d4bef"), looks := false }, kinds := [], alts := [], laidByText := true, laidKinds := [.widerDeep], laidTests := true, laidLooks := .later }
def StreamFifoUptoCardSaid : Prop := Claim7.holds Tryz.pinned (.plain (OpenSpec.upto streamFifoSpec)) streamFifoUptoCard

/-- THE SECOND FORM's CARD OF 'riparianlaw09.StreamPrograms'. -/
def streamProgramsUptoCard : Claim7 := { stood := { row := streamProgramsUptoRow, standIns := [], harness := (true, "66ee3c112570d5b17686b299e7ab907cfb9624d8e186bcd98f25cf8dcd7d4bef"), looks := false }, kinds := [], alts := [], laidByText := true, laidKinds := [.widerDeep], laidTests := true, laidLooks := .later }
def StreamProgramsUptoCardSaid : Prop := Claim7.holds Tryz.pinned (.plain (OpenSpec.upto streamProgramsSpec)) streamProgramsUptoCard

/-- THE SECOND FORM's CARD OF 'riparianlaw09.StreamSplits'. -/
def streamSplitsUptoCard : Claim7 := { stood := { row := streamSplitsUptoRow, standIns := [], harness := (true, "66ee3c112570d5b17686b299e7ab907cfb9624d8e186bcd98f25cf8dcd7d4bef"), looks := false }, kinds := [], alts := [], laidByText := true, laidKinds := [.widerDeep], laidTests := true, laidLooks := .later }
def StreamSplitsUptoCardSaid : Prop := Claim7.holds Tryz.pinned (.plain (OpenSpec.upto streamSplitsSpec)) streamSplitsUptoCard

/-- THE SECOND FORM's CARD OF 'riparianlaw09.StreamOnce'. -/
def streamOnceUptoCard : Claim7 := { stood := { row := streamOnceUptoRow, standIns := [], harness := (true, "66ee3c112570d5b17686b299e7ab907cfb9624d8e186bcd98f25cf8dcd7d4bef"), looks := false }, kinds := [], alts := [], laidByText := true, laidKinds := [.widerDeep], laidTests := true, laidLooks := .later }
def StreamOnceUptoCardSaid : Prop := Claim7.holds Tryz.pinned (.plain (OpenSpec.upto streamOnceSpec)) streamOnceUptoCard

/-- THE SECOND FORM's CARD OF 'riparianlaw09.StreamFair'. -/
def streamFairUptoCard : Claim7 := { stood := { row := streamFairUptoRow, standIns := [], harness := (true, "66ee3c112570d5b17686b299e7ab907cfb9624d8e186bcd98f25cf8dcd7d4bef"), looks := false }, kinds := [], alts := [], laidByText := true, laidKinds := [.widerDeep], laidTests := true, laidLooks := .later }
def StreamFairUptoCardSaid : Prop := Claim7.holds Tryz.pinned (.plain (OpenSpec.upto streamFairSpec)) streamFairUptoCard

/-- THE SECOND FORM's CARD OF 'riparianlaw09.StreamDone'. -/
def streamDoneUptoCard : Claim7 := { stood := { row := streamDoneUptoRow, standIns := [], harness := (true, "66ee3c112570d5b17686b299e7ab907cfb9624d8e186bcd98f25cf8dcd7d4bef"), looks := false }, kinds := [], alts := [], laidByText := true, laidKinds := [.widerDeep], laidTests := true, laidLooks := .later }
def StreamDoneUptoCardSaid : Prop := Claim7.holds Tryz.pinned (.plain (OpenSpec.upto streamDoneSpec)) streamDoneUptoCard

/-- THE SECOND FORM's CARD OF 'riparianlaw09.StreamMergers'. -/
def streamMergersUptoCard : Claim7 := { stood := { row := streamMergersUptoRow, standIns := [], harness := (true, "66ee3c112570d5b17686b299e7ab907cfb9624d8e186bcd98f25cf8dcd7d4bef"), looks := false }, kinds := [], alts := [], laidByText := true, laidKinds := [.widerDeep], laidTests := true, laidLooks := .later }
def StreamMergersUptoCardSaid : Prop := Claim7.holds Tryz.pinned (.plain (OpenSpec.upto streamMergersSpec)) streamMergersUptoCard

/-- THE SECOND FORM's CARD OF 'riparianlaw09.StreamWork'. -/
def streamWorkUptoCard : Claim7 := { stood := { row := streamWorkUptoRow, standIns := [], harness := (true, "66ee3c112570d5b17686b299e7ab907cfb9624d8e186bcd98f25cf8dcd7d4bef"), looks := false }, kinds := [], alts := [], laidByText := true, laidKinds := [.widerDeep], laidTests := true, laidLooks := .later }
def StreamWorkUptoCardSaid : Prop := Claim7.holds Tryz.pinned (.plain (OpenSpec.upto streamWorkSpec)) streamWorkUptoCard

/-- THE SECOND FORM's CARD OF 'riparianlaw09.StreamMerges'. -/
def streamMergesUptoCard : Claim7 := { stood := { row := streamMergesUptoRow, standIns := [], harness := (true, "66ee3c112570d5b17686b299e7ab907cfb9624d8e186bcd98f25cf8dcd7d4bef"), looks := false }, kinds := [], alts := [], laidByText := true, laidKinds := [.widerDeep], laidTests := true, laidLooks := .later }
def StreamMergesUptoCardSaid : Prop := Claim7.holds Tryz.pinned (.plain (OpenSpec.upto streamMergesSpec)) streamMergesUptoCard
end Rows
end Go.Proofs.YtgnjidopnplbbaaGreatDoor
