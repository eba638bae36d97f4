/-
  NARROWER THAN 'FOR EVERY INPUT', by the rows' own cells (each row's printed sentence says how): StreamChecks: loops, laid · StreamSizes: loops, laid · StreamShorter: loops, laid · StreamBuffers: loops, laid · StreamFifo: loops, laid · StreamPrograms: loops, laid · StreamSplits: loops, laid · StreamOnce: loops, laid · StreamFair: loops, laid · StreamDone: loops, laid · StreamMergers: loops, laid · StreamWork: loops, laid · StreamMerges: loops, laid.
  DERIVED. THE GIVEN ROWS OF THIS SEAT. 13 by the template 'for every input the law returns true; each argument reads behind the call as it read before'; 0 by the template 'total and deterministic' (their statements: YtgnjidopnplbbaaGreatDoorTotals.lean).
  GIVEN WITH THE SEED: the statements are not yours to turn. If you find one false, say at which input.
  Laid BY PROGRAM, IN A SANDBOX (cutbox-rows.mjs): the forced cells as the released guide's own fill.sh prints them over the translation edefef36fa170882… (all of the seat's roots in one cut). By AI agents, Wed Nov 11 2026. No macro, syntax, notation, axiom, sorry.
-/
import Derived.Test.YtgnjidopnplbbaaGreatDoorChecked
import GoSem.Claim
import GoSem.ClaimJoined
import GoSem.ClaimMapViews
import Derived.JoinedTies
import Derived.KernelRfl
namespace Go.Proofs.YtgnjidopnplbbaaGreatDoor
/- THE CELL 'sum', in the pinned program and in every row, IS THE sha256 OF THE DUMP (.gsa) THAT YtgnjidopnplbbaaGreatDoorProg.lean LOADS. Nothing in Lean hashes anything: it is a label: what it is worth is what the hold of that sum in a sandbox is worth. -/
noncomputable def Tryz.pinned : Pinned := { name := "ytgnjidopnplbbaagreatdoor", sum := "edefef36fa17088274086b19c124e65376202531d64cff6e5701f3b2f5ae6c18", checked := Tryz.checked }
namespace Rows
def none {H : Type} : Left H := { results := [], args := [] }

/- WHAT THE LISTED PACKAGE-LEVEL VARIABLES READ AS WHEN THE CALL BEGINS. Each datum BY PROGRAM (the guide's laid-datum.mjs) off the statement by which the dump's own 'gosem.cut.vars' lays the variable. In a bare row this is a premise. The card (YtgnjidopnplbbaaGreatDoorCards.lean) ties it to the program's text. -/
def laid_riparian_prog_calculations {H : Type} : DataW H := .agg [.lit (.string [43]), .lit (.string [45]), .lit (.string [42]), .lit (.string [47]), .lit (.string [109, 111, 100]), .lit (.string [45])]

/-- 'riparianlaw09.StreamChecks': WHATEVER THE INPUT: true; the input reads as it did. -/
def streamChecksSpec : ChangeSpec := { name := "streamChecks", fn := fun _ => fun
  | [d1, d2] => { results := [.lit (.bool true)], args := [d1, d2] }
  | _ => none }
def streamChecksRow : OpenClaim := { program := "ytgnjidopnplbbaagreatdoor", sum := "edefef36fa17088274086b19c124e65376202531d64cff6e5701f3b2f5ae6c18", func := "riparian/riparianlaw09.StreamChecks", spec := "streamChecks", unfollowed := true, recurses := true, named := ["riparian/prog.calculations"], loops := true, plainKeys := false, apart := false, laid := [("riparian/prog.calculations", laid_riparian_prog_calculations)] }
def StreamChecksSaid : Prop := streamChecksRow.holds Tryz.pinned (OpenSpec.ofChange streamChecksSpec)

/-- ITS FALSE NEIGHBOUR: 'it returns false'. Refute it at one input. -/
def streamChecksWrong : ChangeSpec := { name := "streamChecks", fn := fun _ => fun
  | [d1, d2] => { results := [.lit (.bool false)], args := [d1, d2] }
  | _ => none }
def StreamChecksWrongFalsely : Prop := streamChecksRow.holds Tryz.pinned (OpenSpec.ofChange streamChecksWrong)

/-- 'riparianlaw09.StreamSizes': WHATEVER THE INPUT: true; the input reads as it did. -/
def streamSizesSpec : ChangeSpec := { name := "streamSizes", fn := fun _ => fun
  | [d1, d2, d3] => { results := [.lit (.bool true)], args := [d1, d2, d3] }
  | _ => none }
def streamSizesRow : OpenClaim := { program := "ytgnjidopnplbbaagreatdoor", sum := "edefef36fa17088274086b19c124e65376202531d64cff6e5701f3b2f5ae6c18", func := "riparian/riparianlaw09.StreamSizes", spec := "streamSizes", unfollowed := true, recurses := true, named := ["riparian/prog.calculations"], loops := true, plainKeys := false, apart := false, laid := [("riparian/prog.calculations", laid_riparian_prog_calculations)] }
def StreamSizesSaid : Prop := streamSizesRow.holds Tryz.pinned (OpenSpec.ofChange streamSizesSpec)

/-- ITS FALSE NEIGHBOUR: 'it returns false'. Refute it at one input. -/
def streamSizesWrong : ChangeSpec := { name := "streamSizes", fn := fun _ => fun
  | [d1, d2, d3] => { results := [.lit (.bool false)], args := [d1, d2, d3] }
  | _ => none }
def StreamSizesWrongFalsely : Prop := streamSizesRow.holds Tryz.pinned (OpenSpec.ofChange streamSizesWrong)

/-- 'riparianlaw09.StreamShorter': WHATEVER THE INPUT: true; the input reads as it did. -/
def streamShorterSpec : ChangeSpec := { name := "streamShorter", fn := fun _ => fun
  | [d] => { results := [.lit (.bool true)], args := [d] }
  | _ => none }
def streamShorterRow : OpenClaim := { program := "ytgnjidopnplbbaagreatdoor", sum := "edefef36fa17088274086b19c124e65376202531d64cff6e5701f3b2f5ae6c18", func := "riparian/riparianlaw09.StreamShorter", spec := "streamShorter", unfollowed := true, recurses := true, named := ["riparian/prog.calculations"], loops := true, plainKeys := false, apart := false, laid := [("riparian/prog.calculations", laid_riparian_prog_calculations)] }
def StreamShorterSaid : Prop := streamShorterRow.holds Tryz.pinned (OpenSpec.ofChange streamShorterSpec)

/-- ITS FALSE NEIGHBOUR: 'it returns false'. Refute it at one input. -/
def streamShorterWrong : ChangeSpec := { name := "streamShorter", fn := fun _ => fun
  | [d] => { results := [.lit (.bool false)], args := [d] }
  | _ => none }
def StreamShorterWrongFalsely : Prop := streamShorterRow.holds Tryz.pinned (OpenSpec.ofChange streamShorterWrong)

/-- 'riparianlaw09.StreamBuffers': WHATEVER THE INPUT: true; the input reads as it did. -/
def streamBuffersSpec : ChangeSpec := { name := "streamBuffers", fn := fun _ => fun
  | [d1, d2] => { results := [.lit (.bool true)], args := [d1, d2] }
  | _ => none }
def streamBuffersRow : OpenClaim := { program := "ytgnjidopnplbbaagreatdoor", sum := "edefef36fa17088274086b19c124e65376202531d64cff6e5701f3b2f5ae6c18", func := "riparian/riparianlaw09.StreamBuffers", spec := "streamBuffers", unfollowed := true, recurses := true, named := ["riparian/prog.calculations"], loops := true, plainKeys := false, apart := false, laid := [("riparian/prog.calculations", laid_riparian_prog_calculations)] }
def StreamBuffersSaid : Prop := streamBuffersRow.holds Tryz.pinned (OpenSpec.ofChange streamBuffersSpec)

/-- ITS FALSE NEIGHBOUR: 'it returns false'. Refute it at one input. -/
def streamBuffersWrong : ChangeSpec := { name := "streamBuffers", fn := fun _ => fun
  | [d1, d2] => { results := [.lit (.bool false)], args := [d1, d2] }
  | _ => none }
def StreamBuffersWrongFalsely : Prop := streamBuffersRow.holds Tryz.pinned (OpenSpec.ofChange streamBuffersWrong)

/-- 'riparianlaw09.StreamFifo': WHATEVER THE INPUT: true; the input reads as it did. -/
def streamFifoSpec : ChangeSpec := { name := "streamFifo", fn := fun _ => fun
  | [d1, d2] => { results := [.lit (.bool true)], args := [d1, d2] }
  | _ => none }
def streamFifoRow : OpenClaim := { program := "ytgnjidopnplbbaagreatdoor", sum := "edefef36fa17088274086b19c124e65376202531d64cff6e5701f3b2f5ae6c18", func := "riparian/riparianlaw09.StreamFifo", spec := "streamFifo", unfollowed := true, recurses := true, named := ["riparian/prog.calculations"], loops := true, plainKeys := false, apart := false, laid := [("riparian/prog.calculations", laid_riparian_prog_calculations)] }
def StreamFifoSaid : Prop := streamFifoRow.holds Tryz.pinned (OpenSpec.ofChange streamFifoSpec)

/-- ITS FALSE NEIGHBOUR: 'it returns false'. Refute it at one input. -/
def streamFifoWrong : ChangeSpec := { name := "streamFifo", fn := fun _ => fun
  | [d1, d2] => { results := [.lit (.bool false)], args := [d1, d2] }
  | _ => none }
def StreamFifoWrongFalsely : Prop := streamFifoRow.holds Tryz.pinned (OpenSpec.ofChange streamFifoWrong)

/-- 'riparianlaw09.StreamPrograms': WHATEVER THE INPUT: true; the input reads as it did. -/
def streamProgramsSpec : ChangeSpec := { name := "streamPrograms", fn := fun _ => fun
  | [d1, d2, d3] => { results := [.lit (.bool true)], args := [d1, d2, d3] }
  | _ => none }
def streamProgramsRow : OpenClaim := { program := "ytgnjidopnplbbaagreatdoor", sum := "edefef36fa17088274086b19c124e65376202531d64cff6e5701f3b2f5ae6c18", func := "riparian/riparianlaw09.StreamPrograms", spec := "streamPrograms", unfollowed := true, recurses := true, named := ["riparian/prog.calculations"], loops := true, plainKeys := false, apart := false, laid := [("riparian/prog.calculations", laid_riparian_prog_calculations)] }
def StreamProgramsSaid : Prop := streamProgramsRow.holds Tryz.pinned (OpenSpec.ofChange streamProgramsSpec)

/-- ITS FALSE NEIGHBOUR: 'it returns false'. Refute it at one input. -/
def streamProgramsWrong : ChangeSpec := { name := "streamPrograms", fn := fun _ => fun
  | [d1, d2, d3] => { results := [.lit (.bool false)], args := [d1, d2, d3] }
  | _ => none }
def StreamProgramsWrongFalsely : Prop := streamProgramsRow.holds Tryz.pinned (OpenSpec.ofChange streamProgramsWrong)

/-- 'riparianlaw09.StreamSplits': WHATEVER THE INPUT: true; the input reads as it did. -/
def streamSplitsSpec : ChangeSpec := { name := "streamSplits", fn := fun _ => fun
  | [d1, d2, d3] => { results := [.lit (.bool true)], args := [d1, d2, d3] }
  | _ => none }
def streamSplitsRow : OpenClaim := { program := "ytgnjidopnplbbaagreatdoor", sum := "edefef36fa17088274086b19c124e65376202531d64cff6e5701f3b2f5ae6c18", func := "riparian/riparianlaw09.StreamSplits", spec := "streamSplits", unfollowed := true, recurses := true, named := ["riparian/prog.calculations"], loops := true, plainKeys := false, apart := false, laid := [("riparian/prog.calculations", laid_riparian_prog_calculations)] }
def StreamSplitsSaid : Prop := streamSplitsRow.holds Tryz.pinned (OpenSpec.ofChange streamSplitsSpec)

/-- ITS FALSE NEIGHBOUR: 'it returns false'. Refute it at one input. -/
def streamSplitsWrong : ChangeSpec := { name := "streamSplits", fn := fun _ => fun
  | [d1, d2, d3] => { results := [.lit (.bool false)], args := [d1, d2, d3] }
  | _ => none }
def StreamSplitsWrongFalsely : Prop := streamSplitsRow.holds Tryz.pinned (OpenSpec.ofChange streamSplitsWrong)

/-- 'riparianlaw09.StreamOnce': WHATEVER THE INPUT: true; the input reads as it did. -/
def streamOnceSpec : ChangeSpec := { name := "streamOnce", fn := fun _ => fun
  | [d] => { results := [.lit (.bool true)], args := [d] }
  | _ => none }
def streamOnceRow : OpenClaim := { program := "ytgnjidopnplbbaagreatdoor", sum := "edefef36fa17088274086b19c124e65376202531d64cff6e5701f3b2f5ae6c18", func := "riparian/riparianlaw09.StreamOnce", spec := "streamOnce", unfollowed := true, recurses := true, named := ["riparian/prog.calculations"], loops := true, plainKeys := false, apart := false, laid := [("riparian/prog.calculations", laid_riparian_prog_calculations)] }
def StreamOnceSaid : Prop := streamOnceRow.holds Tryz.pinned (OpenSpec.ofChange streamOnceSpec)

/-- ITS FALSE NEIGHBOUR: 'it returns false'. Refute it at one input. -/
def streamOnceWrong : ChangeSpec := { name := "streamOnce", fn := fun _ => fun
  | [d] => { results := [.lit (.bool false)], args := [d] }
  | _ => none }
def StreamOnceWrongFalsely : Prop := streamOnceRow.holds Tryz.pinned (OpenSpec.ofChange streamOnceWrong)

/-- 'riparianlaw09.StreamFair': WHATEVER THE INPUT: true; the input reads as it did. -/
def streamFairSpec : ChangeSpec := { name := "streamFair", fn := fun _ => fun
  | [d] => { results := [.lit (.bool true)], args := [d] }
  | _ => none }
def streamFairRow : OpenClaim := { program := "ytgnjidopnplbbaagreatdoor", sum := "edefef36fa17088274086b19c124e65376202531d64cff6e5701f3b2f5ae6c18", func := "riparian/riparianlaw09.StreamFair", spec := "streamFair", unfollowed := true, recurses := true, named := ["riparian/prog.calculations"], loops := true, plainKeys := false, apart := false, laid := [("riparian/prog.calculations", laid_riparian_prog_calculations)] }
def StreamFairSaid : Prop := streamFairRow.holds Tryz.pinned (OpenSpec.ofChange streamFairSpec)

/-- ITS FALSE NEIGHBOUR: 'it returns false'. Refute it at one input. -/
def streamFairWrong : ChangeSpec := { name := "streamFair", fn := fun _ => fun
  | [d] => { results := [.lit (.bool false)], args := [d] }
  | _ => none }
def StreamFairWrongFalsely : Prop := streamFairRow.holds Tryz.pinned (OpenSpec.ofChange streamFairWrong)

/-- 'riparianlaw09.StreamDone': WHATEVER THE INPUT: true; the input reads as it did. -/
def streamDoneSpec : ChangeSpec := { name := "streamDone", fn := fun _ => fun
  | [d] => { results := [.lit (.bool true)], args := [d] }
  | _ => none }
def streamDoneRow : OpenClaim := { program := "ytgnjidopnplbbaagreatdoor", sum := "edefef36fa17088274086b19c124e65376202531d64cff6e5701f3b2f5ae6c18", func := "riparian/riparianlaw09.StreamDone", spec := "streamDone", unfollowed := true, recurses := true, named := ["riparian/prog.calculations"], loops := true, plainKeys := false, apart := false, laid := [("riparian/prog.calculations", laid_riparian_prog_calculations)] }
def StreamDoneSaid : Prop := streamDoneRow.holds Tryz.pinned (OpenSpec.ofChange streamDoneSpec)

/-- ITS FALSE NEIGHBOUR: 'it returns false'. Refute it at one input. -/
def streamDoneWrong : ChangeSpec := { name := "streamDone", fn := fun _ => fun
  | [d] => { results := [.lit (.bool false)], args := [d] }
  | _ => none }
def StreamDoneWrongFalsely : Prop := streamDoneRow.holds Tryz.pinned (OpenSpec.ofChange streamDoneWrong)

/-- 'riparianlaw09.StreamMergers': WHATEVER THE INPUT: true; the input reads as it did. -/
def streamMergersSpec : ChangeSpec := { name := "streamMergers", fn := fun _ => fun
  | [d] => { results := [.lit (.bool true)], args := [d] }
  | _ => none }
def streamMergersRow : OpenClaim := { program := "ytgnjidopnplbbaagreatdoor", sum := "edefef36fa17088274086b19c124e65376202531d64cff6e5701f3b2f5ae6c18", func := "riparian/riparianlaw09.StreamMergers", spec := "streamMergers", unfollowed := true, recurses := true, named := ["riparian/prog.calculations"], loops := true, plainKeys := false, apart := false, laid := [("riparian/prog.calculations", laid_riparian_prog_calculations)] }
def StreamMergersSaid : Prop := streamMergersRow.holds Tryz.pinned (OpenSpec.ofChange streamMergersSpec)

/-- ITS FALSE NEIGHBOUR: 'it returns false'. Refute it at one input. -/
def streamMergersWrong : ChangeSpec := { name := "streamMergers", fn := fun _ => fun
  | [d] => { results := [.lit (.bool false)], args := [d] }
  | _ => none }
def StreamMergersWrongFalsely : Prop := streamMergersRow.holds Tryz.pinned (OpenSpec.ofChange streamMergersWrong)

/-- 'riparianlaw09.StreamWork': WHATEVER THE INPUT: true; the input reads as it did. -/
def streamWorkSpec : ChangeSpec := { name := "streamWork", fn := fun _ => fun
  | [d] => { results := [.lit (.bool true)], args := [d] }
  | _ => none }
def streamWorkRow : OpenClaim := { program := "ytgnjidopnplbbaagreatdoor", sum := "edefef36fa17088274086b19c124e65376202531d64cff6e5701f3b2f5ae6c18", func := "riparian/riparianlaw09.StreamWork", spec := "streamWork", unfollowed := true, recurses := true, named := ["riparian/prog.calculations"], loops := true, plainKeys := false, apart := false, laid := [("riparian/prog.calculations", laid_riparian_prog_calculations)] }
def StreamWorkSaid : Prop := streamWorkRow.holds Tryz.pinned (OpenSpec.ofChange streamWorkSpec)

/-- ITS FALSE NEIGHBOUR: 'it returns false'. Refute it at one input. -/
def streamWorkWrong : ChangeSpec := { name := "streamWork", fn := fun _ => fun
  | [d] => { results := [.lit (.bool false)], args := [d] }
  | _ => none }
def StreamWorkWrongFalsely : Prop := streamWorkRow.holds Tryz.pinned (OpenSpec.ofChange streamWorkWrong)

/-- 'riparianlaw09.StreamMerges': WHATEVER THE INPUT: true; the input reads as it did. -/
def streamMergesSpec : ChangeSpec := { name := "streamMerges", fn := fun _ => fun
  | [d] => { results := [.lit (.bool true)], args := [d] }
  | _ => none }
def streamMergesRow : OpenClaim := { program := "ytgnjidopnplbbaagreatdoor", sum := "edefef36fa17088274086b19c124e65376202531d64cff6e5701f3b2f5ae6c18", func := "riparian/riparianlaw09.StreamMerges", spec := "streamMerges", unfollowed := true, recurses := true, named := ["riparian/prog.calculations"], loops := true, plainKeys := false, apart := false, laid := [("riparian/prog.calculations", laid_riparian_prog_calculations)] }
def StreamMergesSaid : Prop := streamMergesRow.holds Tryz.pinned (OpenSpec.ofChange streamMergesSpec)

/-- ITS FALSE NEIGHBOUR: 'it returns false'. Refute it at one input. -/
def streamMergesWrong : ChangeSpec := { name := "streamMerges", fn := fun _ => fun
  | [d] => { results := [.lit (.bool false)], args := [d] }
  | _ => none }
def StreamMergesWrongFalsely : Prop := streamMergesRow.holds Tryz.pinned (OpenSpec.ofChange streamMergesWrong)

/- THE SECOND FORM. 'bulk': how many values and letters a reading holds, each counted each time it is reached (what is shared counts as often as it is met; a slice's spare places count too). A statement '..UptoSaid' is the law's where the arguments, and the package variables that the reading takes, are together of bulk at most 1048576: NARROWER than '..Said'. Prove '..Said' where nothing that the law and all that it calls make is longer than what came in: it says more and counts as full. Else prove '..UptoSaid'. A law counts once. -/
mutual
def uptoBulk {H : Type} : DataW H → Nat
  | .lit (.string bytes) => bytes.length + 1
  | .lit _ => 1
  | .nil => 1
  | .ptr d => uptoBulk d + 1
  | .slice elems spare => uptoBulkAll elems + uptoBulkAll spare + 1
  | .agg parts => uptoBulkAll parts + 1
  | .iface _ d => uptoBulk d + 1
  | .map entries => uptoBulkEntries entries + 1
  | .held _ => 1
def uptoBulkAll {H : Type} : List (DataW H) → Nat
  | [] => 0
  | d :: r => uptoBulk d + uptoBulkAll r
def uptoBulkEntries {H : Type} : List (Lit × DataW H) → Nat
  | [] => 0
  | x :: r => uptoBulkEntry x + uptoBulkEntries r
def uptoBulkEntry {H : Type} : Lit × DataW H → Nat
  | (.string bytes, d) => bytes.length + uptoBulk d + 1
  | (_, d) => uptoBulk d + 1
 end
def uptoSmall : (H : Type) → List (DataW H) → Bool := fun _ ds => decide (uptoBulkAll ds ≤ 1048576)
def OpenSpec.upto (s : _root_.Go.ChangeSpec) : _root_.Go.OpenSpec := { _root_.Go.OpenSpec.ofChange s with cond := some uptoSmall }

/-- 'riparianlaw09.StreamChecks', WHERE WHAT IT READS IS OF BULK AT MOST 1048576: true; the input reads as it did. -/
def streamChecksUptoRow : OpenClaim := { program := "ytgnjidopnplbbaagreatdoor", sum := "edefef36fa17088274086b19c124e65376202531d64cff6e5701f3b2f5ae6c18", func := "riparian/riparianlaw09.StreamChecks", spec := "streamChecks", unfollowed := true, recurses := true, named := ["riparian/prog.calculations"], loops := true, plainKeys := false, apart := false, laid := [("riparian/prog.calculations", laid_riparian_prog_calculations)], narrowed := true }
def StreamChecksUptoSaid : Prop := streamChecksUptoRow.holds Tryz.pinned (OpenSpec.upto streamChecksSpec)

/-- 'riparianlaw09.StreamSizes', WHERE WHAT IT READS IS OF BULK AT MOST 1048576: true; the input reads as it did. -/
def streamSizesUptoRow : OpenClaim := { program := "ytgnjidopnplbbaagreatdoor", sum := "edefef36fa17088274086b19c124e65376202531d64cff6e5701f3b2f5ae6c18", func := "riparian/riparianlaw09.StreamSizes", spec := "streamSizes", unfollowed := true, recurses := true, named := ["riparian/prog.calculations"], loops := true, plainKeys := false, apart := false, laid := [("riparian/prog.calculations", laid_riparian_prog_calculations)], narrowed := true }
def StreamSizesUptoSaid : Prop := streamSizesUptoRow.holds Tryz.pinned (OpenSpec.upto streamSizesSpec)

/-- 'riparianlaw09.StreamShorter', WHERE WHAT IT READS IS OF BULK AT MOST 1048576: true; the input reads as it did. -/
def streamShorterUptoRow : OpenClaim := { program := "ytgnjidopnplbbaagreatdoor", sum := "edefef36fa17088274086b19c124e65376202531d64cff6e5701f3b2f5ae6c18", func := "riparian/riparianlaw09.StreamShorter", spec := "streamShorter", unfollowed := true, recurses := true, named := ["riparian/prog.calculations"], loops := true, plainKeys := false, apart := false, laid := [("riparian/prog.calculations", laid_riparian_prog_calculations)], narrowed := true }
def StreamShorterUptoSaid : Prop := streamShorterUptoRow.holds Tryz.pinned (OpenSpec.upto streamShorterSpec)

/-- 'riparianlaw09.StreamBuffers', WHERE WHAT IT READS IS OF BULK AT MOST 1048576: true; the input reads as it did. -/
def streamBuffersUptoRow : OpenClaim := { program := "ytgnjidopnplbbaagreatdoor", sum := "edefef36fa17088274086b19c124e65376202531d64cff6e5701f3b2f5ae6c18", func := "riparian/riparianlaw09.StreamBuffers", spec := "streamBuffers", unfollowed := true, recurses := true, named := ["riparian/prog.calculations"], loops := true, plainKeys := false, apart := false, laid := [("riparian/prog.calculations", laid_riparian_prog_calculations)], narrowed := true }
def StreamBuffersUptoSaid : Prop := streamBuffersUptoRow.holds Tryz.pinned (OpenSpec.upto streamBuffersSpec)

/-- 'riparianlaw09.StreamFifo', WHERE WHAT IT READS IS OF BULK AT MOST 1048576: true; the input reads as it did. -/
def streamFifoUptoRow : OpenClaim := { program := "ytgnjidopnplbbaagreatdoor", sum := "edefef36fa17088274086b19c124e65376202531d64cff6e5701f3b2f5ae6c18", func := "riparian/riparianlaw09.StreamFifo", spec := "streamFifo", unfollowed := true, recurses := true, named := ["riparian/prog.calculations"], loops := true, plainKeys := false, apart := false, laid := [("riparian/prog.calculations", laid_riparian_prog_calculations)], narrowed := true }
def StreamFifoUptoSaid : Prop := streamFifoUptoRow.holds Tryz.pinned (OpenSpec.upto streamFifoSpec)

/-- 'riparianlaw09.StreamPrograms', WHERE WHAT IT READS IS OF BULK AT MOST 1048576: true; the input reads as it did. -/
def streamProgramsUptoRow : OpenClaim := { program := "ytgnjidopnplbbaagreatdoor", sum := "edefef36fa17088274086b19c124e65376202531d64cff6e5701f3b2f5ae6c18", func := "riparian/riparianlaw09.StreamPrograms", spec := "streamPrograms", unfollowed := true, recurses := true, named := ["riparian/prog.calculations"], loops := true, plainKeys := false, apart := false, laid := [("riparian/prog.calculations", laid_riparian_prog_calculations)], narrowed := true }
def StreamProgramsUptoSaid : Prop := streamProgramsUptoRow.holds Tryz.pinned (OpenSpec.upto streamProgramsSpec)

/-- 'riparianlaw09.StreamSplits', WHERE WHAT IT READS IS OF BULK AT MOST 1048576: true; the input reads as it did. -/
def streamSplitsUptoRow : OpenClaim := { program := "ytgnjidopnplbbaagreatdoor", sum := "edefef36fa17088274086b19c124e65376202531d64cff6e5701f3b2f5ae6c18", func := "riparian/riparianlaw09.StreamSplits", spec := "streamSplits", unfollowed := true, recurses := true, named := ["riparian/prog.calculations"], loops := true, plainKeys := false, apart := false, laid := [("riparian/prog.calculations", laid_riparian_prog_calculations)], narrowed := true }
def StreamSplitsUptoSaid : Prop := streamSplitsUptoRow.holds Tryz.pinned (OpenSpec.upto streamSplitsSpec)

/-- 'riparianlaw09.StreamOnce', WHERE WHAT IT READS IS OF BULK AT MOST 1048576: true; the input reads as it did. -/
def streamOnceUptoRow : OpenClaim := { program := "ytgnjidopnplbbaagreatdoor", sum := "edefef36fa17088274086b19c124e65376202531d64cff6e5701f3b2f5ae6c18", func := "riparian/riparianlaw09.StreamOnce", spec := "streamOnce", unfollowed := true, recurses := true, named := ["riparian/prog.calculations"], loops := true, plainKeys := false, apart := false, laid := [("riparian/prog.calculations", laid_riparian_prog_calculations)], narrowed := true }
def StreamOnceUptoSaid : Prop := streamOnceUptoRow.holds Tryz.pinned (OpenSpec.upto streamOnceSpec)

/-- 'riparianlaw09.StreamFair', WHERE WHAT IT READS IS OF BULK AT MOST 1048576: true; the input reads as it did. -/
def streamFairUptoRow : OpenClaim := { program := "ytgnjidopnplbbaagreatdoor", sum := "edefef36fa17088274086b19c124e65376202531d64cff6e5701f3b2f5ae6c18", func := "riparian/riparianlaw09.StreamFair", spec := "streamFair", unfollowed := true, recurses := true, named := ["riparian/prog.calculations"], loops := true, plainKeys := false, apart := false, laid := [("riparian/prog.calculations", laid_riparian_prog_calculations)], narrowed := true }
def StreamFairUptoSaid : Prop := streamFairUptoRow.holds Tryz.pinned (OpenSpec.upto streamFairSpec)

/-- 'riparianlaw09.StreamDone', WHERE WHAT IT READS IS OF BULK AT MOST 1048576: true; the input reads as it did. -/
def streamDoneUptoRow : OpenClaim := { program := "ytgnjidopnplbbaagreatdoor", sum := "edefef36fa17088274086b19c124e65376202531d64cff6e5701f3b2f5ae6c18", func := "riparian/riparianlaw09.StreamDone", spec := "streamDone", unfollowed := true, recurses := true, named := ["riparian/prog.calculations"], loops := true, plainKeys := false, apart := false, laid := [("riparian/prog.calculations", laid_riparian_prog_calculations)], narrowed := true }
def StreamDoneUptoSaid : Prop := streamDoneUptoRow.holds Tryz.pinned (OpenSpec.upto streamDoneSpec)

/-- 'riparianlaw09.StreamMergers', WHERE WHAT IT READS IS OF BULK AT MOST 1048576: true; the input reads as it did. -/
def streamMergersUptoRow : OpenClaim := { program := "ytgnjidopnplbbaagreatdoor", sum := "edefef36fa17088274086b19c124e65376202531d64cff6e5701f3b2f5ae6c18", func := "riparian/riparianlaw09.StreamMergers", spec := "streamMergers", unfollowed := true, recurses := true, named := ["riparian/prog.calculations"], loops := true, plainKeys := false, apart := false, laid := [("riparian/prog.calculations", laid_riparian_prog_calculations)], narrowed := true }
def StreamMergersUptoSaid : Prop := streamMergersUptoRow.holds Tryz.pinned (OpenSpec.upto streamMergersSpec)

/-- 'riparianlaw09.StreamWork', WHERE WHAT IT READS IS OF BULK AT MOST 1048576: true; the input reads as it did. -/
def streamWorkUptoRow : OpenClaim := { program := "ytgnjidopnplbbaagreatdoor", sum := "edefef36fa17088274086b19c124e65376202531d64cff6e5701f3b2f5ae6c18", func := "riparian/riparianlaw09.StreamWork", spec := "streamWork", unfollowed := true, recurses := true, named := ["riparian/prog.calculations"], loops := true, plainKeys := false, apart := false, laid := [("riparian/prog.calculations", laid_riparian_prog_calculations)], narrowed := true }
def StreamWorkUptoSaid : Prop := streamWorkUptoRow.holds Tryz.pinned (OpenSpec.upto streamWorkSpec)

/-- 'riparianlaw09.StreamMerges', WHERE WHAT IT READS IS OF BULK AT MOST 1048576: true; the input reads as it did. -/
def streamMergesUptoRow : OpenClaim := { program := "ytgnjidopnplbbaagreatdoor", sum := "edefef36fa17088274086b19c124e65376202531d64cff6e5701f3b2f5ae6c18", func := "riparian/riparianlaw09.StreamMerges", spec := "streamMerges", unfollowed := true, recurses := true, named := ["riparian/prog.calculations"], loops := true, plainKeys := false, apart := false, laid := [("riparian/prog.calculations", laid_riparian_prog_calculations)], narrowed := true }
def StreamMergesUptoSaid : Prop := streamMergesUptoRow.holds Tryz.pinned (OpenSpec.upto streamMergesSpec)

end Rows
end Go.Proofs.YtgnjidopnplbbaaGreatDoor
