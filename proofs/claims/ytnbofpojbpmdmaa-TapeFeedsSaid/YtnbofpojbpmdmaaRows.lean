/-
  No cell of these rows narrows 'for every input' (looked for: loops, veiled, ifaces, maps, wideKeys, modest, calm, conditions, laid).
  DERIVED. THE GIVEN ROWS OF THIS SEAT. 9 by the template 'for every input the law returns true; each argument reads behind the call as it read before'; 0 by the template 'total and deterministic' (their statements: YtnbofpojbpmdmaaTotals.lean).
  GIVEN WITH THE SEED: the statements are not yours to turn. If you find one false, say at which input.
  Laid BY PROGRAM, IN A SANDBOX (cutbox-rows.mjs): the forced cells as the released guide's own fill.sh prints them over the translation 5378357057ef0124… (all of the seat's roots in one cut). By AI agents, Wed Nov 11 2026. No macro, syntax, notation, axiom, sorry.
-/
import Derived.Test.YtnbofpojbpmdmaaChecked
import GoSem.Claim
import GoSem.ClaimJoined
import GoSem.ClaimMapViews
import Derived.JoinedTies
import Derived.KernelRfl
namespace Go.Proofs.Ytnbofpojbpmdmaa
/- THE CELL 'sum', in the pinned program and in every row, IS THE sha256 OF THE DUMP (.gsa) THAT YtnbofpojbpmdmaaProg.lean LOADS. Nothing in Lean hashes anything: it is a label: what it is worth is what the hold of that sum in a sandbox is worth. -/
noncomputable def Try.pinned : Pinned := { name := "ytnbofpojbpmdmaa", sum := "5378357057ef01241153f804727e29eb59be71b70164db8ca0845ecd0134a71c", checked := Try.checked }
namespace Rows
def none {H : Type} : Left H := { results := [], args := [] }

/-- 'shallotlaw08.TapeAcks': WHATEVER THE INPUT: true; the input reads as it did. -/
def tapeAcksSpec : ChangeSpec := { name := "tapeAcks", fn := fun _ => fun
  | [d1, d2, d3] => { results := [.lit (.bool true)], args := [d1, d2, d3] }
  | _ => none }
def tapeAcksRow : OpenClaim := { program := "ytnbofpojbpmdmaa", sum := "5378357057ef01241153f804727e29eb59be71b70164db8ca0845ecd0134a71c", func := "shallot/shallotlaw08.TapeAcks", spec := "tapeAcks", unfollowed := true, recurses := true, apart := false }
def TapeAcksSaid : Prop := tapeAcksRow.holds Try.pinned (OpenSpec.ofChange tapeAcksSpec)

/-- ITS FALSE NEIGHBOUR: 'it returns false'. Refute it at one input. -/
def tapeAcksWrong : ChangeSpec := { name := "tapeAcks", fn := fun _ => fun
  | [d1, d2, d3] => { results := [.lit (.bool false)], args := [d1, d2, d3] }
  | _ => none }
def TapeAcksWrongFalsely : Prop := tapeAcksRow.holds Try.pinned (OpenSpec.ofChange tapeAcksWrong)

/-- 'shallotlaw14.PacketLeast': WHATEVER THE INPUT: true; the input reads as it did. -/
def packetLeastSpec : ChangeSpec := { name := "packetLeast", fn := fun _ => fun
  | [d] => { results := [.lit (.bool true)], args := [d] }
  | _ => none }
def packetLeastRow : OpenClaim := { program := "ytnbofpojbpmdmaa", sum := "5378357057ef01241153f804727e29eb59be71b70164db8ca0845ecd0134a71c", func := "shallot/shallotlaw14.PacketLeast", spec := "packetLeast", inPlace := ["internal/bytealg.MakeNoZero"], apart := false }
def PacketLeastSaid : Prop := packetLeastRow.holds Try.pinned (OpenSpec.ofChange packetLeastSpec)

/-- ITS FALSE NEIGHBOUR: 'it returns false'. Refute it at one input. -/
def packetLeastWrong : ChangeSpec := { name := "packetLeast", fn := fun _ => fun
  | [d] => { results := [.lit (.bool false)], args := [d] }
  | _ => none }
def PacketLeastWrongFalsely : Prop := packetLeastRow.holds Try.pinned (OpenSpec.ofChange packetLeastWrong)

/-- 'shallotlaw08.TapeDraws': WHATEVER THE INPUT: true; the input reads as it did. -/
def tapeDrawsSpec : ChangeSpec := { name := "tapeDraws", fn := fun _ => fun
  | [d1, d2] => { results := [.lit (.bool true)], args := [d1, d2] }
  | _ => none }
def tapeDrawsRow : OpenClaim := { program := "ytnbofpojbpmdmaa", sum := "5378357057ef01241153f804727e29eb59be71b70164db8ca0845ecd0134a71c", func := "shallot/shallotlaw08.TapeDraws", spec := "tapeDraws", apart := false }
def TapeDrawsSaid : Prop := tapeDrawsRow.holds Try.pinned (OpenSpec.ofChange tapeDrawsSpec)

/-- ITS FALSE NEIGHBOUR: 'it returns false'. Refute it at one input. -/
def tapeDrawsWrong : ChangeSpec := { name := "tapeDraws", fn := fun _ => fun
  | [d1, d2] => { results := [.lit (.bool false)], args := [d1, d2] }
  | _ => none }
def TapeDrawsWrongFalsely : Prop := tapeDrawsRow.holds Try.pinned (OpenSpec.ofChange tapeDrawsWrong)

/-- 'shallotlaw11.FrameSplits': WHATEVER THE INPUT: true; the input reads as it did. -/
def frameSplitsSpec : ChangeSpec := { name := "frameSplits", fn := fun _ => fun
  | [d1, d2, d3] => { results := [.lit (.bool true)], args := [d1, d2, d3] }
  | _ => none }
def frameSplitsRow : OpenClaim := { program := "ytnbofpojbpmdmaa", sum := "5378357057ef01241153f804727e29eb59be71b70164db8ca0845ecd0134a71c", func := "shallot/shallotlaw11.FrameSplits", spec := "frameSplits", inPlace := ["internal/bytealg.MakeNoZero"], apart := false }
def FrameSplitsSaid : Prop := frameSplitsRow.holds Try.pinned (OpenSpec.ofChange frameSplitsSpec)

/-- ITS FALSE NEIGHBOUR: 'it returns false'. Refute it at one input. -/
def frameSplitsWrong : ChangeSpec := { name := "frameSplits", fn := fun _ => fun
  | [d1, d2, d3] => { results := [.lit (.bool false)], args := [d1, d2, d3] }
  | _ => none }
def FrameSplitsWrongFalsely : Prop := frameSplitsRow.holds Try.pinned (OpenSpec.ofChange frameSplitsWrong)

/-- 'shallotlaw08.TapeKeeps': WHATEVER THE INPUT: true; the input reads as it did. -/
def tapeKeepsSpec : ChangeSpec := { name := "tapeKeeps", fn := fun _ => fun
  | [d] => { results := [.lit (.bool true)], args := [d] }
  | _ => none }
def tapeKeepsRow : OpenClaim := { program := "ytnbofpojbpmdmaa", sum := "5378357057ef01241153f804727e29eb59be71b70164db8ca0845ecd0134a71c", func := "shallot/shallotlaw08.TapeKeeps", spec := "tapeKeeps", unfollowed := true, recurses := true, apart := false }
def TapeKeepsSaid : Prop := tapeKeepsRow.holds Try.pinned (OpenSpec.ofChange tapeKeepsSpec)

/-- ITS FALSE NEIGHBOUR: 'it returns false'. Refute it at one input. -/
def tapeKeepsWrong : ChangeSpec := { name := "tapeKeeps", fn := fun _ => fun
  | [d] => { results := [.lit (.bool false)], args := [d] }
  | _ => none }
def TapeKeepsWrongFalsely : Prop := tapeKeepsRow.holds Try.pinned (OpenSpec.ofChange tapeKeepsWrong)

/-- 'shallotlaw16.SurbBlocks': WHATEVER THE INPUT: true; the input reads as it did. -/
def surbBlocksSpec : ChangeSpec := { name := "surbBlocks", fn := fun _ => fun
  | [d] => { results := [.lit (.bool true)], args := [d] }
  | _ => none }
def surbBlocksRow : OpenClaim := { program := "ytnbofpojbpmdmaa", sum := "5378357057ef01241153f804727e29eb59be71b70164db8ca0845ecd0134a71c", func := "shallot/shallotlaw16.SurbBlocks", spec := "surbBlocks", inPlace := ["internal/bytealg.MakeNoZero"], apart := false }
def SurbBlocksSaid : Prop := surbBlocksRow.holds Try.pinned (OpenSpec.ofChange surbBlocksSpec)

/-- ITS FALSE NEIGHBOUR: 'it returns false'. Refute it at one input. -/
def surbBlocksWrong : ChangeSpec := { name := "surbBlocks", fn := fun _ => fun
  | [d] => { results := [.lit (.bool false)], args := [d] }
  | _ => none }
def SurbBlocksWrongFalsely : Prop := surbBlocksRow.holds Try.pinned (OpenSpec.ofChange surbBlocksWrong)

/-- 'shallotlaw08.TapeFeeds': WHATEVER THE INPUT: true; the input reads as it did. -/
def tapeFeedsSpec : ChangeSpec := { name := "tapeFeeds", fn := fun _ => fun
  | [d1, d2, d3] => { results := [.lit (.bool true)], args := [d1, d2, d3] }
  | _ => none }
def tapeFeedsRow : OpenClaim := { program := "ytnbofpojbpmdmaa", sum := "5378357057ef01241153f804727e29eb59be71b70164db8ca0845ecd0134a71c", func := "shallot/shallotlaw08.TapeFeeds", spec := "tapeFeeds", unfollowed := true, recurses := true, apart := false }
def TapeFeedsSaid : Prop := tapeFeedsRow.holds Try.pinned (OpenSpec.ofChange tapeFeedsSpec)

/-- ITS FALSE NEIGHBOUR: 'it returns false'. Refute it at one input. -/
def tapeFeedsWrong : ChangeSpec := { name := "tapeFeeds", fn := fun _ => fun
  | [d1, d2, d3] => { results := [.lit (.bool false)], args := [d1, d2, d3] }
  | _ => none }
def TapeFeedsWrongFalsely : Prop := tapeFeedsRow.holds Try.pinned (OpenSpec.ofChange tapeFeedsWrong)

/-- 'shallotlaw11.FrameFrames': WHATEVER THE INPUT: true; the input reads as it did. -/
def frameFramesSpec : ChangeSpec := { name := "frameFrames", fn := fun _ => fun
  | [d] => { results := [.lit (.bool true)], args := [d] }
  | _ => none }
def frameFramesRow : OpenClaim := { program := "ytnbofpojbpmdmaa", sum := "5378357057ef01241153f804727e29eb59be71b70164db8ca0845ecd0134a71c", func := "shallot/shallotlaw11.FrameFrames", spec := "frameFrames", inPlace := ["internal/bytealg.MakeNoZero"], apart := false }
def FrameFramesSaid : Prop := frameFramesRow.holds Try.pinned (OpenSpec.ofChange frameFramesSpec)

/-- ITS FALSE NEIGHBOUR: 'it returns false'. Refute it at one input. -/
def frameFramesWrong : ChangeSpec := { name := "frameFrames", fn := fun _ => fun
  | [d] => { results := [.lit (.bool false)], args := [d] }
  | _ => none }
def FrameFramesWrongFalsely : Prop := frameFramesRow.holds Try.pinned (OpenSpec.ofChange frameFramesWrong)

/-- 'shallotlaw11.FrameParses': WHATEVER THE INPUT: true; the input reads as it did. -/
def frameParsesSpec : ChangeSpec := { name := "frameParses", fn := fun _ => fun
  | [d] => { results := [.lit (.bool true)], args := [d] }
  | _ => none }
def frameParsesRow : OpenClaim := { program := "ytnbofpojbpmdmaa", sum := "5378357057ef01241153f804727e29eb59be71b70164db8ca0845ecd0134a71c", func := "shallot/shallotlaw11.FrameParses", spec := "frameParses", inPlace := ["internal/bytealg.MakeNoZero"], apart := false }
def FrameParsesSaid : Prop := frameParsesRow.holds Try.pinned (OpenSpec.ofChange frameParsesSpec)

/-- ITS FALSE NEIGHBOUR: 'it returns false'. Refute it at one input. -/
def frameParsesWrong : ChangeSpec := { name := "frameParses", fn := fun _ => fun
  | [d] => { results := [.lit (.bool false)], args := [d] }
  | _ => none }
def FrameParsesWrongFalsely : Prop := frameParsesRow.holds Try.pinned (OpenSpec.ofChange frameParsesWrong)

/- THE SECOND FORM. 'bulk': how many values and letters a reading holds, each counted each time it is reached (what is shared counts as often as it is met; a slice's spare places count too). A statement '..UptoSaid' is the law's where the arguments, and the package variables that the reading takes, are together of bulk at most 1048576: NARROWER than '..Said'. Prove '..Said' where nothing that the law and all that it calls make is longer than what came in: it says more and counts as full. Else prove '..UptoSaid'. A law counts once. -/
mutual
def uptoBulk {H : Type} : DataW H → Nat
  | .lit (.string bytes) => bytes.length + 1
  | .lit _ => 1
  | .nil => 1
  | .ptr d => uptoBulk d + 1
  | .slice elems spare => uptoBulkAll elems + uptoBulkAll spare + 1
  | .agg parts => uptoBulkAll parts + 1
  | .iface _ d => uptoBulk d + 1
  | .map entries => uptoBulkEntries entries + 1
  | .held _ => 1
def uptoBulkAll {H : Type} : List (DataW H) → Nat
  | [] => 0
  | d :: r => uptoBulk d + uptoBulkAll r
def uptoBulkEntries {H : Type} : List (Lit × DataW H) → Nat
  | [] => 0
  | x :: r => uptoBulkEntry x + uptoBulkEntries r
def uptoBulkEntry {H : Type} : Lit × DataW H → Nat
  | (.string bytes, d) => bytes.length + uptoBulk d + 1
  | (_, d) => uptoBulk d + 1
 end
def uptoSmall : (H : Type) → List (DataW H) → Bool := fun _ ds => decide (uptoBulkAll ds ≤ 1048576)
def OpenSpec.upto (s : _root_.Go.ChangeSpec) : _root_.Go.OpenSpec := { _root_.Go.OpenSpec.ofChange s with cond := some uptoSmall }

/-- 'shallotlaw08.TapeAcks', WHERE WHAT IT READS IS OF BULK AT MOST 1048576: true; the input reads as it did. -/
def tapeAcksUptoRow : OpenClaim := { program := "ytnbofpojbpmdmaa", sum := "5378357057ef01241153f804727e29eb59be71b70164db8ca0845ecd0134a71c", func := "shallot/shallotlaw08.TapeAcks", spec := "tapeAcks", unfollowed := true, recurses := true, apart := false, narrowed := true }
def TapeAcksUptoSaid : Prop := tapeAcksUptoRow.holds Try.pinned (OpenSpec.upto tapeAcksSpec)

/-- 'shallotlaw14.PacketLeast', WHERE WHAT IT READS IS OF BULK AT MOST 1048576: true; the input reads as it did. -/
def packetLeastUptoRow : OpenClaim := { program := "ytnbofpojbpmdmaa", sum := "5378357057ef01241153f804727e29eb59be71b70164db8ca0845ecd0134a71c", func := "shallot/shallotlaw14.PacketLeast", spec := "packetLeast", inPlace := ["internal/bytealg.MakeNoZero"], apart := false, narrowed := true }
def PacketLeastUptoSaid : Prop := packetLeastUptoRow.holds Try.pinned (OpenSpec.upto packetLeastSpec)

/-- 'shallotlaw08.TapeDraws', WHERE WHAT IT READS IS OF BULK AT MOST 1048576: true; the input reads as it did. -/
def tapeDrawsUptoRow : OpenClaim := { program := "ytnbofpojbpmdmaa", sum := "5378357057ef01241153f804727e29eb59be71b70164db8ca0845ecd0134a71c", func := "shallot/shallotlaw08.TapeDraws", spec := "tapeDraws", apart := false, narrowed := true }
def TapeDrawsUptoSaid : Prop := tapeDrawsUptoRow.holds Try.pinned (OpenSpec.upto tapeDrawsSpec)

/-- 'shallotlaw11.FrameSplits', WHERE WHAT IT READS IS OF BULK AT MOST 1048576: true; the input reads as it did. -/
def frameSplitsUptoRow : OpenClaim := { program := "ytnbofpojbpmdmaa", sum := "5378357057ef01241153f804727e29eb59be71b70164db8ca0845ecd0134a71c", func := "shallot/shallotlaw11.FrameSplits", spec := "frameSplits", inPlace := ["internal/bytealg.MakeNoZero"], apart := false, narrowed := true }
def FrameSplitsUptoSaid : Prop := frameSplitsUptoRow.holds Try.pinned (OpenSpec.upto frameSplitsSpec)

/-- 'shallotlaw08.TapeKeeps', WHERE WHAT IT READS IS OF BULK AT MOST 1048576: true; the input reads as it did. -/
def tapeKeepsUptoRow : OpenClaim := { program := "ytnbofpojbpmdmaa", sum := "5378357057ef01241153f804727e29eb59be71b70164db8ca0845ecd0134a71c", func := "shallot/shallotlaw08.TapeKeeps", spec := "tapeKeeps", unfollowed := true, recurses := true, apart := false, narrowed := true }
def TapeKeepsUptoSaid : Prop := tapeKeepsUptoRow.holds Try.pinned (OpenSpec.upto tapeKeepsSpec)

/-- 'shallotlaw16.SurbBlocks', WHERE WHAT IT READS IS OF BULK AT MOST 1048576: true; the input reads as it did. -/
def surbBlocksUptoRow : OpenClaim := { program := "ytnbofpojbpmdmaa", sum := "5378357057ef01241153f804727e29eb59be71b70164db8ca0845ecd0134a71c", func := "shallot/shallotlaw16.SurbBlocks", spec := "surbBlocks", inPlace := ["internal/bytealg.MakeNoZero"], apart := false, narrowed := true }
def SurbBlocksUptoSaid : Prop := surbBlocksUptoRow.holds Try.pinned (OpenSpec.upto surbBlocksSpec)

/-- 'shallotlaw08.TapeFeeds', WHERE WHAT IT READS IS OF BULK AT MOST 1048576: true; the input reads as it did. -/
def tapeFeedsUptoRow : OpenClaim := { program := "ytnbofpojbpmdmaa", sum := "5378357057ef01241153f804727e29eb59be71b70164db8ca0845ecd0134a71c", func := "shallot/shallotlaw08.TapeFeeds", spec := "tapeFeeds", unfollowed := true, recurses := true, apart := false, narrowed := true }
def TapeFeedsUptoSaid : Prop := tapeFeedsUptoRow.holds Try.pinned (OpenSpec.upto tapeFeedsSpec)

/-- 'shallotlaw11.FrameFrames', WHERE WHAT IT READS IS OF BULK AT MOST 1048576: true; the input reads as it did. -/
def frameFramesUptoRow : OpenClaim := { program := "ytnbofpojbpmdmaa", sum := "5378357057ef01241153f804727e29eb59be71b70164db8ca0845ecd0134a71c", func := "shallot/shallotlaw11.FrameFrames", spec := "frameFrames", inPlace := ["internal/bytealg.MakeNoZero"], apart := false, narrowed := true }
def FrameFramesUptoSaid : Prop := frameFramesUptoRow.holds Try.pinned (OpenSpec.upto frameFramesSpec)

/-- 'shallotlaw11.FrameParses', WHERE WHAT IT READS IS OF BULK AT MOST 1048576: true; the input reads as it did. -/
def frameParsesUptoRow : OpenClaim := { program := "ytnbofpojbpmdmaa", sum := "5378357057ef01241153f804727e29eb59be71b70164db8ca0845ecd0134a71c", func := "shallot/shallotlaw11.FrameParses", spec := "frameParses", inPlace := ["internal/bytealg.MakeNoZero"], apart := false, narrowed := true }
def FrameParsesUptoSaid : Prop := frameParsesUptoRow.holds Try.pinned (OpenSpec.upto frameParsesSpec)

end Rows
end Go.Proofs.Ytnbofpojbpmdmaa
