/-
  No cell of these rows narrows 'for every input' (looked for: loops, veiled, ifaces, maps, wideKeys, modest, calm, conditions, laid).
  DERIVED. THE GIVEN ROWS OF THIS SEAT. 6 by the template 'for every input the law returns true; each argument reads behind the call as it read before'; 0 by the template 'total and deterministic' (their statements: YtgbkoegmoelheaaTotals.lean).
  GIVEN WITH THE SEED: the statements are not yours to turn. If you find one false, say at which input.
  Laid BY PROGRAM, IN A SANDBOX (cutbox-rows.mjs): the forced cells as the released guide's own fill.sh prints them over the translation 46943414980d4c06… (all of the seat's roots in one cut). By AI agents, Wed Nov 11 2026. No macro, syntax, notation, axiom, sorry.
-/
import Derived.Test.YtgbkoegmoelheaaChecked
import GoSem.Claim
import GoSem.ClaimJoined
import GoSem.ClaimMapViews
import Derived.JoinedTies
import Derived.KernelRfl
namespace Go.Proofs.Ytgbkoegmoelheaa
/- THE CELL 'sum', in the pinned program and in every row, IS THE sha256 OF THE DUMP (.gsa) THAT YtgbkoegmoelheaaProg.lean LOADS. Nothing in Lean hashes anything: it is a label: what it is worth is what the hold of that sum in a sandbox is worth. -/
noncomputable def Try.pinned : Pinned := { name := "ytgbkoegmoelheaa", sum := "46943414980d4c0603a56e8f7015cd8a13443c01005f03bb43a10a84194dcf13", checked := Try.checked }
namespace Rows
def none {H : Type} : Left H := { results := [], args := [] }

/-- 'phrasebooklaw50.CaptureBlocks': WHATEVER THE INPUT: true; the input reads as it did. -/
def captureBlocksSpec : ChangeSpec := { name := "captureBlocks", fn := fun _ => fun
  | [d1, d2] => { results := [.lit (.bool true)], args := [d1, d2] }
  | _ => none }
def captureBlocksRow : OpenClaim := { program := "ytgbkoegmoelheaa", sum := "46943414980d4c0603a56e8f7015cd8a13443c01005f03bb43a10a84194dcf13", func := "phrasebook/phrasebooklaw50.CaptureBlocks", spec := "captureBlocks", unfollowed := true, recurses := true, apart := false }
def CaptureBlocksSaid : Prop := captureBlocksRow.holds Try.pinned (OpenSpec.ofChange captureBlocksSpec)

/-- ITS FALSE NEIGHBOUR: 'it returns false'. Refute it at one input. -/
def captureBlocksWrong : ChangeSpec := { name := "captureBlocks", fn := fun _ => fun
  | [d1, d2] => { results := [.lit (.bool false)], args := [d1, d2] }
  | _ => none }
def CaptureBlocksWrongFalsely : Prop := captureBlocksRow.holds Try.pinned (OpenSpec.ofChange captureBlocksWrong)

/-- 'phrasebooklaw50.CaptureDecodes': WHATEVER THE INPUT: true; the input reads as it did. -/
def captureDecodesSpec : ChangeSpec := { name := "captureDecodes", fn := fun _ => fun
  | [d] => { results := [.lit (.bool true)], args := [d] }
  | _ => none }
def captureDecodesRow : OpenClaim := { program := "ytgbkoegmoelheaa", sum := "46943414980d4c0603a56e8f7015cd8a13443c01005f03bb43a10a84194dcf13", func := "phrasebook/phrasebooklaw50.CaptureDecodes", spec := "captureDecodes", unfollowed := true, recurses := true, apart := false }
def CaptureDecodesSaid : Prop := captureDecodesRow.holds Try.pinned (OpenSpec.ofChange captureDecodesSpec)

/-- ITS FALSE NEIGHBOUR: 'it returns false'. Refute it at one input. -/
def captureDecodesWrong : ChangeSpec := { name := "captureDecodes", fn := fun _ => fun
  | [d] => { results := [.lit (.bool false)], args := [d] }
  | _ => none }
def CaptureDecodesWrongFalsely : Prop := captureDecodesRow.holds Try.pinned (OpenSpec.ofChange captureDecodesWrong)

/-- 'phrasebooklaw50.CaptureWrites': WHATEVER THE INPUT: true; the input reads as it did. -/
def captureWritesSpec : ChangeSpec := { name := "captureWrites", fn := fun _ => fun
  | [d] => { results := [.lit (.bool true)], args := [d] }
  | _ => none }
def captureWritesRow : OpenClaim := { program := "ytgbkoegmoelheaa", sum := "46943414980d4c0603a56e8f7015cd8a13443c01005f03bb43a10a84194dcf13", func := "phrasebook/phrasebooklaw50.CaptureWrites", spec := "captureWrites", unfollowed := true, recurses := true, apart := false }
def CaptureWritesSaid : Prop := captureWritesRow.holds Try.pinned (OpenSpec.ofChange captureWritesSpec)

/-- ITS FALSE NEIGHBOUR: 'it returns false'. Refute it at one input. -/
def captureWritesWrong : ChangeSpec := { name := "captureWrites", fn := fun _ => fun
  | [d] => { results := [.lit (.bool false)], args := [d] }
  | _ => none }
def CaptureWritesWrongFalsely : Prop := captureWritesRow.holds Try.pinned (OpenSpec.ofChange captureWritesWrong)

/-- 'phrasebooklaw50.CaptureBack': WHATEVER THE INPUT: true; the input reads as it did. -/
def captureBackSpec : ChangeSpec := { name := "captureBack", fn := fun _ => fun
  | [d1, d2, d3] => { results := [.lit (.bool true)], args := [d1, d2, d3] }
  | _ => none }
def captureBackRow : OpenClaim := { program := "ytgbkoegmoelheaa", sum := "46943414980d4c0603a56e8f7015cd8a13443c01005f03bb43a10a84194dcf13", func := "phrasebook/phrasebooklaw50.CaptureBack", spec := "captureBack", unfollowed := true, recurses := true, apart := false }
def CaptureBackSaid : Prop := captureBackRow.holds Try.pinned (OpenSpec.ofChange captureBackSpec)

/-- ITS FALSE NEIGHBOUR: 'it returns false'. Refute it at one input. -/
def captureBackWrong : ChangeSpec := { name := "captureBack", fn := fun _ => fun
  | [d1, d2, d3] => { results := [.lit (.bool false)], args := [d1, d2, d3] }
  | _ => none }
def CaptureBackWrongFalsely : Prop := captureBackRow.holds Try.pinned (OpenSpec.ofChange captureBackWrong)

/-- 'phrasebooklaw50.CaptureCopies': WHATEVER THE INPUT: true; the input reads as it did. -/
def captureCopiesSpec : ChangeSpec := { name := "captureCopies", fn := fun _ => fun
  | [d1, d2, d3] => { results := [.lit (.bool true)], args := [d1, d2, d3] }
  | _ => none }
def captureCopiesRow : OpenClaim := { program := "ytgbkoegmoelheaa", sum := "46943414980d4c0603a56e8f7015cd8a13443c01005f03bb43a10a84194dcf13", func := "phrasebook/phrasebooklaw50.CaptureCopies", spec := "captureCopies", unfollowed := true, recurses := true, apart := false }
def CaptureCopiesSaid : Prop := captureCopiesRow.holds Try.pinned (OpenSpec.ofChange captureCopiesSpec)

/-- ITS FALSE NEIGHBOUR: 'it returns false'. Refute it at one input. -/
def captureCopiesWrong : ChangeSpec := { name := "captureCopies", fn := fun _ => fun
  | [d1, d2, d3] => { results := [.lit (.bool false)], args := [d1, d2, d3] }
  | _ => none }
def CaptureCopiesWrongFalsely : Prop := captureCopiesRow.holds Try.pinned (OpenSpec.ofChange captureCopiesWrong)

/-- 'phrasebooklaw50.CaptureReads': WHATEVER THE INPUT: true; the input reads as it did. -/
def captureReadsSpec : ChangeSpec := { name := "captureReads", fn := fun _ => fun
  | [d1, d2] => { results := [.lit (.bool true)], args := [d1, d2] }
  | _ => none }
def captureReadsRow : OpenClaim := { program := "ytgbkoegmoelheaa", sum := "46943414980d4c0603a56e8f7015cd8a13443c01005f03bb43a10a84194dcf13", func := "phrasebook/phrasebooklaw50.CaptureReads", spec := "captureReads", unfollowed := true, recurses := true, apart := false }
def CaptureReadsSaid : Prop := captureReadsRow.holds Try.pinned (OpenSpec.ofChange captureReadsSpec)

/-- ITS FALSE NEIGHBOUR: 'it returns false'. Refute it at one input. -/
def captureReadsWrong : ChangeSpec := { name := "captureReads", fn := fun _ => fun
  | [d1, d2] => { results := [.lit (.bool false)], args := [d1, d2] }
  | _ => none }
def CaptureReadsWrongFalsely : Prop := captureReadsRow.holds Try.pinned (OpenSpec.ofChange captureReadsWrong)

/- THE SECOND FORM. 'bulk': how many values and letters a reading holds, each counted each time it is reached (what is shared counts as often as it is met; a slice's spare places count too). A statement '..UptoSaid' is the law's where the arguments, and the package variables that the reading takes, are together of bulk at most 1048576: NARROWER than '..Said'. Prove '..Said' where nothing that the law and all that it calls make is longer than what came in: it says more and counts as full. Else prove '..UptoSaid'. A law counts once. -/
mutual
def uptoBulk {H : Type} : DataW H → Nat
  | .lit (.string bytes) => bytes.length + 1
  | .lit _ => 1
  | .nil => 1
  | .ptr d => uptoBulk d + 1
  | .slice elems spare => uptoBulkAll elems + uptoBulkAll spare + 1
  | .agg parts => uptoBulkAll parts + 1
  | .iface _ d => uptoBulk d + 1
  | .map entries => uptoBulkEntries entries + 1
  | .held _ => 1
def uptoBulkAll {H : Type} : List (DataW H) → Nat
  | [] => 0
  | d :: r => uptoBulk d + uptoBulkAll r
def uptoBulkEntries {H : Type} : List (Lit × DataW H) → Nat
  | [] => 0
  | x :: r => uptoBulkEntry x + uptoBulkEntries r
def uptoBulkEntry {H : Type} : Lit × DataW H → Nat
  | (.string bytes, d) => bytes.length + uptoBulk d + 1
  | (_, d) => uptoBulk d + 1
 end
def uptoSmall : (H : Type) → List (DataW H) → Bool := fun _ ds => decide (uptoBulkAll ds ≤ 1048576)
def OpenSpec.upto (s : _root_.Go.ChangeSpec) : _root_.Go.OpenSpec := { _root_.Go.OpenSpec.ofChange s with cond := some uptoSmall }

/-- 'phrasebooklaw50.CaptureBlocks', WHERE WHAT IT READS IS OF BULK AT MOST 1048576: true; the input reads as it did. -/
def captureBlocksUptoRow : OpenClaim := { program := "ytgbkoegmoelheaa", sum := "46943414980d4c0603a56e8f7015cd8a13443c01005f03bb43a10a84194dcf13", func := "phrasebook/phrasebooklaw50.CaptureBlocks", spec := "captureBlocks", unfollowed := true, recurses := true, apart := false, narrowed := true }
def CaptureBlocksUptoSaid : Prop := captureBlocksUptoRow.holds Try.pinned (OpenSpec.upto captureBlocksSpec)

/-- 'phrasebooklaw50.CaptureDecodes', WHERE WHAT IT READS IS OF BULK AT MOST 1048576: true; the input reads as it did. -/
def captureDecodesUptoRow : OpenClaim := { program := "ytgbkoegmoelheaa", sum := "46943414980d4c0603a56e8f7015cd8a13443c01005f03bb43a10a84194dcf13", func := "phrasebook/phrasebooklaw50.CaptureDecodes", spec := "captureDecodes", unfollowed := true, recurses := true, apart := false, narrowed := true }
def CaptureDecodesUptoSaid : Prop := captureDecodesUptoRow.holds Try.pinned (OpenSpec.upto captureDecodesSpec)

/-- 'phrasebooklaw50.CaptureWrites', WHERE WHAT IT READS IS OF BULK AT MOST 1048576: true; the input reads as it did. -/
def captureWritesUptoRow : OpenClaim := { program := "ytgbkoegmoelheaa", sum := "46943414980d4c0603a56e8f7015cd8a13443c01005f03bb43a10a84194dcf13", func := "phrasebook/phrasebooklaw50.CaptureWrites", spec := "captureWrites", unfollowed := true, recurses := true, apart := false, narrowed := true }
def CaptureWritesUptoSaid : Prop := captureWritesUptoRow.holds Try.pinned (OpenSpec.upto captureWritesSpec)

/-- 'phrasebooklaw50.CaptureBack', WHERE WHAT IT READS IS OF BULK AT MOST 1048576: true; the input reads as it did. -/
def captureBackUptoRow : OpenClaim := { program := "ytgbkoegmoelheaa", sum := "46943414980d4c0603a56e8f7015cd8a13443c01005f03bb43a10a84194dcf13", func := "phrasebook/phrasebooklaw50.CaptureBack", spec := "captureBack", unfollowed := true, recurses := true, apart := false, narrowed := true }
def CaptureBackUptoSaid : Prop := captureBackUptoRow.holds Try.pinned (OpenSpec.upto captureBackSpec)

/-- 'phrasebooklaw50.CaptureCopies', WHERE WHAT IT READS IS OF BULK AT MOST 1048576: true; the input reads as it did. -/
def captureCopiesUptoRow : OpenClaim := { program := "ytgbkoegmoelheaa", sum := "46943414980d4c0603a56e8f7015cd8a13443c01005f03bb43a10a84194dcf13", func := "phrasebook/phrasebooklaw50.CaptureCopies", spec := "captureCopies", unfollowed := true, recurses := true, apart := false, narrowed := true }
def CaptureCopiesUptoSaid : Prop := captureCopiesUptoRow.holds Try.pinned (OpenSpec.upto captureCopiesSpec)

/-- 'phrasebooklaw50.CaptureReads', WHERE WHAT IT READS IS OF BULK AT MOST 1048576: true; the input reads as it did. -/
def captureReadsUptoRow : OpenClaim := { program := "ytgbkoegmoelheaa", sum := "46943414980d4c0603a56e8f7015cd8a13443c01005f03bb43a10a84194dcf13", func := "phrasebook/phrasebooklaw50.CaptureReads", spec := "captureReads", unfollowed := true, recurses := true, apart := false, narrowed := true }
def CaptureReadsUptoSaid : Prop := captureReadsUptoRow.holds Try.pinned (OpenSpec.upto captureReadsSpec)

end Rows
end Go.Proofs.Ytgbkoegmoelheaa
