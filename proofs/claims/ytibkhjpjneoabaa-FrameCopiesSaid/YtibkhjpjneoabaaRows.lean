/-
  No cell of these rows narrows 'for every input' (looked for: loops, veiled, ifaces, maps, wideKeys, modest, calm, conditions, laid).
  DERIVED. THE GIVEN ROWS OF THIS SEAT. 6 by the template 'for every input the law returns true; each argument reads behind the call as it read before'; 0 by the template 'total and deterministic' (their statements: YtibkhjpjneoabaaTotals.lean).
  GIVEN WITH THE SEED: the statements are not yours to turn. If you find one false, say at which input.
  Laid BY PROGRAM, IN A SANDBOX (cutbox-rows.mjs): the forced cells as the released guide's own fill.sh prints them over the translation 7abfa3c2d9523b76… (all of the seat's roots in one cut). By AI agents, Wed Nov 11 2026. No macro, syntax, notation, axiom, sorry.
-/
import Derived.Test.YtibkhjpjneoabaaChecked
import GoSem.Claim
import GoSem.ClaimJoined
import GoSem.ClaimMapViews
import Derived.JoinedTies
import Derived.KernelRfl
namespace Go.Proofs.Ytibkhjpjneoabaa
/- THE CELL 'sum', in the pinned program and in every row, IS THE sha256 OF THE DUMP (.gsa) THAT YtibkhjpjneoabaaProg.lean LOADS. Nothing in Lean hashes anything: it is a label: what it is worth is what the hold of that sum in a sandbox is worth. -/
noncomputable def Try.pinned : Pinned := { name := "ytibkhjpjneoabaa", sum := "7abfa3c2d9523b7695c7735e19d001c7ee356d72d3c96ec497cb6b7b44b679a2", checked := Try.checked }
namespace Rows
def none {H : Type} : Left H := { results := [], args := [] }

/-- 'phrasebooklaw25.FrameEncodes': WHATEVER THE INPUT: true; the input reads as it did. -/
def frameEncodesSpec : ChangeSpec := { name := "frameEncodes", fn := fun _ => fun
  | [d1, d2] => { results := [.lit (.bool true)], args := [d1, d2] }
  | _ => none }
def frameEncodesRow : OpenClaim := { program := "ytibkhjpjneoabaa", sum := "7abfa3c2d9523b7695c7735e19d001c7ee356d72d3c96ec497cb6b7b44b679a2", func := "phrasebook/phrasebooklaw25.FrameEncodes", spec := "frameEncodes", unfollowed := true, recurses := true, apart := false }
def FrameEncodesSaid : Prop := frameEncodesRow.holds Try.pinned (OpenSpec.ofChange frameEncodesSpec)

/-- ITS FALSE NEIGHBOUR: 'it returns false'. Refute it at one input. -/
def frameEncodesWrong : ChangeSpec := { name := "frameEncodes", fn := fun _ => fun
  | [d1, d2] => { results := [.lit (.bool false)], args := [d1, d2] }
  | _ => none }
def FrameEncodesWrongFalsely : Prop := frameEncodesRow.holds Try.pinned (OpenSpec.ofChange frameEncodesWrong)

/-- 'phrasebooklaw25.FrameFinds': WHATEVER THE INPUT: true; the input reads as it did. -/
def frameFindsSpec : ChangeSpec := { name := "frameFinds", fn := fun _ => fun
  | [d1, d2, d3] => { results := [.lit (.bool true)], args := [d1, d2, d3] }
  | _ => none }
def frameFindsRow : OpenClaim := { program := "ytibkhjpjneoabaa", sum := "7abfa3c2d9523b7695c7735e19d001c7ee356d72d3c96ec497cb6b7b44b679a2", func := "phrasebook/phrasebooklaw25.FrameFinds", spec := "frameFinds", unfollowed := true, recurses := true, apart := false }
def FrameFindsSaid : Prop := frameFindsRow.holds Try.pinned (OpenSpec.ofChange frameFindsSpec)

/-- ITS FALSE NEIGHBOUR: 'it returns false'. Refute it at one input. -/
def frameFindsWrong : ChangeSpec := { name := "frameFinds", fn := fun _ => fun
  | [d1, d2, d3] => { results := [.lit (.bool false)], args := [d1, d2, d3] }
  | _ => none }
def FrameFindsWrongFalsely : Prop := frameFindsRow.holds Try.pinned (OpenSpec.ofChange frameFindsWrong)

/-- 'phrasebooklaw25.FrameHolds': WHATEVER THE INPUT: true; the input reads as it did. -/
def frameHoldsSpec : ChangeSpec := { name := "frameHolds", fn := fun _ => fun
  | [d1, d2, d3] => { results := [.lit (.bool true)], args := [d1, d2, d3] }
  | _ => none }
def frameHoldsRow : OpenClaim := { program := "ytibkhjpjneoabaa", sum := "7abfa3c2d9523b7695c7735e19d001c7ee356d72d3c96ec497cb6b7b44b679a2", func := "phrasebook/phrasebooklaw25.FrameHolds", spec := "frameHolds", unfollowed := true, recurses := true, apart := false }
def FrameHoldsSaid : Prop := frameHoldsRow.holds Try.pinned (OpenSpec.ofChange frameHoldsSpec)

/-- ITS FALSE NEIGHBOUR: 'it returns false'. Refute it at one input. -/
def frameHoldsWrong : ChangeSpec := { name := "frameHolds", fn := fun _ => fun
  | [d1, d2, d3] => { results := [.lit (.bool false)], args := [d1, d2, d3] }
  | _ => none }
def FrameHoldsWrongFalsely : Prop := frameHoldsRow.holds Try.pinned (OpenSpec.ofChange frameHoldsWrong)

/-- 'phrasebooklaw25.FrameFeeds': WHATEVER THE INPUT: true; the input reads as it did. -/
def frameFeedsSpec : ChangeSpec := { name := "frameFeeds", fn := fun _ => fun
  | [d1, d2] => { results := [.lit (.bool true)], args := [d1, d2] }
  | _ => none }
def frameFeedsRow : OpenClaim := { program := "ytibkhjpjneoabaa", sum := "7abfa3c2d9523b7695c7735e19d001c7ee356d72d3c96ec497cb6b7b44b679a2", func := "phrasebook/phrasebooklaw25.FrameFeeds", spec := "frameFeeds", unfollowed := true, recurses := true, apart := false }
def FrameFeedsSaid : Prop := frameFeedsRow.holds Try.pinned (OpenSpec.ofChange frameFeedsSpec)

/-- ITS FALSE NEIGHBOUR: 'it returns false'. Refute it at one input. -/
def frameFeedsWrong : ChangeSpec := { name := "frameFeeds", fn := fun _ => fun
  | [d1, d2] => { results := [.lit (.bool false)], args := [d1, d2] }
  | _ => none }
def FrameFeedsWrongFalsely : Prop := frameFeedsRow.holds Try.pinned (OpenSpec.ofChange frameFeedsWrong)

/-- 'phrasebooklaw25.FrameCopies': WHATEVER THE INPUT: true; the input reads as it did. -/
def frameCopiesSpec : ChangeSpec := { name := "frameCopies", fn := fun _ => fun
  | [d1, d2, d3, d4] => { results := [.lit (.bool true)], args := [d1, d2, d3, d4] }
  | _ => none }
def frameCopiesRow : OpenClaim := { program := "ytibkhjpjneoabaa", sum := "7abfa3c2d9523b7695c7735e19d001c7ee356d72d3c96ec497cb6b7b44b679a2", func := "phrasebook/phrasebooklaw25.FrameCopies", spec := "frameCopies", unfollowed := true, recurses := true, apart := false }
def FrameCopiesSaid : Prop := frameCopiesRow.holds Try.pinned (OpenSpec.ofChange frameCopiesSpec)

/-- ITS FALSE NEIGHBOUR: 'it returns false'. Refute it at one input. -/
def frameCopiesWrong : ChangeSpec := { name := "frameCopies", fn := fun _ => fun
  | [d1, d2, d3, d4] => { results := [.lit (.bool false)], args := [d1, d2, d3, d4] }
  | _ => none }
def FrameCopiesWrongFalsely : Prop := frameCopiesRow.holds Try.pinned (OpenSpec.ofChange frameCopiesWrong)

/-- 'phrasebooklaw25.FrameNone': WHATEVER THE INPUT: true; the input reads as it did. -/
def frameNoneSpec : ChangeSpec := { name := "frameNone", fn := fun _ => fun
  | [d1, d2] => { results := [.lit (.bool true)], args := [d1, d2] }
  | _ => none }
def frameNoneRow : OpenClaim := { program := "ytibkhjpjneoabaa", sum := "7abfa3c2d9523b7695c7735e19d001c7ee356d72d3c96ec497cb6b7b44b679a2", func := "phrasebook/phrasebooklaw25.FrameNone", spec := "frameNone", unfollowed := true, recurses := true, apart := false }
def FrameNoneSaid : Prop := frameNoneRow.holds Try.pinned (OpenSpec.ofChange frameNoneSpec)

/-- ITS FALSE NEIGHBOUR: 'it returns false'. Refute it at one input. -/
def frameNoneWrong : ChangeSpec := { name := "frameNone", fn := fun _ => fun
  | [d1, d2] => { results := [.lit (.bool false)], args := [d1, d2] }
  | _ => none }
def FrameNoneWrongFalsely : Prop := frameNoneRow.holds Try.pinned (OpenSpec.ofChange frameNoneWrong)

/- THE SECOND FORM. 'bulk': how many values and letters a reading holds, each counted each time it is reached (what is shared counts as often as it is met; a slice's spare places count too). A statement '..UptoSaid' is the law's where the arguments, and the package variables that the reading takes, are together of bulk at most 1048576: NARROWER than '..Said'. Prove '..Said' where nothing that the law and all that it calls make is longer than what came in: it says more and counts as full. Else prove '..UptoSaid'. A law counts once. -/
mutual
def uptoBulk {H : Type} : DataW H → Nat
  | .lit (.string bytes) => bytes.length + 1
  | .lit _ => 1
  | .nil => 1
  | .ptr d => uptoBulk d + 1
  | .slice elems spare => uptoBulkAll elems + uptoBulkAll spare + 1
  | .agg parts => uptoBulkAll parts + 1
  | .iface _ d => uptoBulk d + 1
  | .map entries => uptoBulkEntries entries + 1
  | .held _ => 1
def uptoBulkAll {H : Type} : List (DataW H) → Nat
  | [] => 0
  | d :: r => uptoBulk d + uptoBulkAll r
def uptoBulkEntries {H : Type} : List (Lit × DataW H) → Nat
  | [] => 0
  | x :: r => uptoBulkEntry x + uptoBulkEntries r
def uptoBulkEntry {H : Type} : Lit × DataW H → Nat
  | (.string bytes, d) => bytes.length + uptoBulk d + 1
  | (_, d) => uptoBulk d + 1
 end
def uptoSmall : (H : Type) → List (DataW H) → Bool := fun _ ds => decide (uptoBulkAll ds ≤ 1048576)
def OpenSpec.upto (s : _root_.Go.ChangeSpec) : _root_.Go.OpenSpec := { _root_.Go.OpenSpec.ofChange s with cond := some uptoSmall }

/-- 'phrasebooklaw25.FrameEncodes', WHERE WHAT IT READS IS OF BULK AT MOST 1048576: true; the input reads as it did. -/
def frameEncodesUptoRow : OpenClaim := { program := "ytibkhjpjneoabaa", sum := "7abfa3c2d9523b7695c7735e19d001c7ee356d72d3c96ec497cb6b7b44b679a2", func := "phrasebook/phrasebooklaw25.FrameEncodes", spec := "frameEncodes", unfollowed := true, recurses := true, apart := false, narrowed := true }
def FrameEncodesUptoSaid : Prop := frameEncodesUptoRow.holds Try.pinned (OpenSpec.upto frameEncodesSpec)

/-- 'phrasebooklaw25.FrameFinds', WHERE WHAT IT READS IS OF BULK AT MOST 1048576: true; the input reads as it did. -/
def frameFindsUptoRow : OpenClaim := { program := "ytibkhjpjneoabaa", sum := "7abfa3c2d9523b7695c7735e19d001c7ee356d72d3c96ec497cb6b7b44b679a2", func := "phrasebook/phrasebooklaw25.FrameFinds", spec := "frameFinds", unfollowed := true, recurses := true, apart := false, narrowed := true }
def FrameFindsUptoSaid : Prop := frameFindsUptoRow.holds Try.pinned (OpenSpec.upto frameFindsSpec)

/-- 'phrasebooklaw25.FrameHolds', WHERE WHAT IT READS IS OF BULK AT MOST 1048576: true; the input reads as it did. -/
def frameHoldsUptoRow : OpenClaim := { program := "ytibkhjpjneoabaa", sum := "7abfa3c2d9523b7695c7735e19d001c7ee356d72d3c96ec497cb6b7b44b679a2", func := "phrasebook/phrasebooklaw25.FrameHolds", spec := "frameHolds", unfollowed := true, recurses := true, apart := false, narrowed := true }
def FrameHoldsUptoSaid : Prop := frameHoldsUptoRow.holds Try.pinned (OpenSpec.upto frameHoldsSpec)

/-- 'phrasebooklaw25.FrameFeeds', WHERE WHAT IT READS IS OF BULK AT MOST 1048576: true; the input reads as it did. -/
def frameFeedsUptoRow : OpenClaim := { program := "ytibkhjpjneoabaa", sum := "7abfa3c2d9523b7695c7735e19d001c7ee356d72d3c96ec497cb6b7b44b679a2", func := "phrasebook/phrasebooklaw25.FrameFeeds", spec := "frameFeeds", unfollowed := true, recurses := true, apart := false, narrowed := true }
def FrameFeedsUptoSaid : Prop := frameFeedsUptoRow.holds Try.pinned (OpenSpec.upto frameFeedsSpec)

/-- 'phrasebooklaw25.FrameCopies', WHERE WHAT IT READS IS OF BULK AT MOST 1048576: true; the input reads as it did. -/
def frameCopiesUptoRow : OpenClaim := { program := "ytibkhjpjneoabaa", sum := "7abfa3c2d9523b7695c7735e19d001c7ee356d72d3c96ec497cb6b7b44b679a2", func := "phrasebook/phrasebooklaw25.FrameCopies", spec := "frameCopies", unfollowed := true, recurses := true, apart := false, narrowed := true }
def FrameCopiesUptoSaid : Prop := frameCopiesUptoRow.holds Try.pinned (OpenSpec.upto frameCopiesSpec)

/-- 'phrasebooklaw25.FrameNone', WHERE WHAT IT READS IS OF BULK AT MOST 1048576: true; the input reads as it did. -/
def frameNoneUptoRow : OpenClaim := { program := "ytibkhjpjneoabaa", sum := "7abfa3c2d9523b7695c7735e19d001c7ee356d72d3c96ec497cb6b7b44b679a2", func := "phrasebook/phrasebooklaw25.FrameNone", spec := "frameNone", unfollowed := true, recurses := true, apart := false, narrowed := true }
def FrameNoneUptoSaid : Prop := frameNoneUptoRow.holds Try.pinned (OpenSpec.upto frameNoneSpec)

end Rows
end Go.Proofs.Ytibkhjpjneoabaa
