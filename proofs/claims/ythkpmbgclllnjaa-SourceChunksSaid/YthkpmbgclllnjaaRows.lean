/-
  No cell of these rows narrows 'for every input' (looked for: loops, veiled, ifaces, maps, wideKeys, modest, calm, conditions, laid).
  DERIVED. THE GIVEN ROWS OF THIS SEAT. 5 by the template 'for every input the law returns true; each argument reads behind the call as it read before'; 0 by the template 'total and deterministic' (their statements: YthkpmbgclllnjaaTotals.lean).
  GIVEN WITH THE SEED: the statements are not yours to turn. If you find one false, say at which input.
  Laid BY PROGRAM, IN A SANDBOX (cutbox-rows.mjs): the forced cells as the released guide's own fill.sh prints them over the translation 3687cdf1453ebc93… (all of the seat's roots in one cut). By AI agents, Wed Nov 11 2026. No macro, syntax, notation, axiom, sorry.
-/
import Derived.Test.YthkpmbgclllnjaaChecked
import GoSem.Claim
import GoSem.ClaimJoined
import GoSem.ClaimMapViews
import Derived.JoinedTies
import Derived.KernelRfl
namespace Go.Proofs.Ythkpmbgclllnjaa
/- THE CELL 'sum', in the pinned program and in every row, IS THE sha256 OF THE DUMP (.gsa) THAT YthkpmbgclllnjaaProg.lean LOADS. Nothing in Lean hashes anything: it is a label: what it is worth is what the hold of that sum in a sandbox is worth. -/
noncomputable def Try.pinned : Pinned := { name := "ythkpmbgclllnjaa", sum := "3687cdf1453ebc9364af563e4236c403546490f7519e3ad2b2ebcfcae76aa239", checked := Try.checked }
namespace Rows
def none {H : Type} : Left H := { results := [], args := [] }

/-- 'phrasebooklaw02.SourceCuts': WHATEVER THE INPUT: true; the input reads as it did. -/
def sourceCutsSpec : ChangeSpec := { name := "sourceCuts", fn := fun _ => fun
  | [d1, d2, d3] => { results := [.lit (.bool true)], args := [d1, d2, d3] }
  | _ => none }
def sourceCutsRow : OpenClaim := { program := "ythkpmbgclllnjaa", sum := "3687cdf1453ebc9364af563e4236c403546490f7519e3ad2b2ebcfcae76aa239", func := "phrasebook/phrasebooklaw02.SourceCuts", spec := "sourceCuts", inPlace := ["internal/bytealg.IndexByte"], unfollowed := true, recurses := true, apart := false }
def SourceCutsSaid : Prop := sourceCutsRow.holds Try.pinned (OpenSpec.ofChange sourceCutsSpec)

/-- ITS FALSE NEIGHBOUR: 'it returns false'. Refute it at one input. -/
def sourceCutsWrong : ChangeSpec := { name := "sourceCuts", fn := fun _ => fun
  | [d1, d2, d3] => { results := [.lit (.bool false)], args := [d1, d2, d3] }
  | _ => none }
def SourceCutsWrongFalsely : Prop := sourceCutsRow.holds Try.pinned (OpenSpec.ofChange sourceCutsWrong)

/-- 'phrasebooklaw02.SourcePlays': WHATEVER THE INPUT: true; the input reads as it did. -/
def sourcePlaysSpec : ChangeSpec := { name := "sourcePlays", fn := fun _ => fun
  | [d1, d2] => { results := [.lit (.bool true)], args := [d1, d2] }
  | _ => none }
def sourcePlaysRow : OpenClaim := { program := "ythkpmbgclllnjaa", sum := "3687cdf1453ebc9364af563e4236c403546490f7519e3ad2b2ebcfcae76aa239", func := "phrasebook/phrasebooklaw02.SourcePlays", spec := "sourcePlays", inPlace := ["internal/bytealg.IndexByte"], unfollowed := true, recurses := true, apart := false }
def SourcePlaysSaid : Prop := sourcePlaysRow.holds Try.pinned (OpenSpec.ofChange sourcePlaysSpec)

/-- ITS FALSE NEIGHBOUR: 'it returns false'. Refute it at one input. -/
def sourcePlaysWrong : ChangeSpec := { name := "sourcePlays", fn := fun _ => fun
  | [d1, d2] => { results := [.lit (.bool false)], args := [d1, d2] }
  | _ => none }
def SourcePlaysWrongFalsely : Prop := sourcePlaysRow.holds Try.pinned (OpenSpec.ofChange sourcePlaysWrong)

/-- 'phrasebooklaw02.SourceCopies': WHATEVER THE INPUT: true; the input reads as it did. -/
def sourceCopiesSpec : ChangeSpec := { name := "sourceCopies", fn := fun _ => fun
  | [d1, d2, d3, d4] => { results := [.lit (.bool true)], args := [d1, d2, d3, d4] }
  | _ => none }
def sourceCopiesRow : OpenClaim := { program := "ythkpmbgclllnjaa", sum := "3687cdf1453ebc9364af563e4236c403546490f7519e3ad2b2ebcfcae76aa239", func := "phrasebook/phrasebooklaw02.SourceCopies", spec := "sourceCopies", inPlace := ["internal/bytealg.IndexByte"], unfollowed := true, recurses := true, apart := false }
def SourceCopiesSaid : Prop := sourceCopiesRow.holds Try.pinned (OpenSpec.ofChange sourceCopiesSpec)

/-- ITS FALSE NEIGHBOUR: 'it returns false'. Refute it at one input. -/
def sourceCopiesWrong : ChangeSpec := { name := "sourceCopies", fn := fun _ => fun
  | [d1, d2, d3, d4] => { results := [.lit (.bool false)], args := [d1, d2, d3, d4] }
  | _ => none }
def SourceCopiesWrongFalsely : Prop := sourceCopiesRow.holds Try.pinned (OpenSpec.ofChange sourceCopiesWrong)

/-- 'phrasebooklaw02.SourceChunks': WHATEVER THE INPUT: true; the input reads as it did. -/
def sourceChunksSpec : ChangeSpec := { name := "sourceChunks", fn := fun _ => fun
  | [d1, d2, d3, d4] => { results := [.lit (.bool true)], args := [d1, d2, d3, d4] }
  | _ => none }
def sourceChunksRow : OpenClaim := { program := "ythkpmbgclllnjaa", sum := "3687cdf1453ebc9364af563e4236c403546490f7519e3ad2b2ebcfcae76aa239", func := "phrasebook/phrasebooklaw02.SourceChunks", spec := "sourceChunks", inPlace := ["internal/bytealg.IndexByte"], unfollowed := true, recurses := true, apart := false }
def SourceChunksSaid : Prop := sourceChunksRow.holds Try.pinned (OpenSpec.ofChange sourceChunksSpec)

/-- ITS FALSE NEIGHBOUR: 'it returns false'. Refute it at one input. -/
def sourceChunksWrong : ChangeSpec := { name := "sourceChunks", fn := fun _ => fun
  | [d1, d2, d3, d4] => { results := [.lit (.bool false)], args := [d1, d2, d3, d4] }
  | _ => none }
def SourceChunksWrongFalsely : Prop := sourceChunksRow.holds Try.pinned (OpenSpec.ofChange sourceChunksWrong)

/-- 'phrasebooklaw02.SourceNone': WHATEVER THE INPUT: true; the input reads as it did. -/
def sourceNoneSpec : ChangeSpec := { name := "sourceNone", fn := fun _ => fun
  | [d] => { results := [.lit (.bool true)], args := [d] }
  | _ => none }
def sourceNoneRow : OpenClaim := { program := "ythkpmbgclllnjaa", sum := "3687cdf1453ebc9364af563e4236c403546490f7519e3ad2b2ebcfcae76aa239", func := "phrasebook/phrasebooklaw02.SourceNone", spec := "sourceNone", inPlace := ["internal/bytealg.IndexByte"], unfollowed := true, recurses := true, apart := false }
def SourceNoneSaid : Prop := sourceNoneRow.holds Try.pinned (OpenSpec.ofChange sourceNoneSpec)

/-- ITS FALSE NEIGHBOUR: 'it returns false'. Refute it at one input. -/
def sourceNoneWrong : ChangeSpec := { name := "sourceNone", fn := fun _ => fun
  | [d] => { results := [.lit (.bool false)], args := [d] }
  | _ => none }
def SourceNoneWrongFalsely : Prop := sourceNoneRow.holds Try.pinned (OpenSpec.ofChange sourceNoneWrong)

/- THE SECOND FORM. 'bulk': how many values and letters a reading holds, each counted each time it is reached (what is shared counts as often as it is met; a slice's spare places count too). A statement '..UptoSaid' is the law's where the arguments, and the package variables that the reading takes, are together of bulk at most 1048576: NARROWER than '..Said'. Prove '..Said' where nothing that the law and all that it calls make is longer than what came in: it says more and counts as full. Else prove '..UptoSaid'. A law counts once. -/
mutual
def uptoBulk {H : Type} : DataW H → Nat
  | .lit (.string bytes) => bytes.length + 1
  | .lit _ => 1
  | .nil => 1
  | .ptr d => uptoBulk d + 1
  | .slice elems spare => uptoBulkAll elems + uptoBulkAll spare + 1
  | .agg parts => uptoBulkAll parts + 1
  | .iface _ d => uptoBulk d + 1
  | .map entries => uptoBulkEntries entries + 1
  | .held _ => 1
def uptoBulkAll {H : Type} : List (DataW H) → Nat
  | [] => 0
  | d :: r => uptoBulk d + uptoBulkAll r
def uptoBulkEntries {H : Type} : List (Lit × DataW H) → Nat
  | [] => 0
  | x :: r => uptoBulkEntry x + uptoBulkEntries r
def uptoBulkEntry {H : Type} : Lit × DataW H → Nat
  | (.string bytes, d) => bytes.length + uptoBulk d + 1
  | (_, d) => uptoBulk d + 1
 end
def uptoSmall : (H : Type) → List (DataW H) → Bool := fun _ ds => decide (uptoBulkAll ds ≤ 1048576)
def OpenSpec.upto (s : _root_.Go.ChangeSpec) : _root_.Go.OpenSpec := { _root_.Go.OpenSpec.ofChange s with cond := some uptoSmall }

/-- 'phrasebooklaw02.SourceCuts', WHERE WHAT IT READS IS OF BULK AT MOST 1048576: true; the input reads as it did. -/
def sourceCutsUptoRow : OpenClaim := { program := "ythkpmbgclllnjaa", sum := "3687cdf1453ebc9364af563e4236c403546490f7519e3ad2b2ebcfcae76aa239", func := "phrasebook/phrasebooklaw02.SourceCuts", spec := "sourceCuts", inPlace := ["internal/bytealg.IndexByte"], unfollowed := true, recurses := true, apart := false, narrowed := true }
def SourceCutsUptoSaid : Prop := sourceCutsUptoRow.holds Try.pinned (OpenSpec.upto sourceCutsSpec)

/-- 'phrasebooklaw02.SourcePlays', WHERE WHAT IT READS IS OF BULK AT MOST 1048576: true; the input reads as it did. -/
def sourcePlaysUptoRow : OpenClaim := { program := "ythkpmbgclllnjaa", sum := "3687cdf1453ebc9364af563e4236c403546490f7519e3ad2b2ebcfcae76aa239", func := "phrasebook/phrasebooklaw02.SourcePlays", spec := "sourcePlays", inPlace := ["internal/bytealg.IndexByte"], unfollowed := true, recurses := true, apart := false, narrowed := true }
def SourcePlaysUptoSaid : Prop := sourcePlaysUptoRow.holds Try.pinned (OpenSpec.upto sourcePlaysSpec)

/-- 'phrasebooklaw02.SourceCopies', WHERE WHAT IT READS IS OF BULK AT MOST 1048576: true; the input reads as it did. -/
def sourceCopiesUptoRow : OpenClaim := { program := "ythkpmbgclllnjaa", sum := "3687cdf1453ebc9364af563e4236c403546490f7519e3ad2b2ebcfcae76aa239", func := "phrasebook/phrasebooklaw02.SourceCopies", spec := "sourceCopies", inPlace := ["internal/bytealg.IndexByte"], unfollowed := true, recurses := true, apart := false, narrowed := true }
def SourceCopiesUptoSaid : Prop := sourceCopiesUptoRow.holds Try.pinned (OpenSpec.upto sourceCopiesSpec)

/-- 'phrasebooklaw02.SourceChunks', WHERE WHAT IT READS IS OF BULK AT MOST 1048576: true; the input reads as it did. -/
def sourceChunksUptoRow : OpenClaim := { program := "ythkpmbgclllnjaa", sum := "3687cdf1453ebc9364af563e4236c403546490f7519e3ad2b2ebcfcae76aa239", func := "phrasebook/phrasebooklaw02.SourceChunks", spec := "sourceChunks", inPlace := ["internal/bytealg.IndexByte"], unfollowed := true, recurses := true, apart := false, narrowed := true }
def SourceChunksUptoSaid : Prop := sourceChunksUptoRow.holds Try.pinned (OpenSpec.upto sourceChunksSpec)

/-- 'phrasebooklaw02.SourceNone', WHERE WHAT IT READS IS OF BULK AT MOST 1048576: true; the input reads as it did. -/
def sourceNoneUptoRow : OpenClaim := { program := "ythkpmbgclllnjaa", sum := "3687cdf1453ebc9364af563e4236c403546490f7519e3ad2b2ebcfcae76aa239", func := "phrasebook/phrasebooklaw02.SourceNone", spec := "sourceNone", inPlace := ["internal/bytealg.IndexByte"], unfollowed := true, recurses := true, apart := false, narrowed := true }
def SourceNoneUptoSaid : Prop := sourceNoneUptoRow.holds Try.pinned (OpenSpec.upto sourceNoneSpec)

end Rows
end Go.Proofs.Ythkpmbgclllnjaa
