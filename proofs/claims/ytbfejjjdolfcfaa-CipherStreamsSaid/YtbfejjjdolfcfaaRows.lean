/-
  No cell of these rows narrows 'for every input' (looked for: loops, veiled, ifaces, maps, wideKeys, modest, calm, conditions, laid).
  DERIVED. THE GIVEN ROWS OF THIS SEAT. 6 by the template 'for every input the law returns true; each argument reads behind the call as it read before'; 0 by the template 'total and deterministic' (their statements: YtbfejjjdolfcfaaTotals.lean).
  GIVEN WITH THE SEED: the statements are not yours to turn. If you find one false, say at which input.
  Laid BY PROGRAM, IN A SANDBOX (cutbox-rows.mjs): the forced cells as the released guide's own fill.sh prints them over the translation 4314b91b775b4460… (all of the seat's roots in one cut). By AI agents, Wed Nov 11 2026. No macro, syntax, notation, axiom, sorry.
-/
import Derived.Test.YtbfejjjdolfcfaaChecked
import GoSem.Claim
import GoSem.ClaimJoined
import GoSem.ClaimMapViews
import Derived.JoinedTies
import Derived.KernelRfl
namespace Go.Proofs.Ytbfejjjdolfcfaa
/- THE CELL 'sum', in the pinned program and in every row, IS THE sha256 OF THE DUMP (.gsa) THAT YtbfejjjdolfcfaaProg.lean LOADS. Nothing in Lean hashes anything: it is a label: what it is worth is what the hold of that sum in a sandbox is worth. -/
noncomputable def Try.pinned : Pinned := { name := "ytbfejjjdolfcfaa", sum := "4314b91b775b44607af9c25cd67caec52b2077e10dc9b3a3c89b989cd03d15d9", checked := Try.checked }
namespace Rows
def none {H : Type} : Left H := { results := [], args := [] }

/-- 'phrasebooklaw11.CipherQuarters': WHATEVER THE INPUT: true; the input reads as it did. -/
def cipherQuartersSpec : ChangeSpec := { name := "cipherQuarters", fn := fun _ => fun
  | [d1, d2, d3, d4] => { results := [.lit (.bool true)], args := [d1, d2, d3, d4] }
  | _ => none }
def cipherQuartersRow : OpenClaim := { program := "ytbfejjjdolfcfaa", sum := "4314b91b775b44607af9c25cd67caec52b2077e10dc9b3a3c89b989cd03d15d9", func := "phrasebook/phrasebooklaw11.CipherQuarters", spec := "cipherQuarters", unfollowed := true, recurses := true, apart := false }
def CipherQuartersSaid : Prop := cipherQuartersRow.holds Try.pinned (OpenSpec.ofChange cipherQuartersSpec)

/-- ITS FALSE NEIGHBOUR: 'it returns false'. Refute it at one input. -/
def cipherQuartersWrong : ChangeSpec := { name := "cipherQuarters", fn := fun _ => fun
  | [d1, d2, d3, d4] => { results := [.lit (.bool false)], args := [d1, d2, d3, d4] }
  | _ => none }
def CipherQuartersWrongFalsely : Prop := cipherQuartersRow.holds Try.pinned (OpenSpec.ofChange cipherQuartersWrong)

/-- 'phrasebooklaw11.CipherBlocks': WHATEVER THE INPUT: true; the input reads as it did. -/
def cipherBlocksSpec : ChangeSpec := { name := "cipherBlocks", fn := fun _ => fun
  | [d1, d2, d3] => { results := [.lit (.bool true)], args := [d1, d2, d3] }
  | _ => none }
def cipherBlocksRow : OpenClaim := { program := "ytbfejjjdolfcfaa", sum := "4314b91b775b44607af9c25cd67caec52b2077e10dc9b3a3c89b989cd03d15d9", func := "phrasebook/phrasebooklaw11.CipherBlocks", spec := "cipherBlocks", unfollowed := true, recurses := true, apart := false }
def CipherBlocksSaid : Prop := cipherBlocksRow.holds Try.pinned (OpenSpec.ofChange cipherBlocksSpec)

/-- ITS FALSE NEIGHBOUR: 'it returns false'. Refute it at one input. -/
def cipherBlocksWrong : ChangeSpec := { name := "cipherBlocks", fn := fun _ => fun
  | [d1, d2, d3] => { results := [.lit (.bool false)], args := [d1, d2, d3] }
  | _ => none }
def CipherBlocksWrongFalsely : Prop := cipherBlocksRow.holds Try.pinned (OpenSpec.ofChange cipherBlocksWrong)

/-- 'phrasebooklaw11.CipherXors': WHATEVER THE INPUT: true; the input reads as it did. -/
def cipherXorsSpec : ChangeSpec := { name := "cipherXors", fn := fun _ => fun
  | [d1, d2, d3] => { results := [.lit (.bool true)], args := [d1, d2, d3] }
  | _ => none }
def cipherXorsRow : OpenClaim := { program := "ytbfejjjdolfcfaa", sum := "4314b91b775b44607af9c25cd67caec52b2077e10dc9b3a3c89b989cd03d15d9", func := "phrasebook/phrasebooklaw11.CipherXors", spec := "cipherXors", unfollowed := true, recurses := true, apart := false }
def CipherXorsSaid : Prop := cipherXorsRow.holds Try.pinned (OpenSpec.ofChange cipherXorsSpec)

/-- ITS FALSE NEIGHBOUR: 'it returns false'. Refute it at one input. -/
def cipherXorsWrong : ChangeSpec := { name := "cipherXors", fn := fun _ => fun
  | [d1, d2, d3] => { results := [.lit (.bool false)], args := [d1, d2, d3] }
  | _ => none }
def CipherXorsWrongFalsely : Prop := cipherXorsRow.holds Try.pinned (OpenSpec.ofChange cipherXorsWrong)

/-- 'phrasebooklaw11.CipherTwice': WHATEVER THE INPUT: true; the input reads as it did. -/
def cipherTwiceSpec : ChangeSpec := { name := "cipherTwice", fn := fun _ => fun
  | [d1, d2, d3, d4] => { results := [.lit (.bool true)], args := [d1, d2, d3, d4] }
  | _ => none }
def cipherTwiceRow : OpenClaim := { program := "ytbfejjjdolfcfaa", sum := "4314b91b775b44607af9c25cd67caec52b2077e10dc9b3a3c89b989cd03d15d9", func := "phrasebook/phrasebooklaw11.CipherTwice", spec := "cipherTwice", unfollowed := true, recurses := true, apart := false }
def CipherTwiceSaid : Prop := cipherTwiceRow.holds Try.pinned (OpenSpec.ofChange cipherTwiceSpec)

/-- ITS FALSE NEIGHBOUR: 'it returns false'. Refute it at one input. -/
def cipherTwiceWrong : ChangeSpec := { name := "cipherTwice", fn := fun _ => fun
  | [d1, d2, d3, d4] => { results := [.lit (.bool false)], args := [d1, d2, d3, d4] }
  | _ => none }
def CipherTwiceWrongFalsely : Prop := cipherTwiceRow.holds Try.pinned (OpenSpec.ofChange cipherTwiceWrong)

/-- 'phrasebooklaw11.CipherNone': WHATEVER THE INPUT: true; the input reads as it did. -/
def cipherNoneSpec : ChangeSpec := { name := "cipherNone", fn := fun _ => fun
  | [d1, d2] => { results := [.lit (.bool true)], args := [d1, d2] }
  | _ => none }
def cipherNoneRow : OpenClaim := { program := "ytbfejjjdolfcfaa", sum := "4314b91b775b44607af9c25cd67caec52b2077e10dc9b3a3c89b989cd03d15d9", func := "phrasebook/phrasebooklaw11.CipherNone", spec := "cipherNone", unfollowed := true, recurses := true, apart := false }
def CipherNoneSaid : Prop := cipherNoneRow.holds Try.pinned (OpenSpec.ofChange cipherNoneSpec)

/-- ITS FALSE NEIGHBOUR: 'it returns false'. Refute it at one input. -/
def cipherNoneWrong : ChangeSpec := { name := "cipherNone", fn := fun _ => fun
  | [d1, d2] => { results := [.lit (.bool false)], args := [d1, d2] }
  | _ => none }
def CipherNoneWrongFalsely : Prop := cipherNoneRow.holds Try.pinned (OpenSpec.ofChange cipherNoneWrong)

/-- 'phrasebooklaw11.CipherStreams': WHATEVER THE INPUT: true; the input reads as it did. -/
def cipherStreamsSpec : ChangeSpec := { name := "cipherStreams", fn := fun _ => fun
  | [d1, d2] => { results := [.lit (.bool true)], args := [d1, d2] }
  | _ => none }
def cipherStreamsRow : OpenClaim := { program := "ytbfejjjdolfcfaa", sum := "4314b91b775b44607af9c25cd67caec52b2077e10dc9b3a3c89b989cd03d15d9", func := "phrasebook/phrasebooklaw11.CipherStreams", spec := "cipherStreams", unfollowed := true, recurses := true, apart := false }
def CipherStreamsSaid : Prop := cipherStreamsRow.holds Try.pinned (OpenSpec.ofChange cipherStreamsSpec)

/-- ITS FALSE NEIGHBOUR: 'it returns false'. Refute it at one input. -/
def cipherStreamsWrong : ChangeSpec := { name := "cipherStreams", fn := fun _ => fun
  | [d1, d2] => { results := [.lit (.bool false)], args := [d1, d2] }
  | _ => none }
def CipherStreamsWrongFalsely : Prop := cipherStreamsRow.holds Try.pinned (OpenSpec.ofChange cipherStreamsWrong)

/- THE SECOND FORM. 'bulk': how many values and letters a reading holds, each counted each time it is reached (what is shared counts as often as it is met; a slice's spare places count too). A statement '..UptoSaid' is the law's where the arguments, and the package variables that the reading takes, are together of bulk at most 1048576: NARROWER than '..Said'. Prove '..Said' where nothing that the law and all that it calls make is longer than what came in: it says more and counts as full. Else prove '..UptoSaid'. A law counts once. -/
mutual
def uptoBulk {H : Type} : DataW H → Nat
  | .lit (.string bytes) => bytes.length + 1
  | .lit _ => 1
  | .nil => 1
  | .ptr d => uptoBulk d + 1
  | .slice elems spare => uptoBulkAll elems + uptoBulkAll spare + 1
  | .agg parts => uptoBulkAll parts + 1
  | .iface _ d => uptoBulk d + 1
  | .map entries => uptoBulkEntries entries + 1
  | .held _ => 1
def uptoBulkAll {H : Type} : List (DataW H) → Nat
  | [] => 0
  | d :: r => uptoBulk d + uptoBulkAll r
def uptoBulkEntries {H : Type} : List (Lit × DataW H) → Nat
  | [] => 0
  | x :: r => uptoBulkEntry x + uptoBulkEntries r
def uptoBulkEntry {H : Type} : Lit × DataW H → Nat
  | (.string bytes, d) => bytes.length + uptoBulk d + 1
  | (_, d) => uptoBulk d + 1
 end
def uptoSmall : (H : Type) → List (DataW H) → Bool := fun _ ds => decide (uptoBulkAll ds ≤ 1048576)
def OpenSpec.upto (s : _root_.Go.ChangeSpec) : _root_.Go.OpenSpec := { _root_.Go.OpenSpec.ofChange s with cond := some uptoSmall }

/-- 'phrasebooklaw11.CipherQuarters', WHERE WHAT IT READS IS OF BULK AT MOST 1048576: true; the input reads as it did. -/
def cipherQuartersUptoRow : OpenClaim := { program := "ytbfejjjdolfcfaa", sum := "4314b91b775b44607af9c25cd67caec52b2077e10dc9b3a3c89b989cd03d15d9", func := "phrasebook/phrasebooklaw11.CipherQuarters", spec := "cipherQuarters", unfollowed := true, recurses := true, apart := false, narrowed := true }
def CipherQuartersUptoSaid : Prop := cipherQuartersUptoRow.holds Try.pinned (OpenSpec.upto cipherQuartersSpec)

/-- 'phrasebooklaw11.CipherBlocks', WHERE WHAT IT READS IS OF BULK AT MOST 1048576: true; the input reads as it did. -/
def cipherBlocksUptoRow : OpenClaim := { program := "ytbfejjjdolfcfaa", sum := "4314b91b775b44607af9c25cd67caec52b2077e10dc9b3a3c89b989cd03d15d9", func := "phrasebook/phrasebooklaw11.CipherBlocks", spec := "cipherBlocks", unfollowed := true, recurses := true, apart := false, narrowed := true }
def CipherBlocksUptoSaid : Prop := cipherBlocksUptoRow.holds Try.pinned (OpenSpec.upto cipherBlocksSpec)

/-- 'phrasebooklaw11.CipherXors', WHERE WHAT IT READS IS OF BULK AT MOST 1048576: true; the input reads as it did. -/
def cipherXorsUptoRow : OpenClaim := { program := "ytbfejjjdolfcfaa", sum := "4314b91b775b44607af9c25cd67caec52b2077e10dc9b3a3c89b989cd03d15d9", func := "phrasebook/phrasebooklaw11.CipherXors", spec := "cipherXors", unfollowed := true, recurses := true, apart := false, narrowed := true }
def CipherXorsUptoSaid : Prop := cipherXorsUptoRow.holds Try.pinned (OpenSpec.upto cipherXorsSpec)

/-- 'phrasebooklaw11.CipherTwice', WHERE WHAT IT READS IS OF BULK AT MOST 1048576: true; the input reads as it did. -/
def cipherTwiceUptoRow : OpenClaim := { program := "ytbfejjjdolfcfaa", sum := "4314b91b775b44607af9c25cd67caec52b2077e10dc9b3a3c89b989cd03d15d9", func := "phrasebook/phrasebooklaw11.CipherTwice", spec := "cipherTwice", unfollowed := true, recurses := true, apart := false, narrowed := true }
def CipherTwiceUptoSaid : Prop := cipherTwiceUptoRow.holds Try.pinned (OpenSpec.upto cipherTwiceSpec)

/-- 'phrasebooklaw11.CipherNone', WHERE WHAT IT READS IS OF BULK AT MOST 1048576: true; the input reads as it did. -/
def cipherNoneUptoRow : OpenClaim := { program := "ytbfejjjdolfcfaa", sum := "4314b91b775b44607af9c25cd67caec52b2077e10dc9b3a3c89b989cd03d15d9", func := "phrasebook/phrasebooklaw11.CipherNone", spec := "cipherNone", unfollowed := true, recurses := true, apart := false, narrowed := true }
def CipherNoneUptoSaid : Prop := cipherNoneUptoRow.holds Try.pinned (OpenSpec.upto cipherNoneSpec)

/-- 'phrasebooklaw11.CipherStreams', WHERE WHAT IT READS IS OF BULK AT MOST 1048576: true; the input reads as it did. -/
def cipherStreamsUptoRow : OpenClaim := { program := "ytbfejjjdolfcfaa", sum := "4314b91b775b44607af9c25cd67caec52b2077e10dc9b3a3c89b989cd03d15d9", func := "phrasebook/phrasebooklaw11.CipherStreams", spec := "cipherStreams", unfollowed := true, recurses := true, apart := false, narrowed := true }
def CipherStreamsUptoSaid : Prop := cipherStreamsUptoRow.holds Try.pinned (OpenSpec.upto cipherStreamsSpec)

end Rows
end Go.Proofs.Ytbfejjjdolfcfaa
