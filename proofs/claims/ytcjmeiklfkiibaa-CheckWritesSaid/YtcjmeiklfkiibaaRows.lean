/-
  No cell of these rows narrows 'for every input' (looked for: loops, veiled, ifaces, maps, wideKeys, modest, calm, conditions, laid).
  DERIVED. THE GIVEN ROWS OF THIS SEAT. 8 by the template 'for every input the law returns true; each argument reads behind the call as it read before'; 0 by the template 'total and deterministic' (their statements: YtcjmeiklfkiibaaTotals.lean).
  GIVEN WITH THE SEED: the statements are not yours to turn. If you find one false, say at which input.
  Laid BY PROGRAM, IN A SANDBOX (cutbox-rows.mjs): the forced cells as the released guide's own fill.sh prints them over the translation 07475b29f6de77b9… (all of the seat's roots in one cut). By AI agents, Wed Nov 11 2026. No macro, syntax, notation, axiom, sorry.
-/
import Derived.Test.YtcjmeiklfkiibaaChecked
import GoSem.Claim
import GoSem.ClaimJoined
import GoSem.ClaimMapViews
import Derived.JoinedTies
import Derived.KernelRfl
namespace Go.Proofs.Ytcjmeiklfkiibaa
/- THE CELL 'sum', in the pinned program and in every row, IS THE sha256 OF THE DUMP (.gsa) THAT YtcjmeiklfkiibaaProg.lean LOADS. Nothing in Lean hashes anything: it is a label: what it is worth is what the hold of that sum in a sandbox is worth. -/
noncomputable def Try.pinned : Pinned := { name := "ytcjmeiklfkiibaa", sum := "07475b29f6de77b9865160dd22fd2245a9d32059394d05bea6ba30cce05ae584", checked := Try.checked }
namespace Rows
def none {H : Type} : Left H := { results := [], args := [] }

/-- 'phrasebooklaw10.CheckSums': WHATEVER THE INPUT: true; the input reads as it did. -/
def checkSumsSpec : ChangeSpec := { name := "checkSums", fn := fun _ => fun
  | [d1, d2] => { results := [.lit (.bool true)], args := [d1, d2] }
  | _ => none }
def checkSumsRow : OpenClaim := { program := "ytcjmeiklfkiibaa", sum := "07475b29f6de77b9865160dd22fd2245a9d32059394d05bea6ba30cce05ae584", func := "phrasebook/phrasebooklaw10.CheckSums", spec := "checkSums", unfollowed := true, recurses := true, apart := false }
def CheckSumsSaid : Prop := checkSumsRow.holds Try.pinned (OpenSpec.ofChange checkSumsSpec)

/-- ITS FALSE NEIGHBOUR: 'it returns false'. Refute it at one input. -/
def checkSumsWrong : ChangeSpec := { name := "checkSums", fn := fun _ => fun
  | [d1, d2] => { results := [.lit (.bool false)], args := [d1, d2] }
  | _ => none }
def CheckSumsWrongFalsely : Prop := checkSumsRow.holds Try.pinned (OpenSpec.ofChange checkSumsWrong)

/-- 'phrasebooklaw10.CheckBytes': WHATEVER THE INPUT: true; the input reads as it did. -/
def checkBytesSpec : ChangeSpec := { name := "checkBytes", fn := fun _ => fun
  | [d1, d2] => { results := [.lit (.bool true)], args := [d1, d2] }
  | _ => none }
def checkBytesRow : OpenClaim := { program := "ytcjmeiklfkiibaa", sum := "07475b29f6de77b9865160dd22fd2245a9d32059394d05bea6ba30cce05ae584", func := "phrasebook/phrasebooklaw10.CheckBytes", spec := "checkBytes", unfollowed := true, recurses := true, apart := false }
def CheckBytesSaid : Prop := checkBytesRow.holds Try.pinned (OpenSpec.ofChange checkBytesSpec)

/-- ITS FALSE NEIGHBOUR: 'it returns false'. Refute it at one input. -/
def checkBytesWrong : ChangeSpec := { name := "checkBytes", fn := fun _ => fun
  | [d1, d2] => { results := [.lit (.bool false)], args := [d1, d2] }
  | _ => none }
def CheckBytesWrongFalsely : Prop := checkBytesRow.holds Try.pinned (OpenSpec.ofChange checkBytesWrong)

/-- 'phrasebooklaw10.CheckFlips': WHATEVER THE INPUT: true; the input reads as it did. -/
def checkFlipsSpec : ChangeSpec := { name := "checkFlips", fn := fun _ => fun
  | [d1, d2] => { results := [.lit (.bool true)], args := [d1, d2] }
  | _ => none }
def checkFlipsRow : OpenClaim := { program := "ytcjmeiklfkiibaa", sum := "07475b29f6de77b9865160dd22fd2245a9d32059394d05bea6ba30cce05ae584", func := "phrasebook/phrasebooklaw10.CheckFlips", spec := "checkFlips", unfollowed := true, recurses := true, apart := false }
def CheckFlipsSaid : Prop := checkFlipsRow.holds Try.pinned (OpenSpec.ofChange checkFlipsSpec)

/-- ITS FALSE NEIGHBOUR: 'it returns false'. Refute it at one input. -/
def checkFlipsWrong : ChangeSpec := { name := "checkFlips", fn := fun _ => fun
  | [d1, d2] => { results := [.lit (.bool false)], args := [d1, d2] }
  | _ => none }
def CheckFlipsWrongFalsely : Prop := checkFlipsRow.holds Try.pinned (OpenSpec.ofChange checkFlipsWrong)

/-- 'phrasebooklaw10.CheckZeros': WHATEVER THE INPUT: true; the input reads as it did. -/
def checkZerosSpec : ChangeSpec := { name := "checkZeros", fn := fun _ => fun
  | [d] => { results := [.lit (.bool true)], args := [d] }
  | _ => none }
def checkZerosRow : OpenClaim := { program := "ytcjmeiklfkiibaa", sum := "07475b29f6de77b9865160dd22fd2245a9d32059394d05bea6ba30cce05ae584", func := "phrasebook/phrasebooklaw10.CheckZeros", spec := "checkZeros", unfollowed := true, recurses := true, apart := false }
def CheckZerosSaid : Prop := checkZerosRow.holds Try.pinned (OpenSpec.ofChange checkZerosSpec)

/-- ITS FALSE NEIGHBOUR: 'it returns false'. Refute it at one input. -/
def checkZerosWrong : ChangeSpec := { name := "checkZeros", fn := fun _ => fun
  | [d] => { results := [.lit (.bool false)], args := [d] }
  | _ => none }
def CheckZerosWrongFalsely : Prop := checkZerosRow.holds Try.pinned (OpenSpec.ofChange checkZerosWrong)

/-- 'phrasebooklaw10.CheckJoins': WHATEVER THE INPUT: true; the input reads as it did. -/
def checkJoinsSpec : ChangeSpec := { name := "checkJoins", fn := fun _ => fun
  | [d1, d2, d3] => { results := [.lit (.bool true)], args := [d1, d2, d3] }
  | _ => none }
def checkJoinsRow : OpenClaim := { program := "ytcjmeiklfkiibaa", sum := "07475b29f6de77b9865160dd22fd2245a9d32059394d05bea6ba30cce05ae584", func := "phrasebook/phrasebooklaw10.CheckJoins", spec := "checkJoins", unfollowed := true, recurses := true, apart := false }
def CheckJoinsSaid : Prop := checkJoinsRow.holds Try.pinned (OpenSpec.ofChange checkJoinsSpec)

/-- ITS FALSE NEIGHBOUR: 'it returns false'. Refute it at one input. -/
def checkJoinsWrong : ChangeSpec := { name := "checkJoins", fn := fun _ => fun
  | [d1, d2, d3] => { results := [.lit (.bool false)], args := [d1, d2, d3] }
  | _ => none }
def CheckJoinsWrongFalsely : Prop := checkJoinsRow.holds Try.pinned (OpenSpec.ofChange checkJoinsWrong)

/-- 'phrasebooklaw10.CheckDivides': WHATEVER THE INPUT: true; the input reads as it did. -/
def checkDividesSpec : ChangeSpec := { name := "checkDivides", fn := fun _ => fun
  | [d1, d2] => { results := [.lit (.bool true)], args := [d1, d2] }
  | _ => none }
def checkDividesRow : OpenClaim := { program := "ytcjmeiklfkiibaa", sum := "07475b29f6de77b9865160dd22fd2245a9d32059394d05bea6ba30cce05ae584", func := "phrasebook/phrasebooklaw10.CheckDivides", spec := "checkDivides", unfollowed := true, recurses := true, apart := false }
def CheckDividesSaid : Prop := checkDividesRow.holds Try.pinned (OpenSpec.ofChange checkDividesSpec)

/-- ITS FALSE NEIGHBOUR: 'it returns false'. Refute it at one input. -/
def checkDividesWrong : ChangeSpec := { name := "checkDivides", fn := fun _ => fun
  | [d1, d2] => { results := [.lit (.bool false)], args := [d1, d2] }
  | _ => none }
def CheckDividesWrongFalsely : Prop := checkDividesRow.holds Try.pinned (OpenSpec.ofChange checkDividesWrong)

/-- 'phrasebooklaw10.CheckWrites': WHATEVER THE INPUT: true; the input reads as it did. -/
def checkWritesSpec : ChangeSpec := { name := "checkWrites", fn := fun _ => fun
  | [d1, d2, d3] => { results := [.lit (.bool true)], args := [d1, d2, d3] }
  | _ => none }
def checkWritesRow : OpenClaim := { program := "ytcjmeiklfkiibaa", sum := "07475b29f6de77b9865160dd22fd2245a9d32059394d05bea6ba30cce05ae584", func := "phrasebook/phrasebooklaw10.CheckWrites", spec := "checkWrites", unfollowed := true, recurses := true, apart := false }
def CheckWritesSaid : Prop := checkWritesRow.holds Try.pinned (OpenSpec.ofChange checkWritesSpec)

/-- ITS FALSE NEIGHBOUR: 'it returns false'. Refute it at one input. -/
def checkWritesWrong : ChangeSpec := { name := "checkWrites", fn := fun _ => fun
  | [d1, d2, d3] => { results := [.lit (.bool false)], args := [d1, d2, d3] }
  | _ => none }
def CheckWritesWrongFalsely : Prop := checkWritesRow.holds Try.pinned (OpenSpec.ofChange checkWritesWrong)

/-- 'phrasebooklaw10.CheckNone': WHATEVER THE INPUT: true; the input reads as it did. -/
def checkNoneSpec : ChangeSpec := { name := "checkNone", fn := fun _ => fun
  | [d] => { results := [.lit (.bool true)], args := [d] }
  | _ => none }
def checkNoneRow : OpenClaim := { program := "ytcjmeiklfkiibaa", sum := "07475b29f6de77b9865160dd22fd2245a9d32059394d05bea6ba30cce05ae584", func := "phrasebook/phrasebooklaw10.CheckNone", spec := "checkNone", unfollowed := true, recurses := true, apart := false }
def CheckNoneSaid : Prop := checkNoneRow.holds Try.pinned (OpenSpec.ofChange checkNoneSpec)

/-- ITS FALSE NEIGHBOUR: 'it returns false'. Refute it at one input. -/
def checkNoneWrong : ChangeSpec := { name := "checkNone", fn := fun _ => fun
  | [d] => { results := [.lit (.bool false)], args := [d] }
  | _ => none }
def CheckNoneWrongFalsely : Prop := checkNoneRow.holds Try.pinned (OpenSpec.ofChange checkNoneWrong)

/- THE SECOND FORM. 'bulk': how many values and letters a reading holds, each counted each time it is reached (what is shared counts as often as it is met; a slice's spare places count too). A statement '..UptoSaid' is the law's where the arguments, and the package variables that the reading takes, are together of bulk at most 1048576: NARROWER than '..Said'. Prove '..Said' where nothing that the law and all that it calls make is longer than what came in: it says more and counts as full. Else prove '..UptoSaid'. A law counts once. -/
mutual
def uptoBulk {H : Type} : DataW H → Nat
  | .lit (.string bytes) => bytes.length + 1
  | .lit _ => 1
  | .nil => 1
  | .ptr d => uptoBulk d + 1
  | .slice elems spare => uptoBulkAll elems + uptoBulkAll spare + 1
  | .agg parts => uptoBulkAll parts + 1
  | .iface _ d => uptoBulk d + 1
  | .map entries => uptoBulkEntries entries + 1
  | .held _ => 1
def uptoBulkAll {H : Type} : List (DataW H) → Nat
  | [] => 0
  | d :: r => uptoBulk d + uptoBulkAll r
def uptoBulkEntries {H : Type} : List (Lit × DataW H) → Nat
  | [] => 0
  | x :: r => uptoBulkEntry x + uptoBulkEntries r
def uptoBulkEntry {H : Type} : Lit × DataW H → Nat
  | (.string bytes, d) => bytes.length + uptoBulk d + 1
  | (_, d) => uptoBulk d + 1
 end
def uptoSmall : (H : Type) → List (DataW H) → Bool := fun _ ds => decide (uptoBulkAll ds ≤ 1048576)
def OpenSpec.upto (s : _root_.Go.ChangeSpec) : _root_.Go.OpenSpec := { _root_.Go.OpenSpec.ofChange s with cond := some uptoSmall }

/-- 'phrasebooklaw10.CheckSums', WHERE WHAT IT READS IS OF BULK AT MOST 1048576: true; the input reads as it did. -/
def checkSumsUptoRow : OpenClaim := { program := "ytcjmeiklfkiibaa", sum := "07475b29f6de77b9865160dd22fd2245a9d32059394d05bea6ba30cce05ae584", func := "phrasebook/phrasebooklaw10.CheckSums", spec := "checkSums", unfollowed := true, recurses := true, apart := false, narrowed := true }
def CheckSumsUptoSaid : Prop := checkSumsUptoRow.holds Try.pinned (OpenSpec.upto checkSumsSpec)

/-- 'phrasebooklaw10.CheckBytes', WHERE WHAT IT READS IS OF BULK AT MOST 1048576: true; the input reads as it did. -/
def checkBytesUptoRow : OpenClaim := { program := "ytcjmeiklfkiibaa", sum := "07475b29f6de77b9865160dd22fd2245a9d32059394d05bea6ba30cce05ae584", func := "phrasebook/phrasebooklaw10.CheckBytes", spec := "checkBytes", unfollowed := true, recurses := true, apart := false, narrowed := true }
def CheckBytesUptoSaid : Prop := checkBytesUptoRow.holds Try.pinned (OpenSpec.upto checkBytesSpec)

/-- 'phrasebooklaw10.CheckFlips', WHERE WHAT IT READS IS OF BULK AT MOST 1048576: true; the input reads as it did. -/
def checkFlipsUptoRow : OpenClaim := { program := "ytcjmeiklfkiibaa", sum := "07475b29f6de77b9865160dd22fd2245a9d32059394d05bea6ba30cce05ae584", func := "phrasebook/phrasebooklaw10.CheckFlips", spec := "checkFlips", unfollowed := true, recurses := true, apart := false, narrowed := true }
def CheckFlipsUptoSaid : Prop := checkFlipsUptoRow.holds Try.pinned (OpenSpec.upto checkFlipsSpec)

/-- 'phrasebooklaw10.CheckZeros', WHERE WHAT IT READS IS OF BULK AT MOST 1048576: true; the input reads as it did. -/
def checkZerosUptoRow : OpenClaim := { program := "ytcjmeiklfkiibaa", sum := "07475b29f6de77b9865160dd22fd2245a9d32059394d05bea6ba30cce05ae584", func := "phrasebook/phrasebooklaw10.CheckZeros", spec := "checkZeros", unfollowed := true, recurses := true, apart := false, narrowed := true }
def CheckZerosUptoSaid : Prop := checkZerosUptoRow.holds Try.pinned (OpenSpec.upto checkZerosSpec)

/-- 'phrasebooklaw10.CheckJoins', WHERE WHAT IT READS IS OF BULK AT MOST 1048576: true; the input reads as it did. -/
def checkJoinsUptoRow : OpenClaim := { program := "ytcjmeiklfkiibaa", sum := "07475b29f6de77b9865160dd22fd2245a9d32059394d05bea6ba30cce05ae584", func := "phrasebook/phrasebooklaw10.CheckJoins", spec := "checkJoins", unfollowed := true, recurses := true, apart := false, narrowed := true }
def CheckJoinsUptoSaid : Prop := checkJoinsUptoRow.holds Try.pinned (OpenSpec.upto checkJoinsSpec)

/-- 'phrasebooklaw10.CheckDivides', WHERE WHAT IT READS IS OF BULK AT MOST 1048576: true; the input reads as it did. -/
def checkDividesUptoRow : OpenClaim := { program := "ytcjmeiklfkiibaa", sum := "07475b29f6de77b9865160dd22fd2245a9d32059394d05bea6ba30cce05ae584", func := "phrasebook/phrasebooklaw10.CheckDivides", spec := "checkDivides", unfollowed := true, recurses := true, apart := false, narrowed := true }
def CheckDividesUptoSaid : Prop := checkDividesUptoRow.holds Try.pinned (OpenSpec.upto checkDividesSpec)

/-- 'phrasebooklaw10.CheckWrites', WHERE WHAT IT READS IS OF BULK AT MOST 1048576: true; the input reads as it did. -/
def checkWritesUptoRow : OpenClaim := { program := "ytcjmeiklfkiibaa", sum := "07475b29f6de77b9865160dd22fd2245a9d32059394d05bea6ba30cce05ae584", func := "phrasebook/phrasebooklaw10.CheckWrites", spec := "checkWrites", unfollowed := true, recurses := true, apart := false, narrowed := true }
def CheckWritesUptoSaid : Prop := checkWritesUptoRow.holds Try.pinned (OpenSpec.upto checkWritesSpec)

/-- 'phrasebooklaw10.CheckNone', WHERE WHAT IT READS IS OF BULK AT MOST 1048576: true; the input reads as it did. -/
def checkNoneUptoRow : OpenClaim := { program := "ytcjmeiklfkiibaa", sum := "07475b29f6de77b9865160dd22fd2245a9d32059394d05bea6ba30cce05ae584", func := "phrasebook/phrasebooklaw10.CheckNone", spec := "checkNone", unfollowed := true, recurses := true, apart := false, narrowed := true }
def CheckNoneUptoSaid : Prop := checkNoneUptoRow.holds Try.pinned (OpenSpec.upto checkNoneSpec)

end Rows
end Go.Proofs.Ytcjmeiklfkiibaa
