/-
  No cell of these rows narrows 'for every input' (looked for: loops, veiled, ifaces, maps, wideKeys, modest, calm, conditions, laid).
  DERIVED. THE GIVEN ROWS OF THIS SEAT. 6 by the template 'for every input the law returns true; each argument reads behind the call as it read before'; 0 by the template 'total and deterministic' (their statements: YthgbnpafhkhjpaaTotals.lean).
  GIVEN WITH THE SEED: the statements are not yours to turn. If you find one false, say at which input.
  Laid BY PROGRAM, IN A SANDBOX (cutbox-rows.mjs): the forced cells as the released guide's own fill.sh prints them over the translation dad83b225f95ad64… (all of the seat's roots in one cut). By AI agents, Wed Nov 11 2026. No macro, syntax, notation, axiom, sorry.
-/
import Derived.Test.YthgbnpafhkhjpaaChecked
import GoSem.Claim
import GoSem.ClaimJoined
import GoSem.ClaimMapViews
import Derived.JoinedTies
import Derived.KernelRfl
namespace Go.Proofs.Ythgbnpafhkhjpaa
/- THE CELL 'sum', in the pinned program and in every row, IS THE sha256 OF THE DUMP (.gsa) THAT YthgbnpafhkhjpaaProg.lean LOADS. Nothing in Lean hashes anything: it is a label: what it is worth is what the hold of that sum in a sandbox is worth. -/
noncomputable def Try.pinned : Pinned := { name := "ythgbnpafhkhjpaa", sum := "dad83b225f95ad644eafa47203c4e4c0dff13ecbb081cb805d082a7714b56ec3", checked := Try.checked }
namespace Rows
def none {H : Type} : Left H := { results := [], args := [] }

/-- 'phrasebooklaw01.BitsJoins': WHATEVER THE INPUT: true; the input reads as it did. -/
def bitsJoinsSpec : ChangeSpec := { name := "bitsJoins", fn := fun _ => fun
  | [d1, d2, d3, d4, d5] => { results := [.lit (.bool true)], args := [d1, d2, d3, d4, d5] }
  | _ => none }
def bitsJoinsRow : OpenClaim := { program := "ythgbnpafhkhjpaa", sum := "dad83b225f95ad644eafa47203c4e4c0dff13ecbb081cb805d082a7714b56ec3", func := "phrasebook/phrasebooklaw01.BitsJoins", spec := "bitsJoins", unfollowed := true, recurses := true, apart := false }
def BitsJoinsSaid : Prop := bitsJoinsRow.holds Try.pinned (OpenSpec.ofChange bitsJoinsSpec)

/-- ITS FALSE NEIGHBOUR: 'it returns false'. Refute it at one input. -/
def bitsJoinsWrong : ChangeSpec := { name := "bitsJoins", fn := fun _ => fun
  | [d1, d2, d3, d4, d5] => { results := [.lit (.bool false)], args := [d1, d2, d3, d4, d5] }
  | _ => none }
def BitsJoinsWrongFalsely : Prop := bitsJoinsRow.holds Try.pinned (OpenSpec.ofChange bitsJoinsWrong)

/-- 'phrasebooklaw01.BitsInverts': WHATEVER THE INPUT: true; the input reads as it did. -/
def bitsInvertsSpec : ChangeSpec := { name := "bitsInverts", fn := fun _ => fun
  | [d] => { results := [.lit (.bool true)], args := [d] }
  | _ => none }
def bitsInvertsRow : OpenClaim := { program := "ythgbnpafhkhjpaa", sum := "dad83b225f95ad644eafa47203c4e4c0dff13ecbb081cb805d082a7714b56ec3", func := "phrasebook/phrasebooklaw01.BitsInverts", spec := "bitsInverts", unfollowed := true, recurses := true, apart := false }
def BitsInvertsSaid : Prop := bitsInvertsRow.holds Try.pinned (OpenSpec.ofChange bitsInvertsSpec)

/-- ITS FALSE NEIGHBOUR: 'it returns false'. Refute it at one input. -/
def bitsInvertsWrong : ChangeSpec := { name := "bitsInverts", fn := fun _ => fun
  | [d] => { results := [.lit (.bool false)], args := [d] }
  | _ => none }
def BitsInvertsWrongFalsely : Prop := bitsInvertsRow.holds Try.pinned (OpenSpec.ofChange bitsInvertsWrong)

/-- 'phrasebooklaw01.BitsReads': WHATEVER THE INPUT: true; the input reads as it did. -/
def bitsReadsSpec : ChangeSpec := { name := "bitsReads", fn := fun _ => fun
  | [d1, d2, d3] => { results := [.lit (.bool true)], args := [d1, d2, d3] }
  | _ => none }
def bitsReadsRow : OpenClaim := { program := "ythgbnpafhkhjpaa", sum := "dad83b225f95ad644eafa47203c4e4c0dff13ecbb081cb805d082a7714b56ec3", func := "phrasebook/phrasebooklaw01.BitsReads", spec := "bitsReads", unfollowed := true, recurses := true, apart := false }
def BitsReadsSaid : Prop := bitsReadsRow.holds Try.pinned (OpenSpec.ofChange bitsReadsSpec)

/-- ITS FALSE NEIGHBOUR: 'it returns false'. Refute it at one input. -/
def bitsReadsWrong : ChangeSpec := { name := "bitsReads", fn := fun _ => fun
  | [d1, d2, d3] => { results := [.lit (.bool false)], args := [d1, d2, d3] }
  | _ => none }
def BitsReadsWrongFalsely : Prop := bitsReadsRow.holds Try.pinned (OpenSpec.ofChange bitsReadsWrong)

/-- 'phrasebooklaw01.BitsWrites': WHATEVER THE INPUT: true; the input reads as it did. -/
def bitsWritesSpec : ChangeSpec := { name := "bitsWrites", fn := fun _ => fun
  | [d1, d2] => { results := [.lit (.bool true)], args := [d1, d2] }
  | _ => none }
def bitsWritesRow : OpenClaim := { program := "ythgbnpafhkhjpaa", sum := "dad83b225f95ad644eafa47203c4e4c0dff13ecbb081cb805d082a7714b56ec3", func := "phrasebook/phrasebooklaw01.BitsWrites", spec := "bitsWrites", unfollowed := true, recurses := true, apart := false }
def BitsWritesSaid : Prop := bitsWritesRow.holds Try.pinned (OpenSpec.ofChange bitsWritesSpec)

/-- ITS FALSE NEIGHBOUR: 'it returns false'. Refute it at one input. -/
def bitsWritesWrong : ChangeSpec := { name := "bitsWrites", fn := fun _ => fun
  | [d1, d2] => { results := [.lit (.bool false)], args := [d1, d2] }
  | _ => none }
def BitsWritesWrongFalsely : Prop := bitsWritesRow.holds Try.pinned (OpenSpec.ofChange bitsWritesWrong)

/-- 'phrasebooklaw01.BitsYields': WHATEVER THE INPUT: true; the input reads as it did. -/
def bitsYieldsSpec : ChangeSpec := { name := "bitsYields", fn := fun _ => fun
  | [d1, d2, d3] => { results := [.lit (.bool true)], args := [d1, d2, d3] }
  | _ => none }
def bitsYieldsRow : OpenClaim := { program := "ythgbnpafhkhjpaa", sum := "dad83b225f95ad644eafa47203c4e4c0dff13ecbb081cb805d082a7714b56ec3", func := "phrasebook/phrasebooklaw01.BitsYields", spec := "bitsYields", unfollowed := true, recurses := true, apart := false }
def BitsYieldsSaid : Prop := bitsYieldsRow.holds Try.pinned (OpenSpec.ofChange bitsYieldsSpec)

/-- ITS FALSE NEIGHBOUR: 'it returns false'. Refute it at one input. -/
def bitsYieldsWrong : ChangeSpec := { name := "bitsYields", fn := fun _ => fun
  | [d1, d2, d3] => { results := [.lit (.bool false)], args := [d1, d2, d3] }
  | _ => none }
def BitsYieldsWrongFalsely : Prop := bitsYieldsRow.holds Try.pinned (OpenSpec.ofChange bitsYieldsWrong)

/-- 'phrasebooklaw01.BitsNone': WHATEVER THE INPUT: true; the input reads as it did. -/
def bitsNoneSpec : ChangeSpec := { name := "bitsNone", fn := fun _ => fun
  | [d] => { results := [.lit (.bool true)], args := [d] }
  | _ => none }
def bitsNoneRow : OpenClaim := { program := "ythgbnpafhkhjpaa", sum := "dad83b225f95ad644eafa47203c4e4c0dff13ecbb081cb805d082a7714b56ec3", func := "phrasebook/phrasebooklaw01.BitsNone", spec := "bitsNone", unfollowed := true, recurses := true, apart := false }
def BitsNoneSaid : Prop := bitsNoneRow.holds Try.pinned (OpenSpec.ofChange bitsNoneSpec)

/-- ITS FALSE NEIGHBOUR: 'it returns false'. Refute it at one input. -/
def bitsNoneWrong : ChangeSpec := { name := "bitsNone", fn := fun _ => fun
  | [d] => { results := [.lit (.bool false)], args := [d] }
  | _ => none }
def BitsNoneWrongFalsely : Prop := bitsNoneRow.holds Try.pinned (OpenSpec.ofChange bitsNoneWrong)

/- THE SECOND FORM. 'bulk': how many values and letters a reading holds, each counted each time it is reached (what is shared counts as often as it is met; a slice's spare places count too). A statement '..UptoSaid' is the law's where the arguments, and the package variables that the reading takes, are together of bulk at most 1048576: NARROWER than '..Said'. Prove '..Said' where nothing that the law and all that it calls make is longer than what came in: it says more and counts as full. Else prove '..UptoSaid'. A law counts once. -/
mutual
def uptoBulk {H : Type} : DataW H → Nat
  | .lit (.string bytes) => bytes.length + 1
  | .lit _ => 1
  | .nil => 1
  | .ptr d => uptoBulk d + 1
  | .slice elems spare => uptoBulkAll elems + uptoBulkAll spare + 1
  | .agg parts => uptoBulkAll parts + 1
  | .iface _ d => uptoBulk d + 1
  | .map entries => uptoBulkEntries entries + 1
  | .held _ => 1
def uptoBulkAll {H : Type} : List (DataW H) → Nat
  | [] => 0
  | d :: r => uptoBulk d + uptoBulkAll r
def uptoBulkEntries {H : Type} : List (Lit × DataW H) → Nat
  | [] => 0
  | x :: r => uptoBulkEntry x + uptoBulkEntries r
def uptoBulkEntry {H : Type} : Lit × DataW H → Nat
  | (.string bytes, d) => bytes.length + uptoBulk d + 1
  | (_, d) => uptoBulk d + 1
 end
def uptoSmall : (H : Type) → List (DataW H) → Bool := fun _ ds => decide (uptoBulkAll ds ≤ 1048576)
def OpenSpec.upto (s : _root_.Go.ChangeSpec) : _root_.Go.OpenSpec := { _root_.Go.OpenSpec.ofChange s with cond := some uptoSmall }

/-- 'phrasebooklaw01.BitsJoins', WHERE WHAT IT READS IS OF BULK AT MOST 1048576: true; the input reads as it did. -/
def bitsJoinsUptoRow : OpenClaim := { program := "ythgbnpafhkhjpaa", sum := "dad83b225f95ad644eafa47203c4e4c0dff13ecbb081cb805d082a7714b56ec3", func := "phrasebook/phrasebooklaw01.BitsJoins", spec := "bitsJoins", unfollowed := true, recurses := true, apart := false, narrowed := true }
def BitsJoinsUptoSaid : Prop := bitsJoinsUptoRow.holds Try.pinned (OpenSpec.upto bitsJoinsSpec)

/-- 'phrasebooklaw01.BitsInverts', WHERE WHAT IT READS IS OF BULK AT MOST 1048576: true; the input reads as it did. -/
def bitsInvertsUptoRow : OpenClaim := { program := "ythgbnpafhkhjpaa", sum := "dad83b225f95ad644eafa47203c4e4c0dff13ecbb081cb805d082a7714b56ec3", func := "phrasebook/phrasebooklaw01.BitsInverts", spec := "bitsInverts", unfollowed := true, recurses := true, apart := false, narrowed := true }
def BitsInvertsUptoSaid : Prop := bitsInvertsUptoRow.holds Try.pinned (OpenSpec.upto bitsInvertsSpec)

/-- 'phrasebooklaw01.BitsReads', WHERE WHAT IT READS IS OF BULK AT MOST 1048576: true; the input reads as it did. -/
def bitsReadsUptoRow : OpenClaim := { program := "ythgbnpafhkhjpaa", sum := "dad83b225f95ad644eafa47203c4e4c0dff13ecbb081cb805d082a7714b56ec3", func := "phrasebook/phrasebooklaw01.BitsReads", spec := "bitsReads", unfollowed := true, recurses := true, apart := false, narrowed := true }
def BitsReadsUptoSaid : Prop := bitsReadsUptoRow.holds Try.pinned (OpenSpec.upto bitsReadsSpec)

/-- 'phrasebooklaw01.BitsWrites', WHERE WHAT IT READS IS OF BULK AT MOST 1048576: true; the input reads as it did. -/
def bitsWritesUptoRow : OpenClaim := { program := "ythgbnpafhkhjpaa", sum := "dad83b225f95ad644eafa47203c4e4c0dff13ecbb081cb805d082a7714b56ec3", func := "phrasebook/phrasebooklaw01.BitsWrites", spec := "bitsWrites", unfollowed := true, recurses := true, apart := false, narrowed := true }
def BitsWritesUptoSaid : Prop := bitsWritesUptoRow.holds Try.pinned (OpenSpec.upto bitsWritesSpec)

/-- 'phrasebooklaw01.BitsYields', WHERE WHAT IT READS IS OF BULK AT MOST 1048576: true; the input reads as it did. -/
def bitsYieldsUptoRow : OpenClaim := { program := "ythgbnpafhkhjpaa", sum := "dad83b225f95ad644eafa47203c4e4c0dff13ecbb081cb805d082a7714b56ec3", func := "phrasebook/phrasebooklaw01.BitsYields", spec := "bitsYields", unfollowed := true, recurses := true, apart := false, narrowed := true }
def BitsYieldsUptoSaid : Prop := bitsYieldsUptoRow.holds Try.pinned (OpenSpec.upto bitsYieldsSpec)

/-- 'phrasebooklaw01.BitsNone', WHERE WHAT IT READS IS OF BULK AT MOST 1048576: true; the input reads as it did. -/
def bitsNoneUptoRow : OpenClaim := { program := "ythgbnpafhkhjpaa", sum := "dad83b225f95ad644eafa47203c4e4c0dff13ecbb081cb805d082a7714b56ec3", func := "phrasebook/phrasebooklaw01.BitsNone", spec := "bitsNone", unfollowed := true, recurses := true, apart := false, narrowed := true }
def BitsNoneUptoSaid : Prop := bitsNoneUptoRow.holds Try.pinned (OpenSpec.upto bitsNoneSpec)

end Rows
end Go.Proofs.Ythgbnpafhkhjpaa
