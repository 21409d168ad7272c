/-
  No cell of these rows narrows 'for every input' (looked for: loops, veiled, ifaces, maps, wideKeys, modest, calm, conditions, laid).
  DERIVED. THE GIVEN ROWS OF THIS SEAT. 7 by the template 'for every input the law returns true; each argument reads behind the call as it read before'; 0 by the template 'total and deterministic' (their statements: YtbimolbiccmdiaaTotals.lean).
  GIVEN WITH THE SEED: the statements are not yours to turn. If you find one false, say at which input.
  Laid BY PROGRAM, IN A SANDBOX (cutbox-rows.mjs): the forced cells as the released guide's own fill.sh prints them over the translation 77d4d750cc4ab8ae… (all of the seat's roots in one cut). By AI agents, Wed Nov 11 2026. No macro, syntax, notation, axiom, sorry.
-/
import Derived.Test.YtbimolbiccmdiaaChecked
import GoSem.Claim
import GoSem.ClaimJoined
import GoSem.ClaimMapViews
import Derived.JoinedTies
import Derived.KernelRfl
namespace Go.Proofs.Ytbimolbiccmdiaa
/- THE CELL 'sum', in the pinned program and in every row, IS THE sha256 OF THE DUMP (.gsa) THAT YtbimolbiccmdiaaProg.lean LOADS. Nothing in Lean hashes anything: it is a label: what it is worth is what the hold of that sum in a sandbox is worth. -/
noncomputable def Try.pinned : Pinned := { name := "ytbimolbiccmdiaa", sum := "77d4d750cc4ab8ae5b9f6d97a4f892e91ec4ec5a8d21ea8c3d85fcbca05af70c", checked := Try.checked }
namespace Rows
def none {H : Type} : Left H := { results := [], args := [] }

/-- 'phrasebooklaw09.VarintWrites': WHATEVER THE INPUT: true; the input reads as it did. -/
def varintWritesSpec : ChangeSpec := { name := "varintWrites", fn := fun _ => fun
  | [d1, d2] => { results := [.lit (.bool true)], args := [d1, d2] }
  | _ => none }
def varintWritesRow : OpenClaim := { program := "ytbimolbiccmdiaa", sum := "77d4d750cc4ab8ae5b9f6d97a4f892e91ec4ec5a8d21ea8c3d85fcbca05af70c", func := "phrasebook/phrasebooklaw09.VarintWrites", spec := "varintWrites", unfollowed := true, recurses := true, apart := false }
def VarintWritesSaid : Prop := varintWritesRow.holds Try.pinned (OpenSpec.ofChange varintWritesSpec)

/-- ITS FALSE NEIGHBOUR: 'it returns false'. Refute it at one input. -/
def varintWritesWrong : ChangeSpec := { name := "varintWrites", fn := fun _ => fun
  | [d1, d2] => { results := [.lit (.bool false)], args := [d1, d2] }
  | _ => none }
def VarintWritesWrongFalsely : Prop := varintWritesRow.holds Try.pinned (OpenSpec.ofChange varintWritesWrong)

/-- 'phrasebooklaw09.VarintReads': WHATEVER THE INPUT: true; the input reads as it did. -/
def varintReadsSpec : ChangeSpec := { name := "varintReads", fn := fun _ => fun
  | [d1, d2] => { results := [.lit (.bool true)], args := [d1, d2] }
  | _ => none }
def varintReadsRow : OpenClaim := { program := "ytbimolbiccmdiaa", sum := "77d4d750cc4ab8ae5b9f6d97a4f892e91ec4ec5a8d21ea8c3d85fcbca05af70c", func := "phrasebook/phrasebooklaw09.VarintReads", spec := "varintReads", unfollowed := true, recurses := true, apart := false }
def VarintReadsSaid : Prop := varintReadsRow.holds Try.pinned (OpenSpec.ofChange varintReadsSpec)

/-- ITS FALSE NEIGHBOUR: 'it returns false'. Refute it at one input. -/
def varintReadsWrong : ChangeSpec := { name := "varintReads", fn := fun _ => fun
  | [d1, d2] => { results := [.lit (.bool false)], args := [d1, d2] }
  | _ => none }
def VarintReadsWrongFalsely : Prop := varintReadsRow.holds Try.pinned (OpenSpec.ofChange varintReadsWrong)

/-- 'phrasebooklaw09.VarintForms': WHATEVER THE INPUT: true; the input reads as it did. -/
def varintFormsSpec : ChangeSpec := { name := "varintForms", fn := fun _ => fun
  | [d1, d2] => { results := [.lit (.bool true)], args := [d1, d2] }
  | _ => none }
def varintFormsRow : OpenClaim := { program := "ytbimolbiccmdiaa", sum := "77d4d750cc4ab8ae5b9f6d97a4f892e91ec4ec5a8d21ea8c3d85fcbca05af70c", func := "phrasebook/phrasebooklaw09.VarintForms", spec := "varintForms", unfollowed := true, recurses := true, apart := false }
def VarintFormsSaid : Prop := varintFormsRow.holds Try.pinned (OpenSpec.ofChange varintFormsSpec)

/-- ITS FALSE NEIGHBOUR: 'it returns false'. Refute it at one input. -/
def varintFormsWrong : ChangeSpec := { name := "varintForms", fn := fun _ => fun
  | [d1, d2] => { results := [.lit (.bool false)], args := [d1, d2] }
  | _ => none }
def VarintFormsWrongFalsely : Prop := varintFormsRow.holds Try.pinned (OpenSpec.ofChange varintFormsWrong)

/-- 'phrasebooklaw09.VarintBegins': WHATEVER THE INPUT: true; the input reads as it did. -/
def varintBeginsSpec : ChangeSpec := { name := "varintBegins", fn := fun _ => fun
  | [d1, d2, d3] => { results := [.lit (.bool true)], args := [d1, d2, d3] }
  | _ => none }
def varintBeginsRow : OpenClaim := { program := "ytbimolbiccmdiaa", sum := "77d4d750cc4ab8ae5b9f6d97a4f892e91ec4ec5a8d21ea8c3d85fcbca05af70c", func := "phrasebook/phrasebooklaw09.VarintBegins", spec := "varintBegins", unfollowed := true, recurses := true, apart := false }
def VarintBeginsSaid : Prop := varintBeginsRow.holds Try.pinned (OpenSpec.ofChange varintBeginsSpec)

/-- ITS FALSE NEIGHBOUR: 'it returns false'. Refute it at one input. -/
def varintBeginsWrong : ChangeSpec := { name := "varintBegins", fn := fun _ => fun
  | [d1, d2, d3] => { results := [.lit (.bool false)], args := [d1, d2, d3] }
  | _ => none }
def VarintBeginsWrongFalsely : Prop := varintBeginsRow.holds Try.pinned (OpenSpec.ofChange varintBeginsWrong)

/-- 'phrasebooklaw09.VarintFolds': WHATEVER THE INPUT: true; the input reads as it did. -/
def varintFoldsSpec : ChangeSpec := { name := "varintFolds", fn := fun _ => fun
  | [d] => { results := [.lit (.bool true)], args := [d] }
  | _ => none }
def varintFoldsRow : OpenClaim := { program := "ytbimolbiccmdiaa", sum := "77d4d750cc4ab8ae5b9f6d97a4f892e91ec4ec5a8d21ea8c3d85fcbca05af70c", func := "phrasebook/phrasebooklaw09.VarintFolds", spec := "varintFolds", unfollowed := true, recurses := true, apart := false }
def VarintFoldsSaid : Prop := varintFoldsRow.holds Try.pinned (OpenSpec.ofChange varintFoldsSpec)

/-- ITS FALSE NEIGHBOUR: 'it returns false'. Refute it at one input. -/
def varintFoldsWrong : ChangeSpec := { name := "varintFolds", fn := fun _ => fun
  | [d] => { results := [.lit (.bool false)], args := [d] }
  | _ => none }
def VarintFoldsWrongFalsely : Prop := varintFoldsRow.holds Try.pinned (OpenSpec.ofChange varintFoldsWrong)

/-- 'phrasebooklaw09.VarintExact': WHATEVER THE INPUT: true; the input reads as it did. -/
def varintExactSpec : ChangeSpec := { name := "varintExact", fn := fun _ => fun
  | [d1, d2] => { results := [.lit (.bool true)], args := [d1, d2] }
  | _ => none }
def varintExactRow : OpenClaim := { program := "ytbimolbiccmdiaa", sum := "77d4d750cc4ab8ae5b9f6d97a4f892e91ec4ec5a8d21ea8c3d85fcbca05af70c", func := "phrasebook/phrasebooklaw09.VarintExact", spec := "varintExact", unfollowed := true, recurses := true, apart := false }
def VarintExactSaid : Prop := varintExactRow.holds Try.pinned (OpenSpec.ofChange varintExactSpec)

/-- ITS FALSE NEIGHBOUR: 'it returns false'. Refute it at one input. -/
def varintExactWrong : ChangeSpec := { name := "varintExact", fn := fun _ => fun
  | [d1, d2] => { results := [.lit (.bool false)], args := [d1, d2] }
  | _ => none }
def VarintExactWrongFalsely : Prop := varintExactRow.holds Try.pinned (OpenSpec.ofChange varintExactWrong)

/-- 'phrasebooklaw09.VarintGoes': WHATEVER THE INPUT: true; the input reads as it did. -/
def varintGoesSpec : ChangeSpec := { name := "varintGoes", fn := fun _ => fun
  | [d1, d2, d3] => { results := [.lit (.bool true)], args := [d1, d2, d3] }
  | _ => none }
def varintGoesRow : OpenClaim := { program := "ytbimolbiccmdiaa", sum := "77d4d750cc4ab8ae5b9f6d97a4f892e91ec4ec5a8d21ea8c3d85fcbca05af70c", func := "phrasebook/phrasebooklaw09.VarintGoes", spec := "varintGoes", unfollowed := true, recurses := true, apart := false }
def VarintGoesSaid : Prop := varintGoesRow.holds Try.pinned (OpenSpec.ofChange varintGoesSpec)

/-- ITS FALSE NEIGHBOUR: 'it returns false'. Refute it at one input. -/
def varintGoesWrong : ChangeSpec := { name := "varintGoes", fn := fun _ => fun
  | [d1, d2, d3] => { results := [.lit (.bool false)], args := [d1, d2, d3] }
  | _ => none }
def VarintGoesWrongFalsely : Prop := varintGoesRow.holds Try.pinned (OpenSpec.ofChange varintGoesWrong)

/- THE SECOND FORM. 'bulk': how many values and letters a reading holds, each counted each time it is reached (what is shared counts as often as it is met; a slice's spare places count too). A statement '..UptoSaid' is the law's where the arguments, and the package variables that the reading takes, are together of bulk at most 1048576: NARROWER than '..Said'. Prove '..Said' where nothing that the law and all that it calls make is longer than what came in: it says more and counts as full. Else prove '..UptoSaid'. A law counts once. -/
mutual
def uptoBulk {H : Type} : DataW H → Nat
  | .lit (.string bytes) => bytes.length + 1
  | .lit _ => 1
  | .nil => 1
  | .ptr d => uptoBulk d + 1
  | .slice elems spare => uptoBulkAll elems + uptoBulkAll spare + 1
  | .agg parts => uptoBulkAll parts + 1
  | .iface _ d => uptoBulk d + 1
  | .map entries => uptoBulkEntries entries + 1
  | .held _ => 1
def uptoBulkAll {H : Type} : List (DataW H) → Nat
  | [] => 0
  | d :: r => uptoBulk d + uptoBulkAll r
def uptoBulkEntries {H : Type} : List (Lit × DataW H) → Nat
  | [] => 0
  | x :: r => uptoBulkEntry x + uptoBulkEntries r
def uptoBulkEntry {H : Type} : Lit × DataW H → Nat
  | (.string bytes, d) => bytes.length + uptoBulk d + 1
  | (_, d) => uptoBulk d + 1
 end
def uptoSmall : (H : Type) → List (DataW H) → Bool := fun _ ds => decide (uptoBulkAll ds ≤ 1048576)
def OpenSpec.upto (s : _root_.Go.ChangeSpec) : _root_.Go.OpenSpec := { _root_.Go.OpenSpec.ofChange s with cond := some uptoSmall }

/-- 'phrasebooklaw09.VarintWrites', WHERE WHAT IT READS IS OF BULK AT MOST 1048576: true; the input reads as it did. -/
def varintWritesUptoRow : OpenClaim := { program := "ytbimolbiccmdiaa", sum := "77d4d750cc4ab8ae5b9f6d97a4f892e91ec4ec5a8d21ea8c3d85fcbca05af70c", func := "phrasebook/phrasebooklaw09.VarintWrites", spec := "varintWrites", unfollowed := true, recurses := true, apart := false, narrowed := true }
def VarintWritesUptoSaid : Prop := varintWritesUptoRow.holds Try.pinned (OpenSpec.upto varintWritesSpec)

/-- 'phrasebooklaw09.VarintReads', WHERE WHAT IT READS IS OF BULK AT MOST 1048576: true; the input reads as it did. -/
def varintReadsUptoRow : OpenClaim := { program := "ytbimolbiccmdiaa", sum := "77d4d750cc4ab8ae5b9f6d97a4f892e91ec4ec5a8d21ea8c3d85fcbca05af70c", func := "phrasebook/phrasebooklaw09.VarintReads", spec := "varintReads", unfollowed := true, recurses := true, apart := false, narrowed := true }
def VarintReadsUptoSaid : Prop := varintReadsUptoRow.holds Try.pinned (OpenSpec.upto varintReadsSpec)

/-- 'phrasebooklaw09.VarintForms', WHERE WHAT IT READS IS OF BULK AT MOST 1048576: true; the input reads as it did. -/
def varintFormsUptoRow : OpenClaim := { program := "ytbimolbiccmdiaa", sum := "77d4d750cc4ab8ae5b9f6d97a4f892e91ec4ec5a8d21ea8c3d85fcbca05af70c", func := "phrasebook/phrasebooklaw09.VarintForms", spec := "varintForms", unfollowed := true, recurses := true, apart := false, narrowed := true }
def VarintFormsUptoSaid : Prop := varintFormsUptoRow.holds Try.pinned (OpenSpec.upto varintFormsSpec)

/-- 'phrasebooklaw09.VarintBegins', WHERE WHAT IT READS IS OF BULK AT MOST 1048576: true; the input reads as it did. -/
def varintBeginsUptoRow : OpenClaim := { program := "ytbimolbiccmdiaa", sum := "77d4d750cc4ab8ae5b9f6d97a4f892e91ec4ec5a8d21ea8c3d85fcbca05af70c", func := "phrasebook/phrasebooklaw09.VarintBegins", spec := "varintBegins", unfollowed := true, recurses := true, apart := false, narrowed := true }
def VarintBeginsUptoSaid : Prop := varintBeginsUptoRow.holds Try.pinned (OpenSpec.upto varintBeginsSpec)

/-- 'phrasebooklaw09.VarintFolds', WHERE WHAT IT READS IS OF BULK AT MOST 1048576: true; the input reads as it did. -/
def varintFoldsUptoRow : OpenClaim := { program := "ytbimolbiccmdiaa", sum := "77d4d750cc4ab8ae5b9f6d97a4f892e91ec4ec5a8d21ea8c3d85fcbca05af70c", func := "phrasebook/phrasebooklaw09.VarintFolds", spec := "varintFolds", unfollowed := true, recurses := true, apart := false, narrowed := true }
def VarintFoldsUptoSaid : Prop := varintFoldsUptoRow.holds Try.pinned (OpenSpec.upto varintFoldsSpec)

/-- 'phrasebooklaw09.VarintExact', WHERE WHAT IT READS IS OF BULK AT MOST 1048576: true; the input reads as it did. -/
def varintExactUptoRow : OpenClaim := { program := "ytbimolbiccmdiaa", sum := "77d4d750cc4ab8ae5b9f6d97a4f892e91ec4ec5a8d21ea8c3d85fcbca05af70c", func := "phrasebook/phrasebooklaw09.VarintExact", spec := "varintExact", unfollowed := true, recurses := true, apart := false, narrowed := true }
def VarintExactUptoSaid : Prop := varintExactUptoRow.holds Try.pinned (OpenSpec.upto varintExactSpec)

/-- 'phrasebooklaw09.VarintGoes', WHERE WHAT IT READS IS OF BULK AT MOST 1048576: true; the input reads as it did. -/
def varintGoesUptoRow : OpenClaim := { program := "ytbimolbiccmdiaa", sum := "77d4d750cc4ab8ae5b9f6d97a4f892e91ec4ec5a8d21ea8c3d85fcbca05af70c", func := "phrasebook/phrasebooklaw09.VarintGoes", spec := "varintGoes", unfollowed := true, recurses := true, apart := false, narrowed := true }
def VarintGoesUptoSaid : Prop := varintGoesUptoRow.holds Try.pinned (OpenSpec.upto varintGoesSpec)

end Rows
end Go.Proofs.Ytbimolbiccmdiaa
