/-
  NARROWER THAN 'FOR EVERY INPUT', by the rows' own cells (each row's printed sentence says how): FoldWrites: laid · FoldReads: laid · FoldScans: laid · FoldLines: laid · FoldInverts: laid · FoldGoes: laid · FoldLimits: laid · FoldFinds: laid.
  DERIVED. THE GIVEN ROWS OF THIS SEAT. 8 by the template 'for every input the law returns true; each argument reads behind the call as it read before'; 0 by the template 'total and deterministic' (their statements: YtkalllenggmgoaaDoorTotals.lean).
  GIVEN WITH THE SEED: the statements are not yours to turn. If you find one false, say at which input.
  Laid BY PROGRAM, IN A SANDBOX (cutbox-rows.mjs): the forced cells as the released guide's own fill.sh prints them over the translation ee0fd471a8752873… (all of the seat's roots in one cut). By AI agents, Wed Nov 11 2026. No macro, syntax, notation, axiom, sorry.
-/
import Derived.Test.YtkalllenggmgoaaDoorChecked
import GoSem.PinnedTables
import GoSem.Claim
import GoSem.ClaimJoined
import GoSem.ClaimMapViews
import Derived.JoinedTies
import Derived.KernelRfl
namespace Go.Proofs.YtkalllenggmgoaaDoor
/- THE CELL 'sum', in the pinned program and in every row, IS THE sha256 OF THE DUMP (.gsa) THAT YtkalllenggmgoaaDoorProg.lean LOADS. Nothing in Lean hashes anything: it is a label: what it is worth is what the hold of that sum in a sandbox is worth. -/
noncomputable def Tryd.pinned : Pinned := { name := "ytkalllenggmgoaadoor", sum := "ee0fd471a875287353a37be33a57943f4792bcc42b64af13f7a57cabfe239f8b", checked := Tryd.checked }
namespace Rows
def none {H : Type} : Left H := { results := [], args := [] }

/- WHAT THE LISTED PACKAGE-LEVEL VARIABLES READ AS WHEN THE CALL BEGINS. Each datum BY PROGRAM (the guide's laid-datum.mjs) off the statement by which the dump's own 'gosem.cut.vars' lays the variable. In a bare row this is a premise. The card (YtkalllenggmgoaaDoorCards.lean) ties it to the program's text. -/
def laid_unicode_utf8_acceptRanges {H : Type} : DataW H := .agg [.agg [.lit (.int .u8 128), .lit (.int .u8 191)], .agg [.lit (.int .u8 160), .lit (.int .u8 191)], .agg [.lit (.int .u8 128), .lit (.int .u8 159)], .agg [.lit (.int .u8 144), .lit (.int .u8 191)], .agg [.lit (.int .u8 128), .lit (.int .u8 143)], .agg [.lit (.int .u8 0), .lit (.int .u8 0)], .agg [.lit (.int .u8 0), .lit (.int .u8 0)], .agg [.lit (.int .u8 0), .lit (.int .u8 0)], .agg [.lit (.int .u8 0), .lit (.int .u8 0)], .agg [.lit (.int .u8 0), .lit (.int .u8 0)], .agg [.lit (.int .u8 0), .lit (.int .u8 0)], .agg [.lit (.int .u8 0), .lit (.int .u8 0)], .agg [.lit (.int .u8 0), .lit (.int .u8 0)], .agg [.lit (.int .u8 0), .lit (.int .u8 0)], .agg [.lit (.int .u8 0), .lit (.int .u8 0)], .agg [.lit (.int .u8 0), .lit (.int .u8 0)]]
/-- One of Go's own tables, pinned by name: the form's constant. -/
def laid_unicode_utf8_first : DataW Unit := Go.Pinned.utf8First

/-- 'phrasebooklaw12.FoldWrites': WHATEVER THE INPUT: true; the input reads as it did. -/
def foldWritesSpec : ChangeSpec := { name := "foldWrites", fn := fun _ => fun
  | [d1, d2] => { results := [.lit (.bool true)], args := [d1, d2] }
  | _ => none }
def foldWritesRow : OpenClaim := { program := "ytkalllenggmgoaadoor", sum := "ee0fd471a875287353a37be33a57943f4792bcc42b64af13f7a57cabfe239f8b", func := "phrasebook/phrasebooklaw12.FoldWrites", spec := "foldWrites", inPlace := ["internal/bytealg.IndexByteString", "internal/bytealg.IndexString"], unfollowed := true, recurses := true, named := ["unicode/utf8.first", "unicode/utf8.acceptRanges", "internal/bytealg.MaxLen"], apart := false, laid := [("unicode/utf8.acceptRanges", laid_unicode_utf8_acceptRanges), ("unicode/utf8.first", laid_unicode_utf8_first)] }
def FoldWritesSaid : Prop := foldWritesRow.holds Tryd.pinned (OpenSpec.ofChange foldWritesSpec)

/-- ITS FALSE NEIGHBOUR: 'it returns false'. Refute it at one input. -/
def foldWritesWrong : ChangeSpec := { name := "foldWrites", fn := fun _ => fun
  | [d1, d2] => { results := [.lit (.bool false)], args := [d1, d2] }
  | _ => none }
def FoldWritesWrongFalsely : Prop := foldWritesRow.holds Tryd.pinned (OpenSpec.ofChange foldWritesWrong)

/-- 'phrasebooklaw12.FoldReads': WHATEVER THE INPUT: true; the input reads as it did. -/
def foldReadsSpec : ChangeSpec := { name := "foldReads", fn := fun _ => fun
  | [d1, d2] => { results := [.lit (.bool true)], args := [d1, d2] }
  | _ => none }
def foldReadsRow : OpenClaim := { program := "ytkalllenggmgoaadoor", sum := "ee0fd471a875287353a37be33a57943f4792bcc42b64af13f7a57cabfe239f8b", func := "phrasebook/phrasebooklaw12.FoldReads", spec := "foldReads", inPlace := ["internal/bytealg.IndexByteString", "internal/bytealg.IndexString"], unfollowed := true, recurses := true, named := ["unicode/utf8.first", "unicode/utf8.acceptRanges", "internal/bytealg.MaxLen"], apart := false, laid := [("unicode/utf8.acceptRanges", laid_unicode_utf8_acceptRanges), ("unicode/utf8.first", laid_unicode_utf8_first)] }
def FoldReadsSaid : Prop := foldReadsRow.holds Tryd.pinned (OpenSpec.ofChange foldReadsSpec)

/-- ITS FALSE NEIGHBOUR: 'it returns false'. Refute it at one input. -/
def foldReadsWrong : ChangeSpec := { name := "foldReads", fn := fun _ => fun
  | [d1, d2] => { results := [.lit (.bool false)], args := [d1, d2] }
  | _ => none }
def FoldReadsWrongFalsely : Prop := foldReadsRow.holds Tryd.pinned (OpenSpec.ofChange foldReadsWrong)

/-- 'phrasebooklaw12.FoldScans': WHATEVER THE INPUT: true; the input reads as it did. -/
def foldScansSpec : ChangeSpec := { name := "foldScans", fn := fun _ => fun
  | [d1, d2] => { results := [.lit (.bool true)], args := [d1, d2] }
  | _ => none }
def foldScansRow : OpenClaim := { program := "ytkalllenggmgoaadoor", sum := "ee0fd471a875287353a37be33a57943f4792bcc42b64af13f7a57cabfe239f8b", func := "phrasebook/phrasebooklaw12.FoldScans", spec := "foldScans", inPlace := ["internal/bytealg.IndexByteString", "internal/bytealg.IndexString"], unfollowed := true, recurses := true, named := ["unicode/utf8.first", "unicode/utf8.acceptRanges", "internal/bytealg.MaxLen"], apart := false, laid := [("unicode/utf8.acceptRanges", laid_unicode_utf8_acceptRanges), ("unicode/utf8.first", laid_unicode_utf8_first)] }
def FoldScansSaid : Prop := foldScansRow.holds Tryd.pinned (OpenSpec.ofChange foldScansSpec)

/-- ITS FALSE NEIGHBOUR: 'it returns false'. Refute it at one input. -/
def foldScansWrong : ChangeSpec := { name := "foldScans", fn := fun _ => fun
  | [d1, d2] => { results := [.lit (.bool false)], args := [d1, d2] }
  | _ => none }
def FoldScansWrongFalsely : Prop := foldScansRow.holds Tryd.pinned (OpenSpec.ofChange foldScansWrong)

/-- 'phrasebooklaw12.FoldLines': WHATEVER THE INPUT: true; the input reads as it did. -/
def foldLinesSpec : ChangeSpec := { name := "foldLines", fn := fun _ => fun
  | [d1, d2, d3] => { results := [.lit (.bool true)], args := [d1, d2, d3] }
  | _ => none }
def foldLinesRow : OpenClaim := { program := "ytkalllenggmgoaadoor", sum := "ee0fd471a875287353a37be33a57943f4792bcc42b64af13f7a57cabfe239f8b", func := "phrasebook/phrasebooklaw12.FoldLines", spec := "foldLines", inPlace := ["internal/bytealg.IndexByteString", "internal/bytealg.IndexString"], unfollowed := true, recurses := true, named := ["unicode/utf8.first", "unicode/utf8.acceptRanges", "internal/bytealg.MaxLen"], apart := false, laid := [("unicode/utf8.acceptRanges", laid_unicode_utf8_acceptRanges), ("unicode/utf8.first", laid_unicode_utf8_first)] }
def FoldLinesSaid : Prop := foldLinesRow.holds Tryd.pinned (OpenSpec.ofChange foldLinesSpec)

/-- ITS FALSE NEIGHBOUR: 'it returns false'. Refute it at one input. -/
def foldLinesWrong : ChangeSpec := { name := "foldLines", fn := fun _ => fun
  | [d1, d2, d3] => { results := [.lit (.bool false)], args := [d1, d2, d3] }
  | _ => none }
def FoldLinesWrongFalsely : Prop := foldLinesRow.holds Tryd.pinned (OpenSpec.ofChange foldLinesWrong)

/-- 'phrasebooklaw12.FoldInverts': WHATEVER THE INPUT: true; the input reads as it did. -/
def foldInvertsSpec : ChangeSpec := { name := "foldInverts", fn := fun _ => fun
  | [d1, d2] => { results := [.lit (.bool true)], args := [d1, d2] }
  | _ => none }
def foldInvertsRow : OpenClaim := { program := "ytkalllenggmgoaadoor", sum := "ee0fd471a875287353a37be33a57943f4792bcc42b64af13f7a57cabfe239f8b", func := "phrasebook/phrasebooklaw12.FoldInverts", spec := "foldInverts", inPlace := ["internal/bytealg.IndexByteString", "internal/bytealg.IndexString"], unfollowed := true, recurses := true, named := ["unicode/utf8.first", "unicode/utf8.acceptRanges", "internal/bytealg.MaxLen"], apart := false, laid := [("unicode/utf8.acceptRanges", laid_unicode_utf8_acceptRanges), ("unicode/utf8.first", laid_unicode_utf8_first)] }
def FoldInvertsSaid : Prop := foldInvertsRow.holds Tryd.pinned (OpenSpec.ofChange foldInvertsSpec)

/-- ITS FALSE NEIGHBOUR: 'it returns false'. Refute it at one input. -/
def foldInvertsWrong : ChangeSpec := { name := "foldInverts", fn := fun _ => fun
  | [d1, d2] => { results := [.lit (.bool false)], args := [d1, d2] }
  | _ => none }
def FoldInvertsWrongFalsely : Prop := foldInvertsRow.holds Tryd.pinned (OpenSpec.ofChange foldInvertsWrong)

/-- 'phrasebooklaw12.FoldGoes': WHATEVER THE INPUT: true; the input reads as it did. -/
def foldGoesSpec : ChangeSpec := { name := "foldGoes", fn := fun _ => fun
  | [d1, d2] => { results := [.lit (.bool true)], args := [d1, d2] }
  | _ => none }
def foldGoesRow : OpenClaim := { program := "ytkalllenggmgoaadoor", sum := "ee0fd471a875287353a37be33a57943f4792bcc42b64af13f7a57cabfe239f8b", func := "phrasebook/phrasebooklaw12.FoldGoes", spec := "foldGoes", inPlace := ["internal/bytealg.IndexByteString", "internal/bytealg.IndexString"], unfollowed := true, recurses := true, named := ["unicode/utf8.first", "unicode/utf8.acceptRanges", "internal/bytealg.MaxLen"], apart := false, laid := [("unicode/utf8.acceptRanges", laid_unicode_utf8_acceptRanges), ("unicode/utf8.first", laid_unicode_utf8_first)] }
def FoldGoesSaid : Prop := foldGoesRow.holds Tryd.pinned (OpenSpec.ofChange foldGoesSpec)

/-- ITS FALSE NEIGHBOUR: 'it returns false'. Refute it at one input. -/
def foldGoesWrong : ChangeSpec := { name := "foldGoes", fn := fun _ => fun
  | [d1, d2] => { results := [.lit (.bool false)], args := [d1, d2] }
  | _ => none }
def FoldGoesWrongFalsely : Prop := foldGoesRow.holds Tryd.pinned (OpenSpec.ofChange foldGoesWrong)

/-- 'phrasebooklaw12.FoldLimits': WHATEVER THE INPUT: true; the input reads as it did. -/
def foldLimitsSpec : ChangeSpec := { name := "foldLimits", fn := fun _ => fun
  | [d1, d2] => { results := [.lit (.bool true)], args := [d1, d2] }
  | _ => none }
def foldLimitsRow : OpenClaim := { program := "ytkalllenggmgoaadoor", sum := "ee0fd471a875287353a37be33a57943f4792bcc42b64af13f7a57cabfe239f8b", func := "phrasebook/phrasebooklaw12.FoldLimits", spec := "foldLimits", inPlace := ["internal/bytealg.IndexByteString", "internal/bytealg.IndexString"], unfollowed := true, recurses := true, named := ["unicode/utf8.first", "unicode/utf8.acceptRanges", "internal/bytealg.MaxLen"], apart := false, laid := [("unicode/utf8.acceptRanges", laid_unicode_utf8_acceptRanges), ("unicode/utf8.first", laid_unicode_utf8_first)] }
def FoldLimitsSaid : Prop := foldLimitsRow.holds Tryd.pinned (OpenSpec.ofChange foldLimitsSpec)

/-- ITS FALSE NEIGHBOUR: 'it returns false'. Refute it at one input. -/
def foldLimitsWrong : ChangeSpec := { name := "foldLimits", fn := fun _ => fun
  | [d1, d2] => { results := [.lit (.bool false)], args := [d1, d2] }
  | _ => none }
def FoldLimitsWrongFalsely : Prop := foldLimitsRow.holds Tryd.pinned (OpenSpec.ofChange foldLimitsWrong)

/-- 'phrasebooklaw12.FoldFinds': WHATEVER THE INPUT: true; the input reads as it did. -/
def foldFindsSpec : ChangeSpec := { name := "foldFinds", fn := fun _ => fun
  | [d1, d2] => { results := [.lit (.bool true)], args := [d1, d2] }
  | _ => none }
def foldFindsRow : OpenClaim := { program := "ytkalllenggmgoaadoor", sum := "ee0fd471a875287353a37be33a57943f4792bcc42b64af13f7a57cabfe239f8b", func := "phrasebook/phrasebooklaw12.FoldFinds", spec := "foldFinds", inPlace := ["internal/bytealg.IndexByteString", "internal/bytealg.IndexString"], unfollowed := true, recurses := true, named := ["unicode/utf8.first", "unicode/utf8.acceptRanges", "internal/bytealg.MaxLen"], apart := false, laid := [("unicode/utf8.acceptRanges", laid_unicode_utf8_acceptRanges), ("unicode/utf8.first", laid_unicode_utf8_first)] }
def FoldFindsSaid : Prop := foldFindsRow.holds Tryd.pinned (OpenSpec.ofChange foldFindsSpec)

/-- ITS FALSE NEIGHBOUR: 'it returns false'. Refute it at one input. -/
def foldFindsWrong : ChangeSpec := { name := "foldFinds", fn := fun _ => fun
  | [d1, d2] => { results := [.lit (.bool false)], args := [d1, d2] }
  | _ => none }
def FoldFindsWrongFalsely : Prop := foldFindsRow.holds Tryd.pinned (OpenSpec.ofChange foldFindsWrong)

/- THE SECOND FORM. 'bulk': how many values and letters a reading holds, each counted each time it is reached (what is shared counts as often as it is met; a slice's spare places count too). A statement '..UptoSaid' is the law's where the arguments, and the package variables that the reading takes, are together of bulk at most 1048576: NARROWER than '..Said'. Prove '..Said' where nothing that the law and all that it calls make is longer than what came in: it says more and counts as full. Else prove '..UptoSaid'. A law counts once. -/
mutual
def uptoBulk {H : Type} : DataW H → Nat
  | .lit (.string bytes) => bytes.length + 1
  | .lit _ => 1
  | .nil => 1
  | .ptr d => uptoBulk d + 1
  | .slice elems spare => uptoBulkAll elems + uptoBulkAll spare + 1
  | .agg parts => uptoBulkAll parts + 1
  | .iface _ d => uptoBulk d + 1
  | .map entries => uptoBulkEntries entries + 1
  | .held _ => 1
def uptoBulkAll {H : Type} : List (DataW H) → Nat
  | [] => 0
  | d :: r => uptoBulk d + uptoBulkAll r
def uptoBulkEntries {H : Type} : List (Lit × DataW H) → Nat
  | [] => 0
  | x :: r => uptoBulkEntry x + uptoBulkEntries r
def uptoBulkEntry {H : Type} : Lit × DataW H → Nat
  | (.string bytes, d) => bytes.length + uptoBulk d + 1
  | (_, d) => uptoBulk d + 1
 end
def uptoSmall : (H : Type) → List (DataW H) → Bool := fun _ ds => decide (uptoBulkAll ds ≤ 1048576)
def OpenSpec.upto (s : _root_.Go.ChangeSpec) : _root_.Go.OpenSpec := { _root_.Go.OpenSpec.ofChange s with cond := some uptoSmall }

/-- 'phrasebooklaw12.FoldWrites', WHERE WHAT IT READS IS OF BULK AT MOST 1048576: true; the input reads as it did. -/
def foldWritesUptoRow : OpenClaim := { program := "ytkalllenggmgoaadoor", sum := "ee0fd471a875287353a37be33a57943f4792bcc42b64af13f7a57cabfe239f8b", func := "phrasebook/phrasebooklaw12.FoldWrites", spec := "foldWrites", inPlace := ["internal/bytealg.IndexByteString", "internal/bytealg.IndexString"], unfollowed := true, recurses := true, named := ["unicode/utf8.first", "unicode/utf8.acceptRanges", "internal/bytealg.MaxLen"], apart := false, laid := [("unicode/utf8.acceptRanges", laid_unicode_utf8_acceptRanges), ("unicode/utf8.first", laid_unicode_utf8_first)], narrowed := true }
def FoldWritesUptoSaid : Prop := foldWritesUptoRow.holds Tryd.pinned (OpenSpec.upto foldWritesSpec)

/-- 'phrasebooklaw12.FoldReads', WHERE WHAT IT READS IS OF BULK AT MOST 1048576: true; the input reads as it did. -/
def foldReadsUptoRow : OpenClaim := { program := "ytkalllenggmgoaadoor", sum := "ee0fd471a875287353a37be33a57943f4792bcc42b64af13f7a57cabfe239f8b", func := "phrasebook/phrasebooklaw12.FoldReads", spec := "foldReads", inPlace := ["internal/bytealg.IndexByteString", "internal/bytealg.IndexString"], unfollowed := true, recurses := true, named := ["unicode/utf8.first", "unicode/utf8.acceptRanges", "internal/bytealg.MaxLen"], apart := false, laid := [("unicode/utf8.acceptRanges", laid_unicode_utf8_acceptRanges), ("unicode/utf8.first", laid_unicode_utf8_first)], narrowed := true }
def FoldReadsUptoSaid : Prop := foldReadsUptoRow.holds Tryd.pinned (OpenSpec.upto foldReadsSpec)

/-- 'phrasebooklaw12.FoldScans', WHERE WHAT IT READS IS OF BULK AT MOST 1048576: true; the input reads as it did. -/
def foldScansUptoRow : OpenClaim := { program := "ytkalllenggmgoaadoor", sum := "ee0fd471a875287353a37be33a57943f4792bcc42b64af13f7a57cabfe239f8b", func := "phrasebook/phrasebooklaw12.FoldScans", spec := "foldScans", inPlace := ["internal/bytealg.IndexByteString", "internal/bytealg.IndexString"], unfollowed := true, recurses := true, named := ["unicode/utf8.first", "unicode/utf8.acceptRanges", "internal/bytealg.MaxLen"], apart := false, laid := [("unicode/utf8.acceptRanges", laid_unicode_utf8_acceptRanges), ("unicode/utf8.first", laid_unicode_utf8_first)], narrowed := true }
def FoldScansUptoSaid : Prop := foldScansUptoRow.holds Tryd.pinned (OpenSpec.upto foldScansSpec)

/-- 'phrasebooklaw12.FoldLines', WHERE WHAT IT READS IS OF BULK AT MOST 1048576: true; the input reads as it did. -/
def foldLinesUptoRow : OpenClaim := { program := "ytkalllenggmgoaadoor", sum := "ee0fd471a875287353a37be33a57943f4792bcc42b64af13f7a57cabfe239f8b", func := "phrasebook/phrasebooklaw12.FoldLines", spec := "foldLines", inPlace := ["internal/bytealg.IndexByteString", "internal/bytealg.IndexString"], unfollowed := true, recurses := true, named := ["unicode/utf8.first", "unicode/utf8.acceptRanges", "internal/bytealg.MaxLen"], apart := false, laid := [("unicode/utf8.acceptRanges", laid_unicode_utf8_acceptRanges), ("unicode/utf8.first", laid_unicode_utf8_first)], narrowed := true }
def FoldLinesUptoSaid : Prop := foldLinesUptoRow.holds Tryd.pinned (OpenSpec.upto foldLinesSpec)

/-- 'phrasebooklaw12.FoldInverts', WHERE WHAT IT READS IS OF BULK AT MOST 1048576: true; the input reads as it did. -/
def foldInvertsUptoRow : OpenClaim := { program := "ytkalllenggmgoaadoor", sum := "ee0fd471a875287353a37be33a57943f4792bcc42b64af13f7a57cabfe239f8b", func := "phrasebook/phrasebooklaw12.FoldInverts", spec := "foldInverts", inPlace := ["internal/bytealg.IndexByteString", "internal/bytealg.IndexString"], unfollowed := true, recurses := true, named := ["unicode/utf8.first", "unicode/utf8.acceptRanges", "internal/bytealg.MaxLen"], apart := false, laid := [("unicode/utf8.acceptRanges", laid_unicode_utf8_acceptRanges), ("unicode/utf8.first", laid_unicode_utf8_first)], narrowed := true }
def FoldInvertsUptoSaid : Prop := foldInvertsUptoRow.holds Tryd.pinned (OpenSpec.upto foldInvertsSpec)

/-- 'phrasebooklaw12.FoldGoes', WHERE WHAT IT READS IS OF BULK AT MOST 1048576: true; the input reads as it did. -/
def foldGoesUptoRow : OpenClaim := { program := "ytkalllenggmgoaadoor", sum := "ee0fd471a875287353a37be33a57943f4792bcc42b64af13f7a57cabfe239f8b", func := "phrasebook/phrasebooklaw12.FoldGoes", spec := "foldGoes", inPlace := ["internal/bytealg.IndexByteString", "internal/bytealg.IndexString"], unfollowed := true, recurses := true, named := ["unicode/utf8.first", "unicode/utf8.acceptRanges", "internal/bytealg.MaxLen"], apart := false, laid := [("unicode/utf8.acceptRanges", laid_unicode_utf8_acceptRanges), ("unicode/utf8.first", laid_unicode_utf8_first)], narrowed := true }
def FoldGoesUptoSaid : Prop := foldGoesUptoRow.holds Tryd.pinned (OpenSpec.upto foldGoesSpec)

/-- 'phrasebooklaw12.FoldLimits', WHERE WHAT IT READS IS OF BULK AT MOST 1048576: true; the input reads as it did. -/
def foldLimitsUptoRow : OpenClaim := { program := "ytkalllenggmgoaadoor", sum := "ee0fd471a875287353a37be33a57943f4792bcc42b64af13f7a57cabfe239f8b", func := "phrasebook/phrasebooklaw12.FoldLimits", spec := "foldLimits", inPlace := ["internal/bytealg.IndexByteString", "internal/bytealg.IndexString"], unfollowed := true, recurses := true, named := ["unicode/utf8.first", "unicode/utf8.acceptRanges", "internal/bytealg.MaxLen"], apart := false, laid := [("unicode/utf8.acceptRanges", laid_unicode_utf8_acceptRanges), ("unicode/utf8.first", laid_unicode_utf8_first)], narrowed := true }
def FoldLimitsUptoSaid : Prop := foldLimitsUptoRow.holds Tryd.pinned (OpenSpec.upto foldLimitsSpec)

/-- 'phrasebooklaw12.FoldFinds', WHERE WHAT IT READS IS OF BULK AT MOST 1048576: true; the input reads as it did. -/
def foldFindsUptoRow : OpenClaim := { program := "ytkalllenggmgoaadoor", sum := "ee0fd471a875287353a37be33a57943f4792bcc42b64af13f7a57cabfe239f8b", func := "phrasebook/phrasebooklaw12.FoldFinds", spec := "foldFinds", inPlace := ["internal/bytealg.IndexByteString", "internal/bytealg.IndexString"], unfollowed := true, recurses := true, named := ["unicode/utf8.first", "unicode/utf8.acceptRanges", "internal/bytealg.MaxLen"], apart := false, laid := [("unicode/utf8.acceptRanges", laid_unicode_utf8_acceptRanges), ("unicode/utf8.first", laid_unicode_utf8_first)], narrowed := true }
def FoldFindsUptoSaid : Prop := foldFindsUptoRow.holds Tryd.pinned (OpenSpec.upto foldFindsSpec)

end Rows
end Go.Proofs.YtkalllenggmgoaaDoor
