/-
  DERIVED. GIVEN WITH THE SEED: THE CARDS: each row of YtkalllenggmgoaaDoorRows.lean that lists a variable, with what it lists TIED to the program's text (the seventh form; the later family's looks); each row that meets fmt, with fmt's text TOLD by the authors' own Lean function (tested against real Go, not proved from fmt's source: count such statements apart). THE CARD IS WHAT COUNTS. Prove the row's statement (the work); the ties are given (YtkalllenggmgoaaDoorTie.lean); close each card by the builder's one call (the guide's Derived/Test/ToyasCard.lean, 'card_holds'). Laid BY PROGRAM, IN A SANDBOX (cutbox-door.mjs). By AI agents, Wed Nov 11 2026. No macro, syntax, notation, axiom, sorry.
-/
import Derived.Test.YtkalllenggmgoaaDoorRows
import GoSem.ClaimSeven
namespace Go.Proofs.YtkalllenggmgoaaDoor
namespace Rows

/-- THE TIED CARD OF 'phrasebooklaw12.FoldWrites'. -/
def foldWritesCard : Claim7 := { stood := { row := foldWritesRow, standIns := [], harness := (true, "3e60cdf08af451342687cdb4def9649aff891aa49fd0c02b09a45d0662f2dedd"), looks := false }, kinds := [], alts := [], laidByText := true, laidKinds := [.data, .pinned], laidTests := true, laidLooks := .later }
def FoldWritesCardSaid : Prop := Claim7.holds Tryd.pinned (.plain (OpenSpec.ofChange foldWritesSpec)) foldWritesCard

/-- THE TIED CARD OF 'phrasebooklaw12.FoldReads'. -/
def foldReadsCard : Claim7 := { stood := { row := foldReadsRow, standIns := [], harness := (true, "3e60cdf08af451342687cdb4def9649aff891aa49fd0c02b09a45d0662f2dedd"), looks := false }, kinds := [], alts := [], laidByText := true, laidKinds := [.data, .pinned], laidTests := true, laidLooks := .later }
def FoldReadsCardSaid : Prop := Claim7.holds Tryd.pinned (.plain (OpenSpec.ofChange foldReadsSpec)) foldReadsCard

/-- THE TIED CARD OF 'phrasebooklaw12.FoldScans'. -/
def foldScansCard : Claim7 := { stood := { row := foldScansRow, standIns := [], harness := (true, "3e60cdf08af451342687cdb4def9649aff891aa49fd0c02b09a45d0662f2dedd"), looks := false }, kinds := [], alts := [], laidByText := true, laidKinds := [.data, .pinned], laidTests := true, laidLooks := .later }
def FoldScansCardSaid : Prop := Claim7.holds Tryd.pinned (.plain (OpenSpec.ofChange foldScansSpec)) foldScansCard

/-- THE TIED CARD OF 'phrasebooklaw12.FoldLines'. -/
def foldLinesCard : Claim7 := { stood := { row := foldLinesRow, standIns := [], harness := (true, "3e60cdf08af451342687cdb4def9649aff891aa49fd0c02b09a45d0662f2dedd"), looks := false }, kinds := [], alts := [], laidByText := true, laidKinds := [.data, .pinned], laidTests := true, laidLooks := .later }
def FoldLinesCardSaid : Prop := Claim7.holds Tryd.pinned (.plain (OpenSpec.ofChange foldLinesSpec)) foldLinesCard

/-- THE TIED CARD OF 'phrasebooklaw12.FoldInverts'. -/
def foldInvertsCard : Claim7 := { stood := { row := foldInvertsRow, standIns := [], harness := (true, "3e60cdf08af451342687cdb4def9649aff891aa49fd0c02b09a45d0662f2dedd"), looks := false }, kinds := [], alts := [], laidByText := true, laidKinds := [.data, .pinned], laidTests := true, laidLooks := .later }
def FoldInvertsCardSaid : Prop := Claim7.holds Tryd.pinned (.plain (OpenSpec.ofChange foldInvertsSpec)) foldInvertsCard

/-- THE TIED CARD OF 'phrasebooklaw12.FoldGoes'. -/
def foldGoesCard : Claim7 := { stood := { row := foldGoesRow, standIns := [], harness := (true, "3e60cdf08af451342687cdb4def9649aff891aa49fd0c02b09a45d0662f2dedd"), looks := false }, kinds := [], alts := [], laidByText := true, laidKinds := [.data, .pinned], laidTests := true, laidLooks := .later }
def FoldGoesCardSaid : Prop := Claim7.holds Tryd.pinned (.plain (OpenSpec.ofChange foldGoesSpec)) foldGoesCard

/-- THE TIED CARD OF 'phrasebooklaw12.FoldLimits'. -/
def foldLimitsCard : Claim7 := { stood := { row := foldLimitsRow, standIns := [], harness := (true, "3e60cdf08af451342687cdb4def9649aff891aa49fd0c02b09a45d0662f2dedd"), looks := false }, kinds := [], alts := [], laidByText := true, laidKinds := [.data, .pinned], laidTests := true, laidLooks := .later }
def FoldLimitsCardSaid : Prop := Claim7.holds Tryd.pinned (.plain (OpenSpec.ofChange foldLimitsSpec)) foldLimitsCard

/-- THE TIED CARD OF 'phrasebooklaw12.FoldFinds'. -/
def foldFindsCard : Claim7 := { stood := { row := foldFindsRow, standIns := [], harness := (true, "3e60cdf08af451342687cdb4def9649aff891aa49fd0c02b09a45d0662f2dedd"), looks := false }, kinds := [], alts := [], laidByText := true, laidKinds := [.data, .pinned], laidTests := true, laidLooks := .later }
def FoldFindsCardSaid : Prop := Claim7.holds Tryd.pinned (.plain (OpenSpec.ofChange foldFindsSpec)) foldFindsCard

/-- THE SECOND FORM's CARD OF 'phrasebooklaw12.FoldWrites'. -/
def foldWritesUptoCard : Claim7 := { stood := { row := foldWritesUptoRow, standIns := [], harness := (true, "3e60cdf08af451342687cdb4def9649aff891aa49fd0c02b09a45d0662f2dedd"), looks := false }, kinds := [], alts := [], laidByText := true, laidKinds := [.data, .pinned], laidTests := true, laidLooks := .later }
def FoldWritesUptoCardSaid : Prop := Claim7.holds Tryd.pinned (.plain (OpenSpec.upto foldWritesSpec)) foldWritesUptoCard

/-- THE SECOND FORM's CARD OF 'phrasebooklaw12.FoldReads'. -/
def foldReadsUptoCard : Claim7 := { stood := { row := foldReadsUptoRow, standIns := [], harness := (true, "3e60cdf08af451342687cdb4def9649aff891aa49fd0c02b09a45d0662f2dedd"), looks := false }, kinds := [], alts := [], laidByText := true, laidKinds := [.data, .pinned], laidTests := true, laidLooks := .later }
def FoldReadsUptoCardSaid : Prop := Claim7.holds Tryd.pinned (.plain (OpenSpec.upto foldReadsSpec)) foldReadsUptoCard

/-- THE SECOND FORM's CARD OF 'phrasebooklaw12.FoldScans'. -/
def foldScansUptoCard : Claim7 := { stood := { row := foldScansUptoRow, standIns := [], harness := (true, "3e60cdf08af451342687cdb4def9649aff891aa49fd0c02b09a45d0662f2dedd"), looks := false }, kinds := [], alts := [], laidByText := true, laidKinds := [.data, .pinned], laidTests := true, laidLooks := .later }
def FoldScansUptoCardSaid : Prop := Claim7.holds Tryd.pinned (.plain (OpenSpec.upto foldScansSpec)) foldScansUptoCard

/-- THE SECOND FORM's CARD OF 'phrasebooklaw12.FoldLines'. -/
def foldLinesUptoCard : Claim7 := { stood := { row := foldLinesUptoRow, standIns := [], harness := (true, "3e60cdf08af451342687cdb4def9649aff891aa49fd0c02b09a45d0662f2dedd"), looks := false }, kinds := [], alts := [], laidByText := true, laidKinds := [.data, .pinned], laidTests := true, laidLooks := .later }
def FoldLinesUptoCardSaid : Prop := Claim7.holds Tryd.pinned (.plain (OpenSpec.upto foldLinesSpec)) foldLinesUptoCard

/-- THE SECOND FORM's CARD OF 'phrasebooklaw12.FoldInverts'. -/
def foldInvertsUptoCard : Claim7 := { stood := { row := foldInvertsUptoRow, standIns := [], harness := (true, "3e60cdf08af451342687cdb4def9649aff891aa49fd0c02b09a45d0662f2dedd"), looks := false }, kinds := [], alts := [], laidByText := true, laidKinds := [.data, .pinned], laidTests := true, laidLooks := .later }
def FoldInvertsUptoCardSaid : Prop := Claim7.holds Tryd.pinned (.plain (OpenSpec.upto foldInvertsSpec)) foldInvertsUptoCard

/-- THE SECOND FORM's CARD OF 'phrasebooklaw12.FoldGoes'. -/
def foldGoesUptoCard : Claim7 := { stood := { row := foldGoesUptoRow, standIns := [], harness := (true, "3e60cdf08af451342687cdb4def9649aff891aa49fd0c02b09a45d0662f2dedd"), looks := false }, kinds := [], alts := [], laidByText := true, laidKinds := [.data, .pinned], laidTests := true, laidLooks := .later }
def FoldGoesUptoCardSaid : Prop := Claim7.holds Tryd.pinned (.plain (OpenSpec.upto foldGoesSpec)) foldGoesUptoCard

/-- THE SECOND FORM's CARD OF 'phrasebooklaw12.FoldLimits'. -/
def foldLimitsUptoCard : Claim7 := { stood := { row := foldLimitsUptoRow, standIns := [], harness := (true, "3e60cdf08af451342687cdb4def9649aff891aa49fd0c02b09a45d0662f2dedd"), looks := false }, kinds := [], alts := [], laidByText := true, laidKinds := [.data, .pinned], laidTests := true, laidLooks := .later }
def FoldLimitsUptoCardSaid : Prop := Claim7.holds Tryd.pinned (.plain (OpenSpec.upto foldLimitsSpec)) foldLimitsUptoCard

/-- THE SECOND FORM's CARD OF 'phrasebooklaw12.FoldFinds'. -/
def foldFindsUptoCard : Claim7 := { stood := { row := foldFindsUptoRow, standIns := [], harness := (true, "3e60cdf08af451342687cdb4def9649aff891aa49fd0c02b09a45d0662f2dedd"), looks := false }, kinds := [], alts := [], laidByText := true, laidKinds := [.data, .pinned], laidTests := true, laidLooks := .later }
def FoldFindsUptoCardSaid : Prop := Claim7.holds Tryd.pinned (.plain (OpenSpec.upto foldFindsSpec)) foldFindsUptoCard
end Rows
end Go.Proofs.YtkalllenggmgoaaDoor
