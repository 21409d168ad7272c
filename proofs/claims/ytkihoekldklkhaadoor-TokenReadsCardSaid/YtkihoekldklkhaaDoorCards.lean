/-
  DERIVED. GIVEN WITH THE SEED: THE CARDS: each row of YtkihoekldklkhaaDoorRows.lean that lists a variable, with what it lists TIED to the program's text (the seventh form; the later family's looks); each row that meets fmt, with fmt's text TOLD by the authors' own Lean function (tested against real Go, not proved from fmt's source: count such statements apart). THE CARD IS WHAT COUNTS. Prove the row's statement (the work); the ties are given (YtkihoekldklkhaaDoorTie.lean); close each card by the builder's one call (the guide's Derived/Test/ToyasCard.lean, 'card_holds'). Laid BY PROGRAM, IN A SANDBOX (cutbox-door.mjs). By AI agents, Wed Nov 11 2026. No macro, syntax, notation, axiom, sorry.
-/
import Derived.Test.YtkihoekldklkhaaDoorRows
import GoSem.ClaimSeven
namespace Go.Proofs.YtkihoekldklkhaaDoor
namespace Rows

/-- THE TIED CARD OF 'phrasebooklaw03.TokenNone'. -/
def tokenNoneCard : Claim7 := { stood := { row := tokenNoneRow, standIns := [], harness := (true, "50c9129d7449f92fac15a906c24cedf549484dd05a8b926e93d4c9ebcbace1fa"), looks := true }, kinds := [], alts := [], laidByText := true, laidKinds := [.data, .pinned], laidTests := true, laidLooks := .later }
def TokenNoneCardSaid : Prop := Claim7.holds Tryd.pinned (.plain (OpenSpec.ofChange tokenNoneSpec)) tokenNoneCard

/-- THE TIED CARD OF 'phrasebooklaw03.TokenReads'. -/
def tokenReadsCard : Claim7 := { stood := { row := tokenReadsRow, standIns := [], harness := (true, "50c9129d7449f92fac15a906c24cedf549484dd05a8b926e93d4c9ebcbace1fa"), looks := true }, kinds := [], alts := [], laidByText := true, laidKinds := [.data, .pinned], laidTests := true, laidLooks := .later }
def TokenReadsCardSaid : Prop := Claim7.holds Tryd.pinned (.plain (OpenSpec.ofChange tokenReadsSpec)) tokenReadsCard

/-- THE TIED CARD OF 'phrasebooklaw03.TokenScans'. -/
def tokenScansCard : Claim7 := { stood := { row := tokenScansRow, standIns := [], harness := (true, "50c9129d7449f92fac15a906c24cedf549484dd05a8b926e93d4c9ebcbace1fa"), looks := true }, kinds := [], alts := [], laidByText := true, laidKinds := [.data, .pinned], laidTests := true, laidLooks := .later }
def TokenScansCardSaid : Prop := Claim7.holds Tryd.pinned (.plain (OpenSpec.ofChange tokenScansSpec)) tokenScansCard

/-- THE TIED CARD OF 'phrasebooklaw03.TokenJoins'. -/
def tokenJoinsCard : Claim7 := { stood := { row := tokenJoinsRow, standIns := [], harness := (true, "50c9129d7449f92fac15a906c24cedf549484dd05a8b926e93d4c9ebcbace1fa"), looks := true }, kinds := [], alts := [], laidByText := true, laidKinds := [.data, .pinned], laidTests := true, laidLooks := .later }
def TokenJoinsCardSaid : Prop := Claim7.holds Tryd.pinned (.plain (OpenSpec.ofChange tokenJoinsSpec)) tokenJoinsCard

/-- THE TIED CARD OF 'phrasebooklaw03.TokenInverts'. -/
def tokenInvertsCard : Claim7 := { stood := { row := tokenInvertsRow, standIns := [], harness := (true, "50c9129d7449f92fac15a906c24cedf549484dd05a8b926e93d4c9ebcbace1fa"), looks := true }, kinds := [], alts := [], laidByText := true, laidKinds := [.data, .pinned], laidTests := true, laidLooks := .later }
def TokenInvertsCardSaid : Prop := Claim7.holds Tryd.pinned (.plain (OpenSpec.ofChange tokenInvertsSpec)) tokenInvertsCard

/-- THE SECOND FORM's CARD OF 'phrasebooklaw03.TokenNone'. -/
def tokenNoneUptoCard : Claim7 := { stood := { row := tokenNoneUptoRow, standIns := [], harness := (true, "50c9129d7449f92fac15a906c24cedf549484dd05a8b926e93d4c9ebcbace1fa"), looks := true }, kinds := [], alts := [], laidByText := true, laidKinds := [.data, .pinned], laidTests := true, laidLooks := .later }
def TokenNoneUptoCardSaid : Prop := Claim7.holds Tryd.pinned (.plain (OpenSpec.upto tokenNoneSpec)) tokenNoneUptoCard

/-- THE SECOND FORM's CARD OF 'phrasebooklaw03.TokenReads'. -/
def tokenReadsUptoCard : Claim7 := { stood := { row := tokenReadsUptoRow, standIns := [], harness := (true, "50c9129d7449f92fac15a906c24cedf549484dd05a8b926e93d4c9ebcbace1fa"), looks := true }, kinds := [], alts := [], laidByText := true, laidKinds := [.data, .pinned], laidTests := true, laidLooks := .later }
def TokenReadsUptoCardSaid : Prop := Claim7.holds Tryd.pinned (.plain (OpenSpec.upto tokenReadsSpec)) tokenReadsUptoCard

/-- THE SECOND FORM's CARD OF 'phrasebooklaw03.TokenScans'. -/
def tokenScansUptoCard : Claim7 := { stood := { row := tokenScansUptoRow, standIns := [], harness := (true, "50c9129d7449f92fac15a906c24cedf549484dd05a8b926e93d4c9ebcbace1fa"), looks := true }, kinds := [], alts := [], laidByText := true, laidKinds := [.data, .pinned], laidTests := true, laidLooks := .later }
def TokenScansUptoCardSaid : Prop := Claim7.holds Tryd.pinned (.plain (OpenSpec.upto tokenScansSpec)) tokenScansUptoCard

/-- THE SECOND FORM's CARD OF 'phrasebooklaw03.TokenJoins'. -/
def tokenJoinsUptoCard : Claim7 := { stood := { row := tokenJoinsUptoRow, standIns := [], harness := (true, "50c9129d7449f92fac15a906c24cedf549484dd05a8b926e93d4c9ebcbace1fa"), looks := true }, kinds := [], alts := [], laidByText := true, laidKinds := [.data, .pinned], laidTests := true, laidLooks := .later }
def TokenJoinsUptoCardSaid : Prop := Claim7.holds Tryd.pinned (.plain (OpenSpec.upto tokenJoinsSpec)) tokenJoinsUptoCard

/-- THE SECOND FORM's CARD OF 'phrasebooklaw03.TokenInverts'. -/
def tokenInvertsUptoCard : Claim7 := { stood := { row := tokenInvertsUptoRow, standIns := [], harness := (true, "50c9129d7449f92fac15a906c24cedf549484dd05a8b926e93d4c9ebcbace1fa"), looks := true }, kinds := [], alts := [], laidByText := true, laidKinds := [.data, .pinned], laidTests := true, laidLooks := .later }
def TokenInvertsUptoCardSaid : Prop := Claim7.holds Tryd.pinned (.plain (OpenSpec.upto tokenInvertsSpec)) tokenInvertsUptoCard
end Rows
end Go.Proofs.YtkihoekldklkhaaDoor
