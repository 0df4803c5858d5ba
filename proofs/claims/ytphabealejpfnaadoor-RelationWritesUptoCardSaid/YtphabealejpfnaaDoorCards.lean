/-
  DERIVED. GIVEN WITH THE SEED: THE CARDS: each row of YtphabealejpfnaaDoorRows.lean that lists a variable, with what it lists TIED to the program's text (the seventh form; the later family's looks); each row that meets fmt, with fmt's text TOLD by the authors' own Lean function (tested against real Go, not proved from fmt's source: count such statements apart). THE CARD IS WHAT COUNTS. Prove the row's statement (the work); the ties are given (YtphabealejpfnaaDoorTie.lean); close each card by the builder's one call (the guide's Derived/Test/ToyasCard.lean, 'card_holds'). Laid BY PROGRAM, IN A SANDBOX (cutbox-door.mjs). By AI agents, Wed Nov 11 2026. No macro, syntax, notation, axiom, sorry.
-/
import Derived.Test.YtphabealejpfnaaDoorRows
import GoSem.ClaimSeven
namespace Go.Proofs.YtphabealejpfnaaDoor
namespace Rows

/-- THE TIED CARD OF 'depotlaw22.RelationForms'. -/
def relationFormsCard : Claim7 := { stood := { row := relationFormsRow, standIns := [], harness := (true, "d1958bb148b38ce22dfb9406fc7a1b1bc919b6b0b65471dc78e5ad1417814388"), looks := false }, kinds := [], alts := [], laidByText := true, laidKinds := [.data], laidTests := true, laidLooks := .later }
def RelationFormsCardSaid : Prop := Claim7.holds Tryd.pinned (.plain (OpenSpec.ofChange relationFormsSpec)) relationFormsCard

/-- THE TIED CARD OF 'depotlaw22.RelationReads'. -/
def relationReadsCard : Claim7 := { stood := { row := relationReadsRow, standIns := [], harness := (true, "d1958bb148b38ce22dfb9406fc7a1b1bc919b6b0b65471dc78e5ad1417814388"), looks := false }, kinds := [], alts := [], laidByText := true, laidKinds := [.data], laidTests := true, laidLooks := .later }
def RelationReadsCardSaid : Prop := Claim7.holds Tryd.pinned (.plain (OpenSpec.ofChange relationReadsSpec)) relationReadsCard

/-- THE TIED CARD OF 'depotlaw22.RelationLists'. -/
def relationListsCard : Claim7 := { stood := { row := relationListsRow, standIns := [], harness := (true, "d1958bb148b38ce22dfb9406fc7a1b1bc919b6b0b65471dc78e5ad1417814388"), looks := false }, kinds := [], alts := [], laidByText := true, laidKinds := [.data], laidTests := true, laidLooks := .later }
def RelationListsCardSaid : Prop := Claim7.holds Tryd.pinned (.plain (OpenSpec.ofChange relationListsSpec)) relationListsCard

/-- THE TIED CARD OF 'depotlaw22.RelationWrites'. -/
def relationWritesCard : Claim7 := { stood := { row := relationWritesRow, standIns := [], harness := (true, "d1958bb148b38ce22dfb9406fc7a1b1bc919b6b0b65471dc78e5ad1417814388"), looks := false }, kinds := [], alts := [], laidByText := true, laidKinds := [.data], laidTests := true, laidLooks := .later }
def RelationWritesCardSaid : Prop := Claim7.holds Tryd.pinned (.plain (OpenSpec.ofChange relationWritesSpec)) relationWritesCard

/-- THE TIED CARD OF 'depotlaw22.RelationGaps'. -/
def relationGapsCard : Claim7 := { stood := { row := relationGapsRow, standIns := [], harness := (true, "d1958bb148b38ce22dfb9406fc7a1b1bc919b6b0b65471dc78e5ad1417814388"), looks := false }, kinds := [], alts := [], laidByText := true, laidKinds := [.data], laidTests := true, laidLooks := .later }
def RelationGapsCardSaid : Prop := Claim7.holds Tryd.pinned (.plain (OpenSpec.ofChange relationGapsSpec)) relationGapsCard

/-- THE TIED CARD OF 'depotlaw22.RelationNumbers'. -/
def relationNumbersCard : Claim7 := { stood := { row := relationNumbersRow, standIns := [], harness := (true, "d1958bb148b38ce22dfb9406fc7a1b1bc919b6b0b65471dc78e5ad1417814388"), looks := false }, kinds := [], alts := [], laidByText := true, laidKinds := [.data], laidTests := true, laidLooks := .later }
def RelationNumbersCardSaid : Prop := Claim7.holds Tryd.pinned (.plain (OpenSpec.ofChange relationNumbersSpec)) relationNumbersCard

/-- THE TIED CARD OF 'depotlaw22.RelationThere'. -/
def relationThereCard : Claim7 := { stood := { row := relationThereRow, standIns := [], harness := (true, "d1958bb148b38ce22dfb9406fc7a1b1bc919b6b0b65471dc78e5ad1417814388"), looks := false }, kinds := [], alts := [], laidByText := true, laidKinds := [.data], laidTests := true, laidLooks := .later }
def RelationThereCardSaid : Prop := Claim7.holds Tryd.pinned (.plain (OpenSpec.ofChange relationThereSpec)) relationThereCard

/-- THE TIED CARD OF 'depotlaw22.RelationKeeps'. -/
def relationKeepsCard : Claim7 := { stood := { row := relationKeepsRow, standIns := [], harness := (true, "d1958bb148b38ce22dfb9406fc7a1b1bc919b6b0b65471dc78e5ad1417814388"), looks := false }, kinds := [], alts := [], laidByText := true, laidKinds := [.data], laidTests := true, laidLooks := .later }
def RelationKeepsCardSaid : Prop := Claim7.holds Tryd.pinned (.plain (OpenSpec.ofChange relationKeepsSpec)) relationKeepsCard

/-- THE SECOND FORM's CARD OF 'depotlaw22.RelationForms'. -/
def relationFormsUptoCard : Claim7 := { stood := { row := relationFormsUptoRow, standIns := [], harness := (true, "d1958bb148b38ce22dfb9406fc7a1b1bc919b6b0b65471dc78e5ad1417814388"), looks := false }, kinds := [], alts := [], laidByText := true, laidKinds := [.data], laidTests := true, laidLooks := .later }
def RelationFormsUptoCardSaid : Prop := Claim7.holds Tryd.pinned (.plain (OpenSpec.upto relationFormsSpec)) relationFormsUptoCard

/-- THE SECOND FORM's CARD OF 'depotlaw22.RelationReads'. -/
def relationReadsUptoCard : Claim7 := { stood := { row := relationReadsUptoRow, standIns := [], harness := (true, "d1958bb148b38ce22dfb9406fc7a1b1bc919b6b0b65471dc78e5ad1417814388"), looks := false }, kinds := [], alts := [], laidByText := true, laidKinds := [.data], laidTests := true, laidLooks := .later }
def RelationReadsUptoCardSaid : Prop := Claim7.holds Tryd.pinned (.plain (OpenSpec.upto relationReadsSpec)) relationReadsUptoCard

/-- THE SECOND FORM's CARD OF 'depotlaw22.RelationLists'. -/
def relationListsUptoCard : Claim7 := { stood := { row := relationListsUptoRow, standIns := [], harness := (true, "d1958bb148b38ce22dfb9406fc7a1b1bc919b6b0b65471dc78e5ad1417814388"), looks := false }, kinds := [], alts := [], laidByText := true, laidKinds := [.data], laidTests := true, laidLooks := .later }
def RelationListsUptoCardSaid : Prop := Claim7.holds Tryd.pinned (.plain (OpenSpec.upto relationListsSpec)) relationListsUptoCard

/-- THE SECOND FORM's CARD OF 'depotlaw22.RelationWrites'. -/
def relationWritesUptoCard : Claim7 := { stood := { row := relationWritesUptoRow, standIns := [], harness := (true, "d1958bb148b38ce22dfb9406fc7a1b1bc919b6b0b65471dc78e5ad1417814388"), looks := false }, kinds := [], alts := [], laidByText := true, laidKinds := [.data], laidTests := true, laidLooks := .later }
def RelationWritesUptoCardSaid : Prop := Claim7.holds Tryd.pinned (.plain (OpenSpec.upto relationWritesSpec)) relationWritesUptoCard

/-- THE SECOND FORM's CARD OF 'depotlaw22.RelationGaps'. -/
def relationGapsUptoCard : Claim7 := { stood := { row := relationGapsUptoRow, standIns := [], harness := (true, "d1958bb148b38ce22dfb9406fc7a1b1bc919b6b0b65471dc78e5ad1417814388"), looks := false }, kinds := [], alts := [], laidByText := true, laidKinds := [.data], laidTests := true, laidLooks := .later }
def RelationGapsUptoCardSaid : Prop := Claim7.holds Tryd.pinned (.plain (OpenSpec.upto relationGapsSpec)) relationGapsUptoCard

/-- THE SECOND FORM's CARD OF 'depotlaw22.RelationNumbers'. -/
def relationNumbersUptoCard : Claim7 := { stood := { row := relationNumbersUptoRow, standIns := [], harness := (true, "d1958bb148b38ce22dfb9406fc7a1b1bc919b6b0b65471dc78e5ad1417814388"), looks := false }, kinds := [], alts := [], laidByText := true, laidKinds := [.data], laidTests := true, laidLooks := .later }
def RelationNumbersUptoCardSaid : Prop := Claim7.holds Tryd.pinned (.plain (OpenSpec.upto relationNumbersSpec)) relationNumbersUptoCard

/-- THE SECOND FORM's CARD OF 'depotlaw22.RelationThere'. -/
def relationThereUptoCard : Claim7 := { stood := { row := relationThereUptoRow, standIns := [], harness := (true, "d1958bb148b38ce22dfb9406fc7a1b1bc919b6b0b65471dc78e5ad1417814388"), looks := false }, kinds := [], alts := [], laidByText := true, laidKinds := [.data], laidTests := true, laidLooks := .later }
def RelationThereUptoCardSaid : Prop := Claim7.holds Tryd.pinned (.plain (OpenSpec.upto relationThereSpec)) relationThereUptoCard

/-- THE SECOND FORM's CARD OF 'depotlaw22.RelationKeeps'. -/
def relationKeepsUptoCard : Claim7 := { stood := { row := relationKeepsUptoRow, standIns := [], harness := (true, "d1958bb148b38ce22dfb9406fc7a1b1bc919b6b0b65471dc78e5ad1417814388"), looks := false }, kinds := [], alts := [], laidByText := true, laidKinds := [.data], laidTests := true, laidLooks := .later }
def RelationKeepsUptoCardSaid : Prop := Claim7.holds Tryd.pinned (.plain (OpenSpec.upto relationKeepsSpec)) relationKeepsUptoCard
end Rows
end Go.Proofs.YtphabealejpfnaaDoor
