/-
  DERIVED. GIVEN WITH THE SEED: THE CARDS: each row of YtmocooihkobdjaaDoorRows.lean that lists a variable, with what it lists TIED to the program's text (the seventh form; the later family's looks); each row that meets fmt, with fmt's text TOLD by the authors' own Lean function (tested against real Go, not proved from fmt's source: count such statements apart). THE CARD IS WHAT COUNTS. Prove the row's statement (the work); the ties are given (YtmocooihkobdjaaDoorTie.lean); close each card by the builder's one call (the guide's Derived/Test/ToyasCard.lean, 'card_holds'). Laid BY PROGRAM, IN A SANDBOX (cutbox-door.mjs). By AI agents, Wed Nov 11 2026. No macro, syntax, notation, axiom, sorry.
-/
import Derived.Test.YtmocooihkobdjaaDoorRows
import GoSem.ClaimSeven
namespace Go.Proofs.YtmocooihkobdjaaDoor
namespace Rows

/-- THE TIED CARD OF 'depotlaw24.RequestShapes'. -/
def requestShapesCard : Claim7 := { stood := { row := requestShapesRow, standIns := [], harness := (true, "e5fd411952dbc7aedbb7d6ed3e94ec03702ffdff2a33dcc54c232718f685e08b"), looks := true }, kinds := [], alts := [], laidByText := true, laidKinds := [.data], laidTests := true, laidLooks := .later }
def RequestShapesCardSaid : Prop := Claim7.holds Tryd.pinned (.plain (OpenSpec.ofChange requestShapesSpec)) requestShapesCard

/-- THE TIED CARD OF 'depotlaw24.RequestJoins'. -/
def requestJoinsCard : Claim7 := { stood := { row := requestJoinsRow, standIns := [], harness := (true, "e5fd411952dbc7aedbb7d6ed3e94ec03702ffdff2a33dcc54c232718f685e08b"), looks := true }, kinds := [], alts := [], laidByText := true, laidKinds := [.data], laidTests := true, laidLooks := .later }
def RequestJoinsCardSaid : Prop := Claim7.holds Tryd.pinned (.plain (OpenSpec.ofChange requestJoinsSpec)) requestJoinsCard

/-- THE TIED CARD OF 'depotlaw24.RequestWrites'. -/
def requestWritesCard : Claim7 := { stood := { row := requestWritesRow, standIns := [], harness := (true, "e5fd411952dbc7aedbb7d6ed3e94ec03702ffdff2a33dcc54c232718f685e08b"), looks := true }, kinds := [], alts := [], laidByText := true, laidKinds := [.data], laidTests := true, laidLooks := .later }
def RequestWritesCardSaid : Prop := Claim7.holds Tryd.pinned (.plain (OpenSpec.ofChange requestWritesSpec)) requestWritesCard

/-- THE TIED CARD OF 'depotlaw24.RequestReads'. -/
def requestReadsCard : Claim7 := { stood := { row := requestReadsRow, standIns := [], harness := (true, "e5fd411952dbc7aedbb7d6ed3e94ec03702ffdff2a33dcc54c232718f685e08b"), looks := true }, kinds := [], alts := [], laidByText := true, laidKinds := [.data, .data, .pinned], laidTests := true, laidLooks := .later }
def RequestReadsCardSaid : Prop := Claim7.holds Tryd.pinned (.plain (OpenSpec.ofChange requestReadsSpec)) requestReadsCard

/-- THE TIED CARD OF 'depotlaw24.RequestTwo'. -/
def requestTwoCard : Claim7 := { stood := { row := requestTwoRow, standIns := [], harness := (true, "e5fd411952dbc7aedbb7d6ed3e94ec03702ffdff2a33dcc54c232718f685e08b"), looks := true }, kinds := [], alts := [], laidByText := true, laidKinds := [.data, .data, .pinned], laidTests := true, laidLooks := .later }
def RequestTwoCardSaid : Prop := Claim7.holds Tryd.pinned (.plain (OpenSpec.ofChange requestTwoSpec)) requestTwoCard

/-- THE TIED CARD OF 'depotlaw24.RequestBack'. -/
def requestBackCard : Claim7 := { stood := { row := requestBackRow, standIns := [], harness := (true, "e5fd411952dbc7aedbb7d6ed3e94ec03702ffdff2a33dcc54c232718f685e08b"), looks := true }, kinds := [], alts := [], laidByText := true, laidKinds := [.data, .data, .pinned], laidTests := true, laidLooks := .later }
def RequestBackCardSaid : Prop := Claim7.holds Tryd.pinned (.plain (OpenSpec.ofChange requestBackSpec)) requestBackCard

/-- THE TIED CARD OF 'depotlaw24.RequestAgain'. -/
def requestAgainCard : Claim7 := { stood := { row := requestAgainRow, standIns := [], harness := (true, "e5fd411952dbc7aedbb7d6ed3e94ec03702ffdff2a33dcc54c232718f685e08b"), looks := true }, kinds := [], alts := [], laidByText := true, laidKinds := [.data, .data, .pinned], laidTests := true, laidLooks := .later }
def RequestAgainCardSaid : Prop := Claim7.holds Tryd.pinned (.plain (OpenSpec.ofChange requestAgainSpec)) requestAgainCard

/-- THE TIED CARD OF 'depotlaw24.RequestIdle'. -/
def requestIdleCard : Claim7 := { stood := { row := requestIdleRow, standIns := [], harness := (true, "e5fd411952dbc7aedbb7d6ed3e94ec03702ffdff2a33dcc54c232718f685e08b"), looks := true }, kinds := [], alts := [], laidByText := true, laidKinds := [.data, .data, .pinned], laidTests := true, laidLooks := .later }
def RequestIdleCardSaid : Prop := Claim7.holds Tryd.pinned (.plain (OpenSpec.ofChange requestIdleSpec)) requestIdleCard

/-- THE SECOND FORM's CARD OF 'depotlaw24.RequestShapes'. -/
def requestShapesUptoCard : Claim7 := { stood := { row := requestShapesUptoRow, standIns := [], harness := (true, "e5fd411952dbc7aedbb7d6ed3e94ec03702ffdff2a33dcc54c232718f685e08b"), looks := true }, kinds := [], alts := [], laidByText := true, laidKinds := [.data], laidTests := true, laidLooks := .later }
def RequestShapesUptoCardSaid : Prop := Claim7.holds Tryd.pinned (.plain (OpenSpec.upto requestShapesSpec)) requestShapesUptoCard

/-- THE SECOND FORM's CARD OF 'depotlaw24.RequestJoins'. -/
def requestJoinsUptoCard : Claim7 := { stood := { row := requestJoinsUptoRow, standIns := [], harness := (true, "e5fd411952dbc7aedbb7d6ed3e94ec03702ffdff2a33dcc54c232718f685e08b"), looks := true }, kinds := [], alts := [], laidByText := true, laidKinds := [.data], laidTests := true, laidLooks := .later }
def RequestJoinsUptoCardSaid : Prop := Claim7.holds Tryd.pinned (.plain (OpenSpec.upto requestJoinsSpec)) requestJoinsUptoCard

/-- THE SECOND FORM's CARD OF 'depotlaw24.RequestWrites'. -/
def requestWritesUptoCard : Claim7 := { stood := { row := requestWritesUptoRow, standIns := [], harness := (true, "e5fd411952dbc7aedbb7d6ed3e94ec03702ffdff2a33dcc54c232718f685e08b"), looks := true }, kinds := [], alts := [], laidByText := true, laidKinds := [.data], laidTests := true, laidLooks := .later }
def RequestWritesUptoCardSaid : Prop := Claim7.holds Tryd.pinned (.plain (OpenSpec.upto requestWritesSpec)) requestWritesUptoCard

/-- THE SECOND FORM's CARD OF 'depotlaw24.RequestReads'. -/
def requestReadsUptoCard : Claim7 := { stood := { row := requestReadsUptoRow, standIns := [], harness := (true, "e5fd411952dbc7aedbb7d6ed3e94ec03702ffdff2a33dcc54c232718f685e08b"), looks := true }, kinds := [], alts := [], laidByText := true, laidKinds := [.data, .data, .pinned], laidTests := true, laidLooks := .later }
def RequestReadsUptoCardSaid : Prop := Claim7.holds Tryd.pinned (.plain (OpenSpec.upto requestReadsSpec)) requestReadsUptoCard

/-- THE SECOND FORM's CARD OF 'depotlaw24.RequestTwo'. -/
def requestTwoUptoCard : Claim7 := { stood := { row := requestTwoUptoRow, standIns := [], harness := (true, "e5fd411952dbc7aedbb7d6ed3e94ec03702ffdff2a33dcc54c232718f685e08b"), looks := true }, kinds := [], alts := [], laidByText := true, laidKinds := [.data, .data, .pinned], laidTests := true, laidLooks := .later }
def RequestTwoUptoCardSaid : Prop := Claim7.holds Tryd.pinned (.plain (OpenSpec.upto requestTwoSpec)) requestTwoUptoCard

/-- THE SECOND FORM's CARD OF 'depotlaw24.RequestBack'. -/
def requestBackUptoCard : Claim7 := { stood := { row := requestBackUptoRow, standIns := [], harness := (true, "e5fd411952dbc7aedbb7d6ed3e94ec03702ffdff2a33dcc54c232718f685e08b"), looks := true }, kinds := [], alts := [], laidByText := true, laidKinds := [.data, .data, .pinned], laidTests := true, laidLooks := .later }
def RequestBackUptoCardSaid : Prop := Claim7.holds Tryd.pinned (.plain (OpenSpec.upto requestBackSpec)) requestBackUptoCard

/-- THE SECOND FORM's CARD OF 'depotlaw24.RequestAgain'. -/
def requestAgainUptoCard : Claim7 := { stood := { row := requestAgainUptoRow, standIns := [], harness := (true, "e5fd411952dbc7aedbb7d6ed3e94ec03702ffdff2a33dcc54c232718f685e08b"), looks := true }, kinds := [], alts := [], laidByText := true, laidKinds := [.data, .data, .pinned], laidTests := true, laidLooks := .later }
def RequestAgainUptoCardSaid : Prop := Claim7.holds Tryd.pinned (.plain (OpenSpec.upto requestAgainSpec)) requestAgainUptoCard

/-- THE SECOND FORM's CARD OF 'depotlaw24.RequestIdle'. -/
def requestIdleUptoCard : Claim7 := { stood := { row := requestIdleUptoRow, standIns := [], harness := (true, "e5fd411952dbc7aedbb7d6ed3e94ec03702ffdff2a33dcc54c232718f685e08b"), looks := true }, kinds := [], alts := [], laidByText := true, laidKinds := [.data, .data, .pinned], laidTests := true, laidLooks := .later }
def RequestIdleUptoCardSaid : Prop := Claim7.holds Tryd.pinned (.plain (OpenSpec.upto requestIdleSpec)) requestIdleUptoCard
end Rows
end Go.Proofs.YtmocooihkobdjaaDoor
