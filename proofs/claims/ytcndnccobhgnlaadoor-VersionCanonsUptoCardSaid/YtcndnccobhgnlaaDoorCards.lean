/-
  DERIVED. GIVEN WITH THE SEED: THE CARDS: each row of YtcndnccobhgnlaaDoorRows.lean that lists a variable, with what it lists TIED to the program's text (the seventh form; the later family's looks); each row that meets fmt, with fmt's text TOLD by the authors' own Lean function (tested against real Go, not proved from fmt's source: count such statements apart). THE CARD IS WHAT COUNTS. Prove the row's statement (the work); the ties are given (YtcndnccobhgnlaaDoorTie.lean); close each card by the builder's one call (the guide's Derived/Test/ToyasCard.lean, 'card_holds'). Laid BY PROGRAM, IN A SANDBOX (cutbox-door.mjs). By AI agents, Wed Nov 11 2026. No macro, syntax, notation, axiom, sorry.
-/
import Derived.Test.YtcndnccobhgnlaaDoorRows
import GoSem.ClaimSeven
namespace Go.Proofs.YtcndnccobhgnlaaDoor
namespace Rows

/-- THE TIED CARD OF 'depotlaw20.VersionKeys'. -/
def versionKeysCard : Claim7 := { stood := { row := versionKeysRow, standIns := [], harness := (true, "aef7118d99d68d08825bfdc11ea9b1d4999f5c4fad6c7df1fde347d9a58592cd"), looks := false }, kinds := [], alts := [], laidByText := true, laidKinds := [.data, .pinned], laidTests := true, laidLooks := .later }
def VersionKeysCardSaid : Prop := Claim7.holds Tryd.pinned (.plain (OpenSpec.ofChange versionKeysSpec)) versionKeysCard

/-- THE TIED CARD OF 'depotlaw20.VersionCanons'. -/
def versionCanonsCard : Claim7 := { stood := { row := versionCanonsRow, standIns := [], harness := (true, "aef7118d99d68d08825bfdc11ea9b1d4999f5c4fad6c7df1fde347d9a58592cd"), looks := false }, kinds := [], alts := [], laidByText := true, laidKinds := [.data, .pinned], laidTests := true, laidLooks := .later }
def VersionCanonsCardSaid : Prop := Claim7.holds Tryd.pinned (.plain (OpenSpec.ofChange versionCanonsSpec)) versionCanonsCard

/-- THE SECOND FORM's CARD OF 'depotlaw20.VersionKeys'. -/
def versionKeysUptoCard : Claim7 := { stood := { row := versionKeysUptoRow, standIns := [], harness := (true, "aef7118d99d68d08825bfdc11ea9b1d4999f5c4fad6c7df1fde347d9a58592cd"), looks := false }, kinds := [], alts := [], laidByText := true, laidKinds := [.data, .pinned], laidTests := true, laidLooks := .later }
def VersionKeysUptoCardSaid : Prop := Claim7.holds Tryd.pinned (.plain (OpenSpec.upto versionKeysSpec)) versionKeysUptoCard

/-- THE SECOND FORM's CARD OF 'depotlaw20.VersionCanons'. -/
def versionCanonsUptoCard : Claim7 := { stood := { row := versionCanonsUptoRow, standIns := [], harness := (true, "aef7118d99d68d08825bfdc11ea9b1d4999f5c4fad6c7df1fde347d9a58592cd"), looks := false }, kinds := [], alts := [], laidByText := true, laidKinds := [.data, .pinned], laidTests := true, laidLooks := .later }
def VersionCanonsUptoCardSaid : Prop := Claim7.holds Tryd.pinned (.plain (OpenSpec.upto versionCanonsSpec)) versionCanonsUptoCard
end Rows
end Go.Proofs.YtcndnccobhgnlaaDoor
