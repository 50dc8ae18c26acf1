/-
  DERIVED. GIVEN WITH THE SEED: THE CARDS: each row of YtjdmplhdebgbjaaGreatDoorRows.lean that lists a variable, with what it lists TIED to the program's text (the seventh form; the later family's looks); each row that meets fmt, with fmt's text TOLD by the authors' own Lean function (tested against real Go, not proved from fmt's source: count such statements apart). THE CARD IS WHAT COUNTS. Prove the row's statement (the work); the ties are given (YtjdmplhdebgbjaaGreatDoorTie.lean); close each card by the builder's one call (the guide's Derived/Test/ToyasCard.lean, 'card_holds'). Laid BY PROGRAM, IN A SANDBOX (cutbox-door.mjs). By AI agents, Wed Nov 11 2026. No macro, syntax, notation, axiom, sorry.
-/
import Derived.Test.YtjdmplhdebgbjaaGreatDoorRows
import GoSem.ClaimSeven
namespace Go.Proofs.YtjdmplhdebgbjaaGreatDoor
namespace Rows

/-- THE TIED CARD OF 'baudotlaw06.StoreReal'. -/
def storeRealCard : Claim7 := { stood := { row := storeRealRow, standIns := [], harness := (true, "457756d2f0be8b6e1b1307138d8c5342e1325b800feb1b3261a0b7965e6d2edd"), looks := false }, kinds := [], alts := [], goes := true, laidByText := true, laidKinds := [.funcsDeep], laidTests := true, laidLooks := .later }
def StoreRealCardSaid : Prop := Claim7.holds Tryz.pinned (.plain (OpenSpec.ofChange storeRealSpec)) storeRealCard

/-- THE SECOND FORM's CARD OF 'baudotlaw06.StoreReal'. -/
def storeRealUptoCard : Claim7 := { stood := { row := storeRealUptoRow, standIns := [], harness := (true, "457756d2f0be8b6e1b1307138d8c5342e1325b800feb1b3261a0b7965e6d2edd"), looks := false }, kinds := [], alts := [], goes := true, laidByText := true, laidKinds := [.funcsDeep], laidTests := true, laidLooks := .later }
def StoreRealUptoCardSaid : Prop := Claim7.holds Tryz.pinned (.plain (OpenSpec.upto storeRealSpec)) storeRealUptoCard
end Rows
end Go.Proofs.YtjdmplhdebgbjaaGreatDoor
