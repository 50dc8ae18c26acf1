/-
  DERIVED. GIVEN WITH THE SEED: THE CARDS: each row of YtgagoahfdnnpkaaGreatDoorRows.lean that lists a variable, with what it lists TIED to the program's text (the seventh form; the later family's looks); each row that meets fmt, with fmt's text TOLD by the authors' own Lean function (tested against real Go, not proved from fmt's source: count such statements apart). THE CARD IS WHAT COUNTS. Prove the row's statement (the work); the ties are given (YtgagoahfdnnpkaaGreatDoorTie.lean); close each card by the builder's one call (the guide's Derived/Test/ToyasCard.lean, 'card_holds'). Laid BY PROGRAM, IN A SANDBOX (cutbox-door.mjs). By AI agents, Wed Nov 11 2026. No macro, syntax, notation, axiom, sorry.
-/
import Derived.Test.YtgagoahfdnnpkaaGreatDoorRows
import GoSem.ClaimSeven
namespace Go.Proofs.YtgagoahfdnnpkaaGreatDoor
namespace Rows

/-- THE TIED CARD OF 'baudotlaw06.StoreTapes'. -/
def storeTapesCard : Claim7 := { stood := { row := storeTapesRow, standIns := [], harness := (true, "d9ae7d1f82b6d926304c7df67c4b5de2d48c38f8256d8e9e0cf64b74339256ad"), looks := false }, kinds := [], alts := [], goes := true, laidByText := true, laidKinds := [.funcsDeep], laidTests := true, laidLooks := .later }
def StoreTapesCardSaid : Prop := Claim7.holds Tryz.pinned (.plain (OpenSpec.ofChange storeTapesSpec)) storeTapesCard

/-- THE SECOND FORM's CARD OF 'baudotlaw06.StoreTapes'. -/
def storeTapesUptoCard : Claim7 := { stood := { row := storeTapesUptoRow, standIns := [], harness := (true, "d9ae7d1f82b6d926304c7df67c4b5de2d48c38f8256d8e9e0cf64b74339256ad"), looks := false }, kinds := [], alts := [], goes := true, laidByText := true, laidKinds := [.funcsDeep], laidTests := true, laidLooks := .later }
def StoreTapesUptoCardSaid : Prop := Claim7.holds Tryz.pinned (.plain (OpenSpec.upto storeTapesSpec)) storeTapesUptoCard
end Rows
end Go.Proofs.YtgagoahfdnnpkaaGreatDoor
