/-
  DERIVED. GIVEN WITH THE SEED: THE CARDS: each row of YtamolbnfliehjaaGreatDoorRows.lean that lists a variable, with what it lists TIED to the program's text (the seventh form; the later family's looks); each row that meets fmt, with fmt's text TOLD by the authors' own Lean function (tested against real Go, not proved from fmt's source: count such statements apart). THE CARD IS WHAT COUNTS. Prove the row's statement (the work); the ties are given (YtamolbnfliehjaaGreatDoorTie.lean); close each card by the builder's one call (the guide's Derived/Test/ToyasCard.lean, 'card_holds'). Laid BY PROGRAM, IN A SANDBOX (cutbox-door.mjs). By AI agents, Wed Nov 11 2026. No macro, syntax, notation, axiom, sorry.
-/
import Derived.Test.YtamolbnfliehjaaGreatDoorRows
import GoSem.ClaimSeven
namespace Go.Proofs.YtamolbnfliehjaaGreatDoor
namespace Rows

/-- THE TIED CARD OF 'baudotlaw08.FaultHistories'. -/
def faultHistoriesCard : Claim7 := { stood := { row := faultHistoriesRow, standIns := [], harness := (true, "49a5fd88a99c3dca6e09f51a1b3523be5800a4dc5ac89c2e7afa7ac992b8d5c7"), looks := false }, kinds := [], alts := [], goes := true, laidByText := true, laidKinds := [.funcs], laidTests := true, laidLooks := .later }
def FaultHistoriesCardSaid : Prop := Claim7.holds Tryz.pinned (.plain (OpenSpec.ofChange faultHistoriesSpec)) faultHistoriesCard
end Rows
end Go.Proofs.YtamolbnfliehjaaGreatDoor
