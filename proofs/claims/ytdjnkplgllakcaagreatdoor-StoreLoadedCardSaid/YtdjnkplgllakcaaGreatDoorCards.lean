/-
  DERIVED. GIVEN WITH THE SEED: THE CARDS: each row of YtdjnkplgllakcaaGreatDoorRows.lean that lists a variable, with what it lists TIED to the program's text (the seventh form; the later family's looks); each row that meets fmt, with fmt's text TOLD by the authors' own Lean function (tested against real Go, not proved from fmt's source: count such statements apart). THE CARD IS WHAT COUNTS. Prove the row's statement (the work); the ties are given (YtdjnkplgllakcaaGreatDoorTie.lean); close each card by the builder's one call (the guide's Derived/Test/ToyasCard.lean, 'card_holds'). Laid BY PROGRAM, IN A SANDBOX (cutbox-door.mjs). By AI agents, Wed Nov 11 2026. No macro, syntax, notation, axiom, sorry.
-/
import Derived.Test.YtdjnkplgllakcaaGreatDoorRows
import GoSem.ClaimSeven
namespace Go.Proofs.YtdjnkplgllakcaaGreatDoor
namespace Rows

/-- THE TIED CARD OF 'baudotlaw06.StoreLoaded'. -/
def storeLoadedCard : Claim7 := { stood := { row := storeLoadedRow, standIns := [], harness := (true, "97efc0858248f0f29e66bab1aaa9b4ca74099b229965dc7dd4604d69fd83285b"), looks := false }, kinds := [], alts := [], goes := true, laidByText := true, laidKinds := [.funcsDeep], laidTests := true, laidLooks := .later }
def StoreLoadedCardSaid : Prop := Claim7.holds Tryz.pinned (.plain (OpenSpec.ofChange storeLoadedSpec)) storeLoadedCard

/-- THE SECOND FORM's CARD OF 'baudotlaw06.StoreLoaded'. -/
def storeLoadedUptoCard : Claim7 := { stood := { row := storeLoadedUptoRow, standIns := [], harness := (true, "97efc0858248f0f29e66bab1aaa9b4ca74099b229965dc7dd4604d69fd83285b"), looks := false }, kinds := [], alts := [], goes := true, laidByText := true, laidKinds := [.funcsDeep], laidTests := true, laidLooks := .later }
def StoreLoadedUptoCardSaid : Prop := Claim7.holds Tryz.pinned (.plain (OpenSpec.upto storeLoadedSpec)) storeLoadedUptoCard
end Rows
end Go.Proofs.YtdjnkplgllakcaaGreatDoor
