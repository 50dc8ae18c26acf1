/-
  DERIVED. GIVEN WITH THE SEED: THE CARDS: each row of YtojkofjcblmnjaaGreatDoorRows.lean that lists a variable, with what it lists TIED to the program's text (the seventh form; the later family's looks); each row that meets fmt, with fmt's text TOLD by the authors' own Lean function (tested against real Go, not proved from fmt's source: count such statements apart). THE CARD IS WHAT COUNTS. Prove the row's statement (the work); the ties are given (YtojkofjcblmnjaaGreatDoorTie.lean); close each card by the builder's one call (the guide's Derived/Test/ToyasCard.lean, 'card_holds'). Laid BY PROGRAM, IN A SANDBOX (cutbox-door.mjs). By AI agents, Wed Nov 11 2026. No macro, syntax, notation, axiom, sorry.
-/
import Derived.Test.YtojkofjcblmnjaaGreatDoorRows
import GoSem.ClaimSeven
namespace Go.Proofs.YtojkofjcblmnjaaGreatDoor
namespace Rows

/-- THE TIED CARD OF 'baudotlaw06.StoreRecords'. -/
def storeRecordsCard : Claim7 := { stood := { row := storeRecordsRow, standIns := [], harness := (true, "4ffd8df66ef78371994d019d35c1f78cfddea9144f95fd0a1fe722bfb8d0d91f"), looks := false }, kinds := [], alts := [], goes := true, laidByText := true, laidKinds := [.funcsDeep], laidTests := true, laidLooks := .later }
def StoreRecordsCardSaid : Prop := Claim7.holds Tryz.pinned (.plain (OpenSpec.ofChange storeRecordsSpec)) storeRecordsCard

/-- THE SECOND FORM's CARD OF 'baudotlaw06.StoreRecords'. -/
def storeRecordsUptoCard : Claim7 := { stood := { row := storeRecordsUptoRow, standIns := [], harness := (true, "4ffd8df66ef78371994d019d35c1f78cfddea9144f95fd0a1fe722bfb8d0d91f"), looks := false }, kinds := [], alts := [], goes := true, laidByText := true, laidKinds := [.funcsDeep], laidTests := true, laidLooks := .later }
def StoreRecordsUptoCardSaid : Prop := Claim7.holds Tryz.pinned (.plain (OpenSpec.upto storeRecordsSpec)) storeRecordsUptoCard
end Rows
end Go.Proofs.YtojkofjcblmnjaaGreatDoor
