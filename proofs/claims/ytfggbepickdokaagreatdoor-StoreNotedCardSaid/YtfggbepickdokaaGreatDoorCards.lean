/-
  DERIVED. GIVEN WITH THE SEED: THE CARDS: each row of YtfggbepickdokaaGreatDoorRows.lean that lists a variable, with what it lists TIED to the program's text (the seventh form; the later family's looks); each row that meets fmt, with fmt's text TOLD by the authors' own Lean function (tested against real Go, not proved from fmt's source: count such statements apart). THE CARD IS WHAT COUNTS. Prove the row's statement (the work); the ties are given (YtfggbepickdokaaGreatDoorTie.lean); close each card by the builder's one call (the guide's Derived/Test/ToyasCard.lean, 'card_holds'). Laid BY PROGRAM, IN A SANDBOX (cutbox-door.mjs). By AI agents, Wed Nov 11 2026. No macro, syntax, notation, axiom, sorry.
-/
import Derived.Test.YtfggbepickdokaaGreatDoorRows
import GoSem.ClaimSeven
namespace Go.Proofs.YtfggbepickdokaaGreatDoor
namespace Rows

/-- THE TIED CARD OF 'baudotlaw06.StoreTapes'. -/
def storeTapesCard : Claim7 := { stood := { row := storeTapesRow, standIns := [], harness := (true, "ab52456662b607c1ba14e5e563122c39f0fc147070ddfbd73bca45774a4728a2"), looks := false }, kinds := [], alts := [], goes := true, laidByText := true, laidKinds := [.funcsDeep], laidTests := true, laidLooks := .later }
def StoreTapesCardSaid : Prop := Claim7.holds Tryz.pinned (.plain (OpenSpec.ofChange storeTapesSpec)) storeTapesCard

/-- THE TIED CARD OF 'baudotlaw06.StoreNoted'. -/
def storeNotedCard : Claim7 := { stood := { row := storeNotedRow, standIns := [], harness := (true, "ab52456662b607c1ba14e5e563122c39f0fc147070ddfbd73bca45774a4728a2"), looks := false }, kinds := [], alts := [], goes := true, laidByText := true, laidKinds := [.funcsDeep], laidTests := true, laidLooks := .later }
def StoreNotedCardSaid : Prop := Claim7.holds Tryz.pinned (.plain (OpenSpec.ofChange storeNotedSpec)) storeNotedCard

/-- THE TIED CARD OF 'baudotlaw06.StoreConnects'. -/
def storeConnectsCard : Claim7 := { stood := { row := storeConnectsRow, standIns := [], harness := (true, "ab52456662b607c1ba14e5e563122c39f0fc147070ddfbd73bca45774a4728a2"), looks := false }, kinds := [], alts := [], goes := true, laidByText := true, laidKinds := [.funcsDeep], laidTests := true, laidLooks := .later }
def StoreConnectsCardSaid : Prop := Claim7.holds Tryz.pinned (.plain (OpenSpec.ofChange storeConnectsSpec)) storeConnectsCard

/-- THE TIED CARD OF 'baudotlaw06.StoreRecords'. -/
def storeRecordsCard : Claim7 := { stood := { row := storeRecordsRow, standIns := [], harness := (true, "ab52456662b607c1ba14e5e563122c39f0fc147070ddfbd73bca45774a4728a2"), looks := false }, kinds := [], alts := [], goes := true, laidByText := true, laidKinds := [.funcsDeep], laidTests := true, laidLooks := .later }
def StoreRecordsCardSaid : Prop := Claim7.holds Tryz.pinned (.plain (OpenSpec.ofChange storeRecordsSpec)) storeRecordsCard

/-- THE SECOND FORM's CARD OF 'baudotlaw06.StoreTapes'. -/
def storeTapesUptoCard : Claim7 := { stood := { row := storeTapesUptoRow, standIns := [], harness := (true, "ab52456662b607c1ba14e5e563122c39f0fc147070ddfbd73bca45774a4728a2"), looks := false }, kinds := [], alts := [], goes := true, laidByText := true, laidKinds := [.funcsDeep], laidTests := true, laidLooks := .later }
def StoreTapesUptoCardSaid : Prop := Claim7.holds Tryz.pinned (.plain (OpenSpec.upto storeTapesSpec)) storeTapesUptoCard

/-- THE SECOND FORM's CARD OF 'baudotlaw06.StoreNoted'. -/
def storeNotedUptoCard : Claim7 := { stood := { row := storeNotedUptoRow, standIns := [], harness := (true, "ab52456662b607c1ba14e5e563122c39f0fc147070ddfbd73bca45774a4728a2"), looks := false }, kinds := [], alts := [], goes := true, laidByText := true, laidKinds := [.funcsDeep], laidTests := true, laidLooks := .later }
def StoreNotedUptoCardSaid : Prop := Claim7.holds Tryz.pinned (.plain (OpenSpec.upto storeNotedSpec)) storeNotedUptoCard

/-- THE SECOND FORM's CARD OF 'baudotlaw06.StoreConnects'. -/
def storeConnectsUptoCard : Claim7 := { stood := { row := storeConnectsUptoRow, standIns := [], harness := (true, "ab52456662b607c1ba14e5e563122c39f0fc147070ddfbd73bca45774a4728a2"), looks := false }, kinds := [], alts := [], goes := true, laidByText := true, laidKinds := [.funcsDeep], laidTests := true, laidLooks := .later }
def StoreConnectsUptoCardSaid : Prop := Claim7.holds Tryz.pinned (.plain (OpenSpec.upto storeConnectsSpec)) storeConnectsUptoCard

/-- THE SECOND FORM's CARD OF 'baudotlaw06.StoreRecords'. -/
def storeRecordsUptoCard : Claim7 := { stood := { row := storeRecordsUptoRow, standIns := [], harness := (true, "ab52456662b607c1ba14e5e563122c39f0fc147070ddfbd73bca45774a4728a2"), looks := false }, kinds := [], alts := [], goes := true, laidByText := true, laidKinds := [.funcsDeep], laidTests := true, laidLooks := .later }
def StoreRecordsUptoCardSaid : Prop := Claim7.holds Tryz.pinned (.plain (OpenSpec.upto storeRecordsSpec)) storeRecordsUptoCard
end Rows
end Go.Proofs.YtfggbepickdokaaGreatDoor
