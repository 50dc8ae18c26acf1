/-
  DERIVED. GIVEN WITH THE SEED: THE CARDS: each row of YtbibidfkbdhblaaGreatDoorRows.lean that lists a variable, with what it lists TIED to the program's text (the seventh form; the later family's looks); each row that meets fmt, with fmt's text TOLD by the authors' own Lean function (tested against real Go, not proved from fmt's source: count such statements apart). THE CARD IS WHAT COUNTS. Prove the row's statement (the work); the ties are given (YtbibidfkbdhblaaGreatDoorTie.lean); close each card by the builder's one call (the guide's Derived/Test/ToyasCard.lean, 'card_holds'). Laid BY PROGRAM, IN A SANDBOX (cutbox-door.mjs). By AI agents, Wed Nov 11 2026. No macro, syntax, notation, axiom, sorry.
-/
import Derived.Test.YtbibidfkbdhblaaGreatDoorRows
import GoSem.ClaimSeven
namespace Go.Proofs.YtbibidfkbdhblaaGreatDoor
namespace Rows

/-- THE TIED CARD OF 'baudotlaw06.StoreTapes'. -/
def storeTapesCard : Claim7 := { stood := { row := storeTapesRow, standIns := [], harness := (true, "80f0bdbc9bf992028bfd482152e4034f37ff3a4b20325f8fd80dfa374d571712"), looks := false }, kinds := [], alts := [], goes := true, laidByText := true, laidKinds := [.funcsDeep], laidTests := true, laidLooks := .later }
def StoreTapesCardSaid : Prop := Claim7.holds Tryz.pinned (.plain (OpenSpec.ofChange storeTapesSpec)) storeTapesCard

/-- THE TIED CARD OF 'baudotlaw06.StoreClaims'. -/
def storeClaimsCard : Claim7 := { stood := { row := storeClaimsRow, standIns := [], harness := (true, "80f0bdbc9bf992028bfd482152e4034f37ff3a4b20325f8fd80dfa374d571712"), looks := false }, kinds := [], alts := [], goes := true, laidByText := true, laidKinds := [.funcsDeep], laidTests := true, laidLooks := .later }
def StoreClaimsCardSaid : Prop := Claim7.holds Tryz.pinned (.plain (OpenSpec.ofChange storeClaimsSpec)) storeClaimsCard

/-- THE TIED CARD OF 'baudotlaw06.StoreHistories'. -/
def storeHistoriesCard : Claim7 := { stood := { row := storeHistoriesRow, standIns := [], harness := (true, "80f0bdbc9bf992028bfd482152e4034f37ff3a4b20325f8fd80dfa374d571712"), looks := false }, kinds := [], alts := [], goes := true, laidByText := true, laidKinds := [.funcsDeep], laidTests := true, laidLooks := .later }
def StoreHistoriesCardSaid : Prop := Claim7.holds Tryz.pinned (.plain (OpenSpec.ofChange storeHistoriesSpec)) storeHistoriesCard

/-- THE TIED CARD OF 'baudotlaw06.StoreRecords'. -/
def storeRecordsCard : Claim7 := { stood := { row := storeRecordsRow, standIns := [], harness := (true, "80f0bdbc9bf992028bfd482152e4034f37ff3a4b20325f8fd80dfa374d571712"), looks := false }, kinds := [], alts := [], goes := true, laidByText := true, laidKinds := [.funcsDeep], laidTests := true, laidLooks := .later }
def StoreRecordsCardSaid : Prop := Claim7.holds Tryz.pinned (.plain (OpenSpec.ofChange storeRecordsSpec)) storeRecordsCard

/-- THE TIED CARD OF 'baudotlaw06.StoreReal'. -/
def storeRealCard : Claim7 := { stood := { row := storeRealRow, standIns := [], harness := (true, "80f0bdbc9bf992028bfd482152e4034f37ff3a4b20325f8fd80dfa374d571712"), looks := false }, kinds := [], alts := [], goes := true, laidByText := true, laidKinds := [.funcsDeep], laidTests := true, laidLooks := .later }
def StoreRealCardSaid : Prop := Claim7.holds Tryz.pinned (.plain (OpenSpec.ofChange storeRealSpec)) storeRealCard

/-- THE SECOND FORM's CARD OF 'baudotlaw06.StoreTapes'. -/
def storeTapesUptoCard : Claim7 := { stood := { row := storeTapesUptoRow, standIns := [], harness := (true, "80f0bdbc9bf992028bfd482152e4034f37ff3a4b20325f8fd80dfa374d571712"), looks := false }, kinds := [], alts := [], goes := true, laidByText := true, laidKinds := [.funcsDeep], laidTests := true, laidLooks := .later }
def StoreTapesUptoCardSaid : Prop := Claim7.holds Tryz.pinned (.plain (OpenSpec.upto storeTapesSpec)) storeTapesUptoCard

/-- THE SECOND FORM's CARD OF 'baudotlaw06.StoreClaims'. -/
def storeClaimsUptoCard : Claim7 := { stood := { row := storeClaimsUptoRow, standIns := [], harness := (true, "80f0bdbc9bf992028bfd482152e4034f37ff3a4b20325f8fd80dfa374d571712"), looks := false }, kinds := [], alts := [], goes := true, laidByText := true, laidKinds := [.funcsDeep], laidTests := true, laidLooks := .later }
def StoreClaimsUptoCardSaid : Prop := Claim7.holds Tryz.pinned (.plain (OpenSpec.upto storeClaimsSpec)) storeClaimsUptoCard

/-- THE SECOND FORM's CARD OF 'baudotlaw06.StoreHistories'. -/
def storeHistoriesUptoCard : Claim7 := { stood := { row := storeHistoriesUptoRow, standIns := [], harness := (true, "80f0bdbc9bf992028bfd482152e4034f37ff3a4b20325f8fd80dfa374d571712"), looks := false }, kinds := [], alts := [], goes := true, laidByText := true, laidKinds := [.funcsDeep], laidTests := true, laidLooks := .later }
def StoreHistoriesUptoCardSaid : Prop := Claim7.holds Tryz.pinned (.plain (OpenSpec.upto storeHistoriesSpec)) storeHistoriesUptoCard

/-- THE SECOND FORM's CARD OF 'baudotlaw06.StoreRecords'. -/
def storeRecordsUptoCard : Claim7 := { stood := { row := storeRecordsUptoRow, standIns := [], harness := (true, "80f0bdbc9bf992028bfd482152e4034f37ff3a4b20325f8fd80dfa374d571712"), looks := false }, kinds := [], alts := [], goes := true, laidByText := true, laidKinds := [.funcsDeep], laidTests := true, laidLooks := .later }
def StoreRecordsUptoCardSaid : Prop := Claim7.holds Tryz.pinned (.plain (OpenSpec.upto storeRecordsSpec)) storeRecordsUptoCard

/-- THE SECOND FORM's CARD OF 'baudotlaw06.StoreReal'. -/
def storeRealUptoCard : Claim7 := { stood := { row := storeRealUptoRow, standIns := [], harness := (true, "80f0bdbc9bf992028bfd482152e4034f37ff3a4b20325f8fd80dfa374d571712"), looks := false }, kinds := [], alts := [], goes := true, laidByText := true, laidKinds := [.funcsDeep], laidTests := true, laidLooks := .later }
def StoreRealUptoCardSaid : Prop := Claim7.holds Tryz.pinned (.plain (OpenSpec.upto storeRealSpec)) storeRealUptoCard
end Rows
end Go.Proofs.YtbibidfkbdhblaaGreatDoor
