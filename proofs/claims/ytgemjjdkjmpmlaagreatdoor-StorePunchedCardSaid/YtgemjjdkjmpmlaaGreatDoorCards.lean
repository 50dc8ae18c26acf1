/-
  DERIVED. GIVEN WITH THE SEED: THE CARDS: each row of YtgemjjdkjmpmlaaGreatDoorRows.lean that lists a variable, with what it lists TIED to the program's text (the seventh form; the later family's looks); each row that meets fmt, with fmt's text TOLD by the authors' own Lean function (tested against real Go, not proved from fmt's source: count such statements apart). THE CARD IS WHAT COUNTS. Prove the row's statement (the work); the ties are given (YtgemjjdkjmpmlaaGreatDoorTie.lean); close each card by the builder's one call (the guide's Derived/Test/ToyasCard.lean, 'card_holds'). Laid BY PROGRAM, IN A SANDBOX (cutbox-door.mjs). By AI agents, Wed Nov 11 2026. No macro, syntax, notation, axiom, sorry.
-/
import Derived.Test.YtgemjjdkjmpmlaaGreatDoorRows
import GoSem.ClaimSeven
namespace Go.Proofs.YtgemjjdkjmpmlaaGreatDoor
namespace Rows

/-- THE TIED CARD OF 'baudotlaw06.StoreAgain'. -/
def storeAgainCard : Claim7 := { stood := { row := storeAgainRow, standIns := [], harness := (true, "0b6b9978bd9c393754ac67e76f213079be6efa5074d8d254cd77a60eb781fd62"), looks := false }, kinds := [], alts := [], goes := true, laidByText := true, laidKinds := [.funcsDeep], laidTests := true, laidLooks := .later }
def StoreAgainCardSaid : Prop := Claim7.holds Tryz.pinned (.plain (OpenSpec.ofChange storeAgainSpec)) storeAgainCard

/-- THE TIED CARD OF 'baudotlaw06.StoreClashes'. -/
def storeClashesCard : Claim7 := { stood := { row := storeClashesRow, standIns := [], harness := (true, "0b6b9978bd9c393754ac67e76f213079be6efa5074d8d254cd77a60eb781fd62"), looks := false }, kinds := [], alts := [], goes := true, laidByText := true, laidKinds := [.funcsDeep], laidTests := true, laidLooks := .later }
def StoreClashesCardSaid : Prop := Claim7.holds Tryz.pinned (.plain (OpenSpec.ofChange storeClashesSpec)) storeClashesCard

/-- THE TIED CARD OF 'baudotlaw06.StoreAsked'. -/
def storeAskedCard : Claim7 := { stood := { row := storeAskedRow, standIns := [], harness := (true, "0b6b9978bd9c393754ac67e76f213079be6efa5074d8d254cd77a60eb781fd62"), looks := false }, kinds := [], alts := [], goes := true, laidByText := true, laidKinds := [.funcsDeep], laidTests := true, laidLooks := .later }
def StoreAskedCardSaid : Prop := Claim7.holds Tryz.pinned (.plain (OpenSpec.ofChange storeAskedSpec)) storeAskedCard

/-- THE TIED CARD OF 'baudotlaw06.StorePunched'. -/
def storePunchedCard : Claim7 := { stood := { row := storePunchedRow, standIns := [], harness := (true, "0b6b9978bd9c393754ac67e76f213079be6efa5074d8d254cd77a60eb781fd62"), looks := false }, kinds := [], alts := [], goes := true, laidByText := true, laidKinds := [.funcsDeep], laidTests := true, laidLooks := .later }
def StorePunchedCardSaid : Prop := Claim7.holds Tryz.pinned (.plain (OpenSpec.ofChange storePunchedSpec)) storePunchedCard

/-- THE TIED CARD OF 'baudotlaw06.StoreAnyOrder'. -/
def storeAnyOrderCard : Claim7 := { stood := { row := storeAnyOrderRow, standIns := [], harness := (true, "0b6b9978bd9c393754ac67e76f213079be6efa5074d8d254cd77a60eb781fd62"), looks := false }, kinds := [], alts := [], goes := true, laidByText := true, laidKinds := [.funcsDeep], laidTests := true, laidLooks := .later }
def StoreAnyOrderCardSaid : Prop := Claim7.holds Tryz.pinned (.plain (OpenSpec.ofChange storeAnyOrderSpec)) storeAnyOrderCard

/-- THE TIED CARD OF 'baudotlaw06.StorePacked'. -/
def storePackedCard : Claim7 := { stood := { row := storePackedRow, standIns := [], harness := (true, "0b6b9978bd9c393754ac67e76f213079be6efa5074d8d254cd77a60eb781fd62"), looks := false }, kinds := [], alts := [], goes := true, laidByText := true, laidKinds := [.funcsDeep], laidTests := true, laidLooks := .later }
def StorePackedCardSaid : Prop := Claim7.holds Tryz.pinned (.plain (OpenSpec.ofChange storePackedSpec)) storePackedCard

/-- THE TIED CARD OF 'baudotlaw06.StoreEarlier'. -/
def storeEarlierCard : Claim7 := { stood := { row := storeEarlierRow, standIns := [], harness := (true, "0b6b9978bd9c393754ac67e76f213079be6efa5074d8d254cd77a60eb781fd62"), looks := false }, kinds := [], alts := [], goes := true, laidByText := true, laidKinds := [.funcsDeep], laidTests := true, laidLooks := .later }
def StoreEarlierCardSaid : Prop := Claim7.holds Tryz.pinned (.plain (OpenSpec.ofChange storeEarlierSpec)) storeEarlierCard

/-- THE TIED CARD OF 'baudotlaw06.StoreClaims'. -/
def storeClaimsCard : Claim7 := { stood := { row := storeClaimsRow, standIns := [], harness := (true, "0b6b9978bd9c393754ac67e76f213079be6efa5074d8d254cd77a60eb781fd62"), looks := false }, kinds := [], alts := [], goes := true, laidByText := true, laidKinds := [.funcsDeep], laidTests := true, laidLooks := .later }
def StoreClaimsCardSaid : Prop := Claim7.holds Tryz.pinned (.plain (OpenSpec.ofChange storeClaimsSpec)) storeClaimsCard

/-- THE TIED CARD OF 'baudotlaw06.StoreReached'. -/
def storeReachedCard : Claim7 := { stood := { row := storeReachedRow, standIns := [], harness := (true, "0b6b9978bd9c393754ac67e76f213079be6efa5074d8d254cd77a60eb781fd62"), looks := false }, kinds := [], alts := [], goes := true, laidByText := true, laidKinds := [.funcsDeep], laidTests := true, laidLooks := .later }
def StoreReachedCardSaid : Prop := Claim7.holds Tryz.pinned (.plain (OpenSpec.ofChange storeReachedSpec)) storeReachedCard

/-- THE TIED CARD OF 'baudotlaw06.StoreReal'. -/
def storeRealCard : Claim7 := { stood := { row := storeRealRow, standIns := [], harness := (true, "0b6b9978bd9c393754ac67e76f213079be6efa5074d8d254cd77a60eb781fd62"), looks := false }, kinds := [], alts := [], goes := true, laidByText := true, laidKinds := [.funcsDeep], laidTests := true, laidLooks := .later }
def StoreRealCardSaid : Prop := Claim7.holds Tryz.pinned (.plain (OpenSpec.ofChange storeRealSpec)) storeRealCard

/-- THE SECOND FORM's CARD OF 'baudotlaw06.StoreAgain'. -/
def storeAgainUptoCard : Claim7 := { stood := { row := storeAgainUptoRow, standIns := [], harness := (true, "0b6b9978bd9c393754ac67e76f213079be6efa5074d8d254cd77a60eb781fd62"), looks := false }, kinds := [], alts := [], goes := true, laidByText := true, laidKinds := [.funcsDeep], laidTests := true, laidLooks := .later }
def StoreAgainUptoCardSaid : Prop := Claim7.holds Tryz.pinned (.plain (OpenSpec.upto storeAgainSpec)) storeAgainUptoCard

/-- THE SECOND FORM's CARD OF 'baudotlaw06.StoreClashes'. -/
def storeClashesUptoCard : Claim7 := { stood := { row := storeClashesUptoRow, standIns := [], harness := (true, "0b6b9978bd9c393754ac67e76f213079be6efa5074d8d254cd77a60eb781fd62"), looks := false }, kinds := [], alts := [], goes := true, laidByText := true, laidKinds := [.funcsDeep], laidTests := true, laidLooks := .later }
def StoreClashesUptoCardSaid : Prop := Claim7.holds Tryz.pinned (.plain (OpenSpec.upto storeClashesSpec)) storeClashesUptoCard

/-- THE SECOND FORM's CARD OF 'baudotlaw06.StoreAsked'. -/
def storeAskedUptoCard : Claim7 := { stood := { row := storeAskedUptoRow, standIns := [], harness := (true, "0b6b9978bd9c393754ac67e76f213079be6efa5074d8d254cd77a60eb781fd62"), looks := false }, kinds := [], alts := [], goes := true, laidByText := true, laidKinds := [.funcsDeep], laidTests := true, laidLooks := .later }
def StoreAskedUptoCardSaid : Prop := Claim7.holds Tryz.pinned (.plain (OpenSpec.upto storeAskedSpec)) storeAskedUptoCard

/-- THE SECOND FORM's CARD OF 'baudotlaw06.StorePunched'. -/
def storePunchedUptoCard : Claim7 := { stood := { row := storePunchedUptoRow, standIns := [], harness := (true, "0b6b9978bd9c393754ac67e76f213079be6efa5074d8d254cd77a60eb781fd62"), looks := false }, kinds := [], alts := [], goes := true, laidByText := true, laidKinds := [.funcsDeep], laidTests := true, laidLooks := .later }
def StorePunchedUptoCardSaid : Prop := Claim7.holds Tryz.pinned (.plain (OpenSpec.upto storePunchedSpec)) storePunchedUptoCard

/-- THE SECOND FORM's CARD OF 'baudotlaw06.StoreAnyOrder'. -/
def storeAnyOrderUptoCard : Claim7 := { stood := { row := storeAnyOrderUptoRow, standIns := [], harness := (true, "0b6b9978bd9c393754ac67e76f213079be6efa5074d8d254cd77a60eb781fd62"), looks := false }, kinds := [], alts := [], goes := true, laidByText := true, laidKinds := [.funcsDeep], laidTests := true, laidLooks := .later }
def StoreAnyOrderUptoCardSaid : Prop := Claim7.holds Tryz.pinned (.plain (OpenSpec.upto storeAnyOrderSpec)) storeAnyOrderUptoCard

/-- THE SECOND FORM's CARD OF 'baudotlaw06.StorePacked'. -/
def storePackedUptoCard : Claim7 := { stood := { row := storePackedUptoRow, standIns := [], harness := (true, "0b6b9978bd9c393754ac67e76f213079be6efa5074d8d254cd77a60eb781fd62"), looks := false }, kinds := [], alts := [], goes := true, laidByText := true, laidKinds := [.funcsDeep], laidTests := true, laidLooks := .later }
def StorePackedUptoCardSaid : Prop := Claim7.holds Tryz.pinned (.plain (OpenSpec.upto storePackedSpec)) storePackedUptoCard

/-- THE SECOND FORM's CARD OF 'baudotlaw06.StoreEarlier'. -/
def storeEarlierUptoCard : Claim7 := { stood := { row := storeEarlierUptoRow, standIns := [], harness := (true, "0b6b9978bd9c393754ac67e76f213079be6efa5074d8d254cd77a60eb781fd62"), looks := false }, kinds := [], alts := [], goes := true, laidByText := true, laidKinds := [.funcsDeep], laidTests := true, laidLooks := .later }
def StoreEarlierUptoCardSaid : Prop := Claim7.holds Tryz.pinned (.plain (OpenSpec.upto storeEarlierSpec)) storeEarlierUptoCard

/-- THE SECOND FORM's CARD OF 'baudotlaw06.StoreClaims'. -/
def storeClaimsUptoCard : Claim7 := { stood := { row := storeClaimsUptoRow, standIns := [], harness := (true, "0b6b9978bd9c393754ac67e76f213079be6efa5074d8d254cd77a60eb781fd62"), looks := false }, kinds := [], alts := [], goes := true, laidByText := true, laidKinds := [.funcsDeep], laidTests := true, laidLooks := .later }
def StoreClaimsUptoCardSaid : Prop := Claim7.holds Tryz.pinned (.plain (OpenSpec.upto storeClaimsSpec)) storeClaimsUptoCard

/-- THE SECOND FORM's CARD OF 'baudotlaw06.StoreReached'. -/
def storeReachedUptoCard : Claim7 := { stood := { row := storeReachedUptoRow, standIns := [], harness := (true, "0b6b9978bd9c393754ac67e76f213079be6efa5074d8d254cd77a60eb781fd62"), looks := false }, kinds := [], alts := [], goes := true, laidByText := true, laidKinds := [.funcsDeep], laidTests := true, laidLooks := .later }
def StoreReachedUptoCardSaid : Prop := Claim7.holds Tryz.pinned (.plain (OpenSpec.upto storeReachedSpec)) storeReachedUptoCard

/-- THE SECOND FORM's CARD OF 'baudotlaw06.StoreReal'. -/
def storeRealUptoCard : Claim7 := { stood := { row := storeRealUptoRow, standIns := [], harness := (true, "0b6b9978bd9c393754ac67e76f213079be6efa5074d8d254cd77a60eb781fd62"), looks := false }, kinds := [], alts := [], goes := true, laidByText := true, laidKinds := [.funcsDeep], laidTests := true, laidLooks := .later }
def StoreRealUptoCardSaid : Prop := Claim7.holds Tryz.pinned (.plain (OpenSpec.upto storeRealSpec)) storeRealUptoCard
end Rows
end Go.Proofs.YtgemjjdkjmpmlaaGreatDoor
