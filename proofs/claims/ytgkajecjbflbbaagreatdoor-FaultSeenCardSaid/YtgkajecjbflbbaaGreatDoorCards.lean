/-
  DERIVED. GIVEN WITH THE SEED: THE CARDS: each row of YtgkajecjbflbbaaGreatDoorRows.lean that lists a variable, with what it lists TIED to the program's text (the seventh form; the later family's looks); each row that meets fmt, with fmt's text TOLD by the authors' own Lean function (tested against real Go, not proved from fmt's source: count such statements apart). THE CARD IS WHAT COUNTS. Prove the row's statement (the work); the ties are given (YtgkajecjbflbbaaGreatDoorTie.lean); close each card by the builder's one call (the guide's Derived/Test/ToyasCard.lean, 'card_holds'). Laid BY PROGRAM, IN A SANDBOX (cutbox-door.mjs). By AI agents, Wed Nov 11 2026. No macro, syntax, notation, axiom, sorry.
-/
import Derived.Test.YtgkajecjbflbbaaGreatDoorRows
import GoSem.ClaimSeven
namespace Go.Proofs.YtgkajecjbflbbaaGreatDoor
namespace Rows

/-- THE TIED CARD OF 'baudotlaw08.FaultCalls'. -/
def faultCallsCard : Claim7 := { stood := { row := faultCallsRow, standIns := [], harness := (true, "0a7d70fdbfcbbb1d425ec39d4c059be565bd5ef97e35811f2c4ce0947ae35331"), looks := false }, kinds := [], alts := [], goes := true, laidByText := true, laidKinds := [.funcs], laidTests := true, laidLooks := .later }
def FaultCallsCardSaid : Prop := Claim7.holds Tryz.pinned (.plain (OpenSpec.ofChange faultCallsSpec)) faultCallsCard

/-- THE TIED CARD OF 'baudotlaw08.FaultTests'. -/
def faultTestsCard : Claim7 := { stood := { row := faultTestsRow, standIns := [], harness := (true, "0a7d70fdbfcbbb1d425ec39d4c059be565bd5ef97e35811f2c4ce0947ae35331"), looks := false }, kinds := [], alts := [], goes := true, laidByText := true, laidKinds := [.funcs], laidTests := true, laidLooks := .later }
def FaultTestsCardSaid : Prop := Claim7.holds Tryz.pinned (.plain (OpenSpec.ofChange faultTestsSpec)) faultTestsCard

/-- THE TIED CARD OF 'baudotlaw08.FaultReached'. -/
def faultReachedCard : Claim7 := { stood := { row := faultReachedRow, standIns := [], harness := (true, "0a7d70fdbfcbbb1d425ec39d4c059be565bd5ef97e35811f2c4ce0947ae35331"), looks := false }, kinds := [], alts := [], goes := true, laidByText := true, laidKinds := [.funcs], laidTests := true, laidLooks := .later }
def FaultReachedCardSaid : Prop := Claim7.holds Tryz.pinned (.plain (OpenSpec.ofChange faultReachedSpec)) faultReachedCard

/-- THE TIED CARD OF 'baudotlaw08.FaultAsks'. -/
def faultAsksCard : Claim7 := { stood := { row := faultAsksRow, standIns := [], harness := (true, "0a7d70fdbfcbbb1d425ec39d4c059be565bd5ef97e35811f2c4ce0947ae35331"), looks := false }, kinds := [], alts := [], goes := true, laidByText := true, laidKinds := [.funcs], laidTests := true, laidLooks := .later }
def FaultAsksCardSaid : Prop := Claim7.holds Tryz.pinned (.plain (OpenSpec.ofChange faultAsksSpec)) faultAsksCard

/-- THE TIED CARD OF 'baudotlaw08.FaultRepaired'. -/
def faultRepairedCard : Claim7 := { stood := { row := faultRepairedRow, standIns := [], harness := (true, "0a7d70fdbfcbbb1d425ec39d4c059be565bd5ef97e35811f2c4ce0947ae35331"), looks := false }, kinds := [], alts := [], goes := true, laidByText := true, laidKinds := [.funcs], laidTests := true, laidLooks := .later }
def FaultRepairedCardSaid : Prop := Claim7.holds Tryz.pinned (.plain (OpenSpec.ofChange faultRepairedSpec)) faultRepairedCard

/-- THE TIED CARD OF 'baudotlaw08.FaultTwins'. -/
def faultTwinsCard : Claim7 := { stood := { row := faultTwinsRow, standIns := [], harness := (true, "0a7d70fdbfcbbb1d425ec39d4c059be565bd5ef97e35811f2c4ce0947ae35331"), looks := false }, kinds := [], alts := [], goes := true, laidByText := true, laidKinds := [.funcs], laidTests := true, laidLooks := .later }
def FaultTwinsCardSaid : Prop := Claim7.holds Tryz.pinned (.plain (OpenSpec.ofChange faultTwinsSpec)) faultTwinsCard

/-- THE TIED CARD OF 'baudotlaw08.FaultAnyOrder'. -/
def faultAnyOrderCard : Claim7 := { stood := { row := faultAnyOrderRow, standIns := [], harness := (true, "0a7d70fdbfcbbb1d425ec39d4c059be565bd5ef97e35811f2c4ce0947ae35331"), looks := false }, kinds := [], alts := [], goes := true, laidByText := true, laidKinds := [.funcs], laidTests := true, laidLooks := .later }
def FaultAnyOrderCardSaid : Prop := Claim7.holds Tryz.pinned (.plain (OpenSpec.ofChange faultAnyOrderSpec)) faultAnyOrderCard

/-- THE TIED CARD OF 'baudotlaw08.FaultTried'. -/
def faultTriedCard : Claim7 := { stood := { row := faultTriedRow, standIns := [], harness := (true, "0a7d70fdbfcbbb1d425ec39d4c059be565bd5ef97e35811f2c4ce0947ae35331"), looks := false }, kinds := [], alts := [], goes := true, laidByText := true, laidKinds := [.funcs], laidTests := true, laidLooks := .later }
def FaultTriedCardSaid : Prop := Claim7.holds Tryz.pinned (.plain (OpenSpec.ofChange faultTriedSpec)) faultTriedCard

/-- THE TIED CARD OF 'baudotlaw08.FaultGood'. -/
def faultGoodCard : Claim7 := { stood := { row := faultGoodRow, standIns := [], harness := (true, "0a7d70fdbfcbbb1d425ec39d4c059be565bd5ef97e35811f2c4ce0947ae35331"), looks := false }, kinds := [], alts := [], goes := true, laidByText := true, laidKinds := [.funcs], laidTests := true, laidLooks := .later }
def FaultGoodCardSaid : Prop := Claim7.holds Tryz.pinned (.plain (OpenSpec.ofChange faultGoodSpec)) faultGoodCard

/-- THE TIED CARD OF 'baudotlaw08.FaultReal'. -/
def faultRealCard : Claim7 := { stood := { row := faultRealRow, standIns := [], harness := (true, "0a7d70fdbfcbbb1d425ec39d4c059be565bd5ef97e35811f2c4ce0947ae35331"), looks := false }, kinds := [], alts := [], goes := true, laidByText := true, laidKinds := [.funcs], laidTests := true, laidLooks := .later }
def FaultRealCardSaid : Prop := Claim7.holds Tryz.pinned (.plain (OpenSpec.ofChange faultRealSpec)) faultRealCard

/-- THE TIED CARD OF 'baudotlaw08.FaultClashes'. -/
def faultClashesCard : Claim7 := { stood := { row := faultClashesRow, standIns := [], harness := (true, "0a7d70fdbfcbbb1d425ec39d4c059be565bd5ef97e35811f2c4ce0947ae35331"), looks := false }, kinds := [], alts := [], goes := true, laidByText := true, laidKinds := [.funcs], laidTests := true, laidLooks := .later }
def FaultClashesCardSaid : Prop := Claim7.holds Tryz.pinned (.plain (OpenSpec.ofChange faultClashesSpec)) faultClashesCard

/-- THE TIED CARD OF 'baudotlaw08.FaultSeen'. -/
def faultSeenCard : Claim7 := { stood := { row := faultSeenRow, standIns := [], harness := (true, "0a7d70fdbfcbbb1d425ec39d4c059be565bd5ef97e35811f2c4ce0947ae35331"), looks := false }, kinds := [], alts := [], goes := true, laidByText := true, laidKinds := [.funcs], laidTests := true, laidLooks := .later }
def FaultSeenCardSaid : Prop := Claim7.holds Tryz.pinned (.plain (OpenSpec.ofChange faultSeenSpec)) faultSeenCard
end Rows
end Go.Proofs.YtgkajecjbflbbaaGreatDoor
