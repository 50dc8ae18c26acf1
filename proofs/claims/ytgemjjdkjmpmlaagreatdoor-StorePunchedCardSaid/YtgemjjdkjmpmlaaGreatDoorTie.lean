/-
  DERIVED. GIVEN WITH THE SEED: THE PROGRAM's TIES (one call each: nine closed facts by the kernel) AND EACH ROW's TIE, after the 31st guide's Derived/Test/Toyas{Tie, Card}.lean. No idea stands in it: it is a product of the set-up. Laid BY PROGRAM, IN A SANDBOX (cutbox-door.mjs). By AI agents, Wed Nov 11 2026. No macro, syntax, notation, axiom, sorry.
-/
import Derived.Test.YtgemjjdkjmpmlaaGreatDoorRows
import Derived.LaidByTextLater
import Derived.SevenTiedAt
import Derived.LaidSub
import Derived.LaidOnce
namespace Go.Proofs.YtgemjjdkjmpmlaaGreatDoor
open Go
set_option maxRecDepth 100000
theorem seatTie1 : Tryz.prog.laidByTextLater [("baudot/store.kinds", Rows.laid_baudot_store_kinds)] [.funcsDeep] true :=
  Program.laidByTextLater_by_one 20 8 2 (by kernel_rfl) (by kernel_rfl) (by kernel_rfl) (by kernel_rfl) (by kernel_rfl) (by kernel_rfl) (fun _ _ => by kernel_rfl)
theorem noOwnUnsafe : Tryz.pinned.checked.prog.headLifts.contains "ownunsafe" = false := by kernel_rfl
theorem tie : Tryz.prog.laidByTextLater [("baudot/store.kinds", Rows.laid_baudot_store_kinds)] [.funcsDeep] true :=
  Program.laidByTextLater.sub seatTie1 ["baudot/store.kinds"] (by kernel_rfl) (by kernel_rfl)
theorem storeAgain_row_tie : Rows.storeAgainRow.laidByTextAt .later Tryz.pinned [.funcsDeep] true :=
  OpenClaim.laidByTextAt_later rfl rfl tie noOwnUnsafe
theorem storeClashes_row_tie : Rows.storeClashesRow.laidByTextAt .later Tryz.pinned [.funcsDeep] true :=
  OpenClaim.laidByTextAt_later rfl rfl tie noOwnUnsafe
theorem storeAsked_row_tie : Rows.storeAskedRow.laidByTextAt .later Tryz.pinned [.funcsDeep] true :=
  OpenClaim.laidByTextAt_later rfl rfl tie noOwnUnsafe
theorem storePunched_row_tie : Rows.storePunchedRow.laidByTextAt .later Tryz.pinned [.funcsDeep] true :=
  OpenClaim.laidByTextAt_later rfl rfl tie noOwnUnsafe
theorem storeAnyOrder_row_tie : Rows.storeAnyOrderRow.laidByTextAt .later Tryz.pinned [.funcsDeep] true :=
  OpenClaim.laidByTextAt_later rfl rfl tie noOwnUnsafe
theorem storePacked_row_tie : Rows.storePackedRow.laidByTextAt .later Tryz.pinned [.funcsDeep] true :=
  OpenClaim.laidByTextAt_later rfl rfl tie noOwnUnsafe
theorem storeEarlier_row_tie : Rows.storeEarlierRow.laidByTextAt .later Tryz.pinned [.funcsDeep] true :=
  OpenClaim.laidByTextAt_later rfl rfl tie noOwnUnsafe
theorem storeClaims_row_tie : Rows.storeClaimsRow.laidByTextAt .later Tryz.pinned [.funcsDeep] true :=
  OpenClaim.laidByTextAt_later rfl rfl tie noOwnUnsafe
theorem storeReached_row_tie : Rows.storeReachedRow.laidByTextAt .later Tryz.pinned [.funcsDeep] true :=
  OpenClaim.laidByTextAt_later rfl rfl tie noOwnUnsafe
theorem storeReal_row_tie : Rows.storeRealRow.laidByTextAt .later Tryz.pinned [.funcsDeep] true :=
  OpenClaim.laidByTextAt_later rfl rfl tie noOwnUnsafe
theorem storeAgainUpto_row_tie : Rows.storeAgainUptoRow.laidByTextAt .later Tryz.pinned [.funcsDeep] true :=
  OpenClaim.laidByTextAt_later rfl rfl tie noOwnUnsafe
theorem storeClashesUpto_row_tie : Rows.storeClashesUptoRow.laidByTextAt .later Tryz.pinned [.funcsDeep] true :=
  OpenClaim.laidByTextAt_later rfl rfl tie noOwnUnsafe
theorem storeAskedUpto_row_tie : Rows.storeAskedUptoRow.laidByTextAt .later Tryz.pinned [.funcsDeep] true :=
  OpenClaim.laidByTextAt_later rfl rfl tie noOwnUnsafe
theorem storePunchedUpto_row_tie : Rows.storePunchedUptoRow.laidByTextAt .later Tryz.pinned [.funcsDeep] true :=
  OpenClaim.laidByTextAt_later rfl rfl tie noOwnUnsafe
theorem storeAnyOrderUpto_row_tie : Rows.storeAnyOrderUptoRow.laidByTextAt .later Tryz.pinned [.funcsDeep] true :=
  OpenClaim.laidByTextAt_later rfl rfl tie noOwnUnsafe
theorem storePackedUpto_row_tie : Rows.storePackedUptoRow.laidByTextAt .later Tryz.pinned [.funcsDeep] true :=
  OpenClaim.laidByTextAt_later rfl rfl tie noOwnUnsafe
theorem storeEarlierUpto_row_tie : Rows.storeEarlierUptoRow.laidByTextAt .later Tryz.pinned [.funcsDeep] true :=
  OpenClaim.laidByTextAt_later rfl rfl tie noOwnUnsafe
theorem storeClaimsUpto_row_tie : Rows.storeClaimsUptoRow.laidByTextAt .later Tryz.pinned [.funcsDeep] true :=
  OpenClaim.laidByTextAt_later rfl rfl tie noOwnUnsafe
theorem storeReachedUpto_row_tie : Rows.storeReachedUptoRow.laidByTextAt .later Tryz.pinned [.funcsDeep] true :=
  OpenClaim.laidByTextAt_later rfl rfl tie noOwnUnsafe
theorem storeRealUpto_row_tie : Rows.storeRealUptoRow.laidByTextAt .later Tryz.pinned [.funcsDeep] true :=
  OpenClaim.laidByTextAt_later rfl rfl tie noOwnUnsafe
end Go.Proofs.YtgemjjdkjmpmlaaGreatDoor
