/-
  NARROWER THAN 'FOR EVERY INPUT', by the rows' own cells (each row's printed sentence says how): FaultHistories: calm, laid.
  DERIVED. THE GIVEN ROWS OF THIS SEAT. 1 by the template 'for every input the law returns true; each argument reads behind the call as it read before'; 0 by the template 'total and deterministic' (their statements: YtamolbnfliehjaaGreatDoorTotals.lean).
  GIVEN WITH THE SEED: the statements are not yours to turn. If you find one false, say at which input.
  Laid BY PROGRAM, IN A SANDBOX (cutbox-rows.mjs): the forced cells as the released guide's own fill.sh prints them over the translation bd442613d03c7a35… (all of the seat's roots in one cut). By AI agents, Wed Nov 11 2026. No macro, syntax, notation, axiom, sorry.
-/
import Derived.Test.YtamolbnfliehjaaGreatDoorChecked
import GoSem.Claim
import GoSem.ClaimJoined
import GoSem.ClaimMapViews
import Derived.JoinedTies
import Derived.KernelRfl
namespace Go.Proofs.YtamolbnfliehjaaGreatDoor
/- THE CELL 'sum', in the pinned program and in every row, IS THE sha256 OF THE DUMP (.gsa) THAT YtamolbnfliehjaaGreatDoorProg.lean LOADS. Nothing in Lean hashes anything: it is a label: what it is worth is what the hold of that sum in a sandbox is worth. -/
noncomputable def Tryz.pinned : Pinned := { name := "ytamolbnfliehjaagreatdoor", sum := "bd442613d03c7a351991d47ea51d34e8916014692fee7942ac3c1036eba2367a", checked := Tryz.checked }
namespace Rows
def none {H : Type} : Left H := { results := [], args := [] }

/- WHAT THE LISTED PACKAGE-LEVEL VARIABLES READ AS WHEN THE CALL BEGINS. Each datum BY PROGRAM (the guide's laid-datum.mjs) off the statement by which the dump's own 'gosem.cut.vars' lays the variable. In a bare row this is a premise. The card (YtamolbnfliehjaaGreatDoorCards.lean) ties it to the program's text. -/
def laid_baudot_fault_acts {H : Type} : DataW H := .iface "func table" (.agg [.agg [.iface "func" (.lit (.string [98, 97, 117, 100, 111, 116, 47, 102, 97, 117, 108, 116, 46, 97, 99, 116, 115, 36, 49]))], .agg [.iface "func" (.lit (.string [98, 97, 117, 100, 111, 116, 47, 102, 97, 117, 108, 116, 46, 97, 99, 116, 115, 36, 50]))], .agg [.iface "func" (.lit (.string [98, 97, 117, 100, 111, 116, 47, 102, 97, 117, 108, 116, 46, 97, 99, 116, 115, 36, 51]))]])

/-- 'baudotlaw08.FaultHistories': WHATEVER THE INPUT: true; the input reads as it did. -/
def faultHistoriesSpec : ChangeSpec := { name := "faultHistories", fn := fun _ => fun
  | [d1, d2, d3, d4] => { results := [.lit (.bool true)], args := [d1, d2, d3, d4] }
  | _ => none }
def faultHistoriesRow : OpenClaim := { program := "ytamolbnfliehjaagreatdoor", sum := "bd442613d03c7a351991d47ea51d34e8916014692fee7942ac3c1036eba2367a", func := "baudot/baudotlaw08.FaultHistories", spec := "faultHistories", inPlace := ["(*sync.WaitGroup).Add", "internal/race.ReleaseMerge", "internal/race.Disable", "internal/race.Enable", "internal/synctest.IsInBubble", "internal/synctest.Associate[sync.WaitGroup]", "sync.fatal", "sync/atomic.OrUint64", "sync/atomic.AddUint64", "internal/race.Read", "sync/atomic.LoadUint64", "sync/atomic.StoreUint64", "internal/synctest.Disassociate[sync.WaitGroup]", "sync.runtime_Semrelease", "(*sync.WaitGroup).Done", "(*internal/sync.Mutex).Lock", "sync/atomic.CompareAndSwapInt32", "internal/race.Acquire", "(*internal/sync.Mutex).lockSlow", "internal/sync.runtime_canSpin", "internal/sync.runtime_doSpin", "internal/sync.throw", "internal/sync.runtime_nanotime", "internal/sync.runtime_SemacquireMutex", "sync/atomic.AddInt32", "(*internal/sync.Mutex).Unlock", "(*internal/sync.Mutex).unlockSlow", "internal/sync.fatal", "internal/sync.runtime_Semrelease", "(*sync.WaitGroup).Wait", "internal/synctest.IsAssociated[sync.WaitGroup]", "sync/atomic.CompareAndSwapUint64", "internal/race.Write", "sync.runtime_SemacquireWaitGroup"], unfollowed := true, recurses := true, named := ["baudot/fault.acts"], plainKeys := false, leaving := true, apart := false, calm := true, outside := [.timePasses], laid := [("baudot/fault.acts", laid_baudot_fault_acts)] }
def FaultHistoriesSaid : Prop := faultHistoriesRow.holds Tryz.pinned (OpenSpec.ofChange faultHistoriesSpec)

/-- ITS FALSE NEIGHBOUR: 'it returns false'. Refute it at one input. -/
def faultHistoriesWrong : ChangeSpec := { name := "faultHistories", fn := fun _ => fun
  | [d1, d2, d3, d4] => { results := [.lit (.bool false)], args := [d1, d2, d3, d4] }
  | _ => none }
def FaultHistoriesWrongFalsely : Prop := faultHistoriesRow.holds Tryz.pinned (OpenSpec.ofChange faultHistoriesWrong)

end Rows
end Go.Proofs.YtamolbnfliehjaaGreatDoor
