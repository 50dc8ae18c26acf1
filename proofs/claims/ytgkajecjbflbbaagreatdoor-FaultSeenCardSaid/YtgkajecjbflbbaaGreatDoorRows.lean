/-
  NARROWER THAN 'FOR EVERY INPUT', by the rows' own cells (each row's printed sentence says how): FaultCalls: calm, laid · FaultTests: calm, laid · FaultReached: calm, laid · FaultAsks: calm, laid · FaultRepaired: calm, laid · FaultTwins: calm, laid · FaultAnyOrder: calm, laid · FaultTried: calm, laid · FaultGood: calm, laid · FaultReal: calm, laid · FaultClashes: calm, laid · FaultSeen: calm, laid.
  DERIVED. THE GIVEN ROWS OF THIS SEAT. 12 by the template 'for every input the law returns true; each argument reads behind the call as it read before'; 0 by the template 'total and deterministic' (their statements: YtgkajecjbflbbaaGreatDoorTotals.lean).
  GIVEN WITH THE SEED: the statements are not yours to turn. If you find one false, say at which input.
  Laid BY PROGRAM, IN A SANDBOX (cutbox-rows.mjs): the forced cells as the released guide's own fill.sh prints them over the translation 9e5cb1c091513c2b… (all of the seat's roots in one cut). By AI agents, Wed Nov 11 2026. No macro, syntax, notation, axiom, sorry.
-/
import Derived.Test.YtgkajecjbflbbaaGreatDoorChecked
import GoSem.Claim
import GoSem.ClaimJoined
import GoSem.ClaimMapViews
import Derived.JoinedTies
import Derived.KernelRfl
namespace Go.Proofs.YtgkajecjbflbbaaGreatDoor
/- THE CELL 'sum', in the pinned program and in every row, IS THE sha256 OF THE DUMP (.gsa) THAT YtgkajecjbflbbaaGreatDoorProg.lean LOADS. Nothing in Lean hashes anything: it is a label: what it is worth is what the hold of that sum in a sandbox is worth. -/
noncomputable def Tryz.pinned : Pinned := { name := "ytgkajecjbflbbaagreatdoor", sum := "9e5cb1c091513c2b69056989955026570be661bc904d24fa78ede1a9621ab40b", checked := Tryz.checked }
namespace Rows
def none {H : Type} : Left H := { results := [], args := [] }

/- WHAT THE LISTED PACKAGE-LEVEL VARIABLES READ AS WHEN THE CALL BEGINS. Each datum BY PROGRAM (the guide's laid-datum.mjs) off the statement by which the dump's own 'gosem.cut.vars' lays the variable. In a bare row this is a premise. The card (YtgkajecjbflbbaaGreatDoorCards.lean) ties it to the program's text. -/
def laid_baudot_fault_acts {H : Type} : DataW H := .iface "func table" (.agg [.agg [.iface "func" (.lit (.string [98, 97, 117, 100, 111, 116, 47, 102, 97, 117, 108, 116, 46, 97, 99, 116, 115, 36, 49]))], .agg [.iface "func" (.lit (.string [98, 97, 117, 100, 111, 116, 47, 102, 97, 117, 108, 116, 46, 97, 99, 116, 115, 36, 50]))], .agg [.iface "func" (.lit (.string [98, 97, 117, 100, 111, 116, 47, 102, 97, 117, 108, 116, 46, 97, 99, 116, 115, 36, 51]))]])

/-- 'baudotlaw08.FaultCalls': WHATEVER THE INPUT: true; the input reads as it did. -/
def faultCallsSpec : ChangeSpec := { name := "faultCalls", fn := fun _ => fun
  | [d1, d2, d3] => { results := [.lit (.bool true)], args := [d1, d2, d3] }
  | _ => none }
def faultCallsRow : OpenClaim := { program := "ytgkajecjbflbbaagreatdoor", sum := "9e5cb1c091513c2b69056989955026570be661bc904d24fa78ede1a9621ab40b", func := "baudot/baudotlaw08.FaultCalls", spec := "faultCalls", inPlace := ["(*sync.WaitGroup).Add", "internal/race.ReleaseMerge", "internal/race.Disable", "internal/race.Enable", "internal/synctest.IsInBubble", "internal/synctest.Associate[sync.WaitGroup]", "sync.fatal", "sync/atomic.OrUint64", "sync/atomic.AddUint64", "internal/race.Read", "sync/atomic.LoadUint64", "sync/atomic.StoreUint64", "internal/synctest.Disassociate[sync.WaitGroup]", "sync.runtime_Semrelease", "(*sync.WaitGroup).Done", "(*internal/sync.Mutex).Lock", "sync/atomic.CompareAndSwapInt32", "internal/race.Acquire", "(*internal/sync.Mutex).lockSlow", "internal/sync.runtime_canSpin", "internal/sync.runtime_doSpin", "internal/sync.throw", "internal/sync.runtime_nanotime", "internal/sync.runtime_SemacquireMutex", "sync/atomic.AddInt32", "(*internal/sync.Mutex).Unlock", "(*internal/sync.Mutex).unlockSlow", "internal/sync.fatal", "internal/sync.runtime_Semrelease", "(*sync.WaitGroup).Wait", "internal/synctest.IsAssociated[sync.WaitGroup]", "sync/atomic.CompareAndSwapUint64", "internal/race.Write", "sync.runtime_SemacquireWaitGroup"], unfollowed := true, recurses := true, named := ["baudot/fault.acts"], plainKeys := false, leaving := true, apart := false, calm := true, outside := [.timePasses], laid := [("baudot/fault.acts", laid_baudot_fault_acts)] }
def FaultCallsSaid : Prop := faultCallsRow.holds Tryz.pinned (OpenSpec.ofChange faultCallsSpec)

/-- ITS FALSE NEIGHBOUR: 'it returns false'. Refute it at one input. -/
def faultCallsWrong : ChangeSpec := { name := "faultCalls", fn := fun _ => fun
  | [d1, d2, d3] => { results := [.lit (.bool false)], args := [d1, d2, d3] }
  | _ => none }
def FaultCallsWrongFalsely : Prop := faultCallsRow.holds Tryz.pinned (OpenSpec.ofChange faultCallsWrong)

/-- 'baudotlaw08.FaultTests': WHATEVER THE INPUT: true; the input reads as it did. -/
def faultTestsSpec : ChangeSpec := { name := "faultTests", fn := fun _ => fun
  | [d] => { results := [.lit (.bool true)], args := [d] }
  | _ => none }
def faultTestsRow : OpenClaim := { program := "ytgkajecjbflbbaagreatdoor", sum := "9e5cb1c091513c2b69056989955026570be661bc904d24fa78ede1a9621ab40b", func := "baudot/baudotlaw08.FaultTests", spec := "faultTests", inPlace := ["(*sync.WaitGroup).Add", "internal/race.ReleaseMerge", "internal/race.Disable", "internal/race.Enable", "internal/synctest.IsInBubble", "internal/synctest.Associate[sync.WaitGroup]", "sync.fatal", "sync/atomic.OrUint64", "sync/atomic.AddUint64", "internal/race.Read", "sync/atomic.LoadUint64", "sync/atomic.StoreUint64", "internal/synctest.Disassociate[sync.WaitGroup]", "sync.runtime_Semrelease", "(*sync.WaitGroup).Done", "(*internal/sync.Mutex).Lock", "sync/atomic.CompareAndSwapInt32", "internal/race.Acquire", "(*internal/sync.Mutex).lockSlow", "internal/sync.runtime_canSpin", "internal/sync.runtime_doSpin", "internal/sync.throw", "internal/sync.runtime_nanotime", "internal/sync.runtime_SemacquireMutex", "sync/atomic.AddInt32", "(*internal/sync.Mutex).Unlock", "(*internal/sync.Mutex).unlockSlow", "internal/sync.fatal", "internal/sync.runtime_Semrelease", "(*sync.WaitGroup).Wait", "internal/synctest.IsAssociated[sync.WaitGroup]", "sync/atomic.CompareAndSwapUint64", "internal/race.Write", "sync.runtime_SemacquireWaitGroup"], unfollowed := true, recurses := true, named := ["baudot/fault.acts"], plainKeys := false, leaving := true, apart := false, calm := true, outside := [.timePasses], laid := [("baudot/fault.acts", laid_baudot_fault_acts)] }
def FaultTestsSaid : Prop := faultTestsRow.holds Tryz.pinned (OpenSpec.ofChange faultTestsSpec)

/-- ITS FALSE NEIGHBOUR: 'it returns false'. Refute it at one input. -/
def faultTestsWrong : ChangeSpec := { name := "faultTests", fn := fun _ => fun
  | [d] => { results := [.lit (.bool false)], args := [d] }
  | _ => none }
def FaultTestsWrongFalsely : Prop := faultTestsRow.holds Tryz.pinned (OpenSpec.ofChange faultTestsWrong)

/-- 'baudotlaw08.FaultReached': WHATEVER THE INPUT: true; the input reads as it did. -/
def faultReachedSpec : ChangeSpec := { name := "faultReached", fn := fun _ => fun
  | [d1, d2, d3] => { results := [.lit (.bool true)], args := [d1, d2, d3] }
  | _ => none }
def faultReachedRow : OpenClaim := { program := "ytgkajecjbflbbaagreatdoor", sum := "9e5cb1c091513c2b69056989955026570be661bc904d24fa78ede1a9621ab40b", func := "baudot/baudotlaw08.FaultReached", spec := "faultReached", inPlace := ["(*sync.WaitGroup).Add", "internal/race.ReleaseMerge", "internal/race.Disable", "internal/race.Enable", "internal/synctest.IsInBubble", "internal/synctest.Associate[sync.WaitGroup]", "sync.fatal", "sync/atomic.OrUint64", "sync/atomic.AddUint64", "internal/race.Read", "sync/atomic.LoadUint64", "sync/atomic.StoreUint64", "internal/synctest.Disassociate[sync.WaitGroup]", "sync.runtime_Semrelease", "(*sync.WaitGroup).Done", "(*internal/sync.Mutex).Lock", "sync/atomic.CompareAndSwapInt32", "internal/race.Acquire", "(*internal/sync.Mutex).lockSlow", "internal/sync.runtime_canSpin", "internal/sync.runtime_doSpin", "internal/sync.throw", "internal/sync.runtime_nanotime", "internal/sync.runtime_SemacquireMutex", "sync/atomic.AddInt32", "(*internal/sync.Mutex).Unlock", "(*internal/sync.Mutex).unlockSlow", "internal/sync.fatal", "internal/sync.runtime_Semrelease", "(*sync.WaitGroup).Wait", "internal/synctest.IsAssociated[sync.WaitGroup]", "sync/atomic.CompareAndSwapUint64", "internal/race.Write", "sync.runtime_SemacquireWaitGroup"], unfollowed := true, recurses := true, named := ["baudot/fault.acts"], plainKeys := false, leaving := true, apart := false, calm := true, outside := [.timePasses], laid := [("baudot/fault.acts", laid_baudot_fault_acts)] }
def FaultReachedSaid : Prop := faultReachedRow.holds Tryz.pinned (OpenSpec.ofChange faultReachedSpec)

/-- ITS FALSE NEIGHBOUR: 'it returns false'. Refute it at one input. -/
def faultReachedWrong : ChangeSpec := { name := "faultReached", fn := fun _ => fun
  | [d1, d2, d3] => { results := [.lit (.bool false)], args := [d1, d2, d3] }
  | _ => none }
def FaultReachedWrongFalsely : Prop := faultReachedRow.holds Tryz.pinned (OpenSpec.ofChange faultReachedWrong)

/-- 'baudotlaw08.FaultAsks': WHATEVER THE INPUT: true; the input reads as it did. -/
def faultAsksSpec : ChangeSpec := { name := "faultAsks", fn := fun _ => fun
  | [d1, d2] => { results := [.lit (.bool true)], args := [d1, d2] }
  | _ => none }
def faultAsksRow : OpenClaim := { program := "ytgkajecjbflbbaagreatdoor", sum := "9e5cb1c091513c2b69056989955026570be661bc904d24fa78ede1a9621ab40b", func := "baudot/baudotlaw08.FaultAsks", spec := "faultAsks", inPlace := ["(*sync.WaitGroup).Add", "internal/race.ReleaseMerge", "internal/race.Disable", "internal/race.Enable", "internal/synctest.IsInBubble", "internal/synctest.Associate[sync.WaitGroup]", "sync.fatal", "sync/atomic.OrUint64", "sync/atomic.AddUint64", "internal/race.Read", "sync/atomic.LoadUint64", "sync/atomic.StoreUint64", "internal/synctest.Disassociate[sync.WaitGroup]", "sync.runtime_Semrelease", "(*sync.WaitGroup).Done", "(*internal/sync.Mutex).Lock", "sync/atomic.CompareAndSwapInt32", "internal/race.Acquire", "(*internal/sync.Mutex).lockSlow", "internal/sync.runtime_canSpin", "internal/sync.runtime_doSpin", "internal/sync.throw", "internal/sync.runtime_nanotime", "internal/sync.runtime_SemacquireMutex", "sync/atomic.AddInt32", "(*internal/sync.Mutex).Unlock", "(*internal/sync.Mutex).unlockSlow", "internal/sync.fatal", "internal/sync.runtime_Semrelease", "(*sync.WaitGroup).Wait", "internal/synctest.IsAssociated[sync.WaitGroup]", "sync/atomic.CompareAndSwapUint64", "internal/race.Write", "sync.runtime_SemacquireWaitGroup"], unfollowed := true, recurses := true, named := ["baudot/fault.acts"], plainKeys := false, leaving := true, apart := false, calm := true, outside := [.timePasses], laid := [("baudot/fault.acts", laid_baudot_fault_acts)] }
def FaultAsksSaid : Prop := faultAsksRow.holds Tryz.pinned (OpenSpec.ofChange faultAsksSpec)

/-- ITS FALSE NEIGHBOUR: 'it returns false'. Refute it at one input. -/
def faultAsksWrong : ChangeSpec := { name := "faultAsks", fn := fun _ => fun
  | [d1, d2] => { results := [.lit (.bool false)], args := [d1, d2] }
  | _ => none }
def FaultAsksWrongFalsely : Prop := faultAsksRow.holds Tryz.pinned (OpenSpec.ofChange faultAsksWrong)

/-- 'baudotlaw08.FaultRepaired': WHATEVER THE INPUT: true; the input reads as it did. -/
def faultRepairedSpec : ChangeSpec := { name := "faultRepaired", fn := fun _ => fun
  | [d1, d2] => { results := [.lit (.bool true)], args := [d1, d2] }
  | _ => none }
def faultRepairedRow : OpenClaim := { program := "ytgkajecjbflbbaagreatdoor", sum := "9e5cb1c091513c2b69056989955026570be661bc904d24fa78ede1a9621ab40b", func := "baudot/baudotlaw08.FaultRepaired", spec := "faultRepaired", inPlace := ["(*sync.WaitGroup).Add", "internal/race.ReleaseMerge", "internal/race.Disable", "internal/race.Enable", "internal/synctest.IsInBubble", "internal/synctest.Associate[sync.WaitGroup]", "sync.fatal", "sync/atomic.OrUint64", "sync/atomic.AddUint64", "internal/race.Read", "sync/atomic.LoadUint64", "sync/atomic.StoreUint64", "internal/synctest.Disassociate[sync.WaitGroup]", "sync.runtime_Semrelease", "(*sync.WaitGroup).Done", "(*internal/sync.Mutex).Lock", "sync/atomic.CompareAndSwapInt32", "internal/race.Acquire", "(*internal/sync.Mutex).lockSlow", "internal/sync.runtime_canSpin", "internal/sync.runtime_doSpin", "internal/sync.throw", "internal/sync.runtime_nanotime", "internal/sync.runtime_SemacquireMutex", "sync/atomic.AddInt32", "(*internal/sync.Mutex).Unlock", "(*internal/sync.Mutex).unlockSlow", "internal/sync.fatal", "internal/sync.runtime_Semrelease", "(*sync.WaitGroup).Wait", "internal/synctest.IsAssociated[sync.WaitGroup]", "sync/atomic.CompareAndSwapUint64", "internal/race.Write", "sync.runtime_SemacquireWaitGroup"], unfollowed := true, recurses := true, named := ["baudot/fault.acts"], plainKeys := false, leaving := true, apart := false, calm := true, outside := [.timePasses], laid := [("baudot/fault.acts", laid_baudot_fault_acts)] }
def FaultRepairedSaid : Prop := faultRepairedRow.holds Tryz.pinned (OpenSpec.ofChange faultRepairedSpec)

/-- ITS FALSE NEIGHBOUR: 'it returns false'. Refute it at one input. -/
def faultRepairedWrong : ChangeSpec := { name := "faultRepaired", fn := fun _ => fun
  | [d1, d2] => { results := [.lit (.bool false)], args := [d1, d2] }
  | _ => none }
def FaultRepairedWrongFalsely : Prop := faultRepairedRow.holds Tryz.pinned (OpenSpec.ofChange faultRepairedWrong)

/-- 'baudotlaw08.FaultTwins': WHATEVER THE INPUT: true; the input reads as it did. -/
def faultTwinsSpec : ChangeSpec := { name := "faultTwins", fn := fun _ => fun
  | [d1, d2, d3] => { results := [.lit (.bool true)], args := [d1, d2, d3] }
  | _ => none }
def faultTwinsRow : OpenClaim := { program := "ytgkajecjbflbbaagreatdoor", sum := "9e5cb1c091513c2b69056989955026570be661bc904d24fa78ede1a9621ab40b", func := "baudot/baudotlaw08.FaultTwins", spec := "faultTwins", inPlace := ["(*sync.WaitGroup).Add", "internal/race.ReleaseMerge", "internal/race.Disable", "internal/race.Enable", "internal/synctest.IsInBubble", "internal/synctest.Associate[sync.WaitGroup]", "sync.fatal", "sync/atomic.OrUint64", "sync/atomic.AddUint64", "internal/race.Read", "sync/atomic.LoadUint64", "sync/atomic.StoreUint64", "internal/synctest.Disassociate[sync.WaitGroup]", "sync.runtime_Semrelease", "(*sync.WaitGroup).Done", "(*internal/sync.Mutex).Lock", "sync/atomic.CompareAndSwapInt32", "internal/race.Acquire", "(*internal/sync.Mutex).lockSlow", "internal/sync.runtime_canSpin", "internal/sync.runtime_doSpin", "internal/sync.throw", "internal/sync.runtime_nanotime", "internal/sync.runtime_SemacquireMutex", "sync/atomic.AddInt32", "(*internal/sync.Mutex).Unlock", "(*internal/sync.Mutex).unlockSlow", "internal/sync.fatal", "internal/sync.runtime_Semrelease", "(*sync.WaitGroup).Wait", "internal/synctest.IsAssociated[sync.WaitGroup]", "sync/atomic.CompareAndSwapUint64", "internal/race.Write", "sync.runtime_SemacquireWaitGroup"], unfollowed := true, recurses := true, named := ["baudot/fault.acts"], plainKeys := false, leaving := true, apart := false, calm := true, outside := [.timePasses], laid := [("baudot/fault.acts", laid_baudot_fault_acts)] }
def FaultTwinsSaid : Prop := faultTwinsRow.holds Tryz.pinned (OpenSpec.ofChange faultTwinsSpec)

/-- ITS FALSE NEIGHBOUR: 'it returns false'. Refute it at one input. -/
def faultTwinsWrong : ChangeSpec := { name := "faultTwins", fn := fun _ => fun
  | [d1, d2, d3] => { results := [.lit (.bool false)], args := [d1, d2, d3] }
  | _ => none }
def FaultTwinsWrongFalsely : Prop := faultTwinsRow.holds Tryz.pinned (OpenSpec.ofChange faultTwinsWrong)

/-- 'baudotlaw08.FaultAnyOrder': WHATEVER THE INPUT: true; the input reads as it did. -/
def faultAnyOrderSpec : ChangeSpec := { name := "faultAnyOrder", fn := fun _ => fun
  | [d1, d2, d3] => { results := [.lit (.bool true)], args := [d1, d2, d3] }
  | _ => none }
def faultAnyOrderRow : OpenClaim := { program := "ytgkajecjbflbbaagreatdoor", sum := "9e5cb1c091513c2b69056989955026570be661bc904d24fa78ede1a9621ab40b", func := "baudot/baudotlaw08.FaultAnyOrder", spec := "faultAnyOrder", inPlace := ["(*sync.WaitGroup).Add", "internal/race.ReleaseMerge", "internal/race.Disable", "internal/race.Enable", "internal/synctest.IsInBubble", "internal/synctest.Associate[sync.WaitGroup]", "sync.fatal", "sync/atomic.OrUint64", "sync/atomic.AddUint64", "internal/race.Read", "sync/atomic.LoadUint64", "sync/atomic.StoreUint64", "internal/synctest.Disassociate[sync.WaitGroup]", "sync.runtime_Semrelease", "(*sync.WaitGroup).Done", "(*internal/sync.Mutex).Lock", "sync/atomic.CompareAndSwapInt32", "internal/race.Acquire", "(*internal/sync.Mutex).lockSlow", "internal/sync.runtime_canSpin", "internal/sync.runtime_doSpin", "internal/sync.throw", "internal/sync.runtime_nanotime", "internal/sync.runtime_SemacquireMutex", "sync/atomic.AddInt32", "(*internal/sync.Mutex).Unlock", "(*internal/sync.Mutex).unlockSlow", "internal/sync.fatal", "internal/sync.runtime_Semrelease", "(*sync.WaitGroup).Wait", "internal/synctest.IsAssociated[sync.WaitGroup]", "sync/atomic.CompareAndSwapUint64", "internal/race.Write", "sync.runtime_SemacquireWaitGroup"], unfollowed := true, recurses := true, named := ["baudot/fault.acts"], plainKeys := false, leaving := true, apart := false, calm := true, outside := [.timePasses], laid := [("baudot/fault.acts", laid_baudot_fault_acts)] }
def FaultAnyOrderSaid : Prop := faultAnyOrderRow.holds Tryz.pinned (OpenSpec.ofChange faultAnyOrderSpec)

/-- ITS FALSE NEIGHBOUR: 'it returns false'. Refute it at one input. -/
def faultAnyOrderWrong : ChangeSpec := { name := "faultAnyOrder", fn := fun _ => fun
  | [d1, d2, d3] => { results := [.lit (.bool false)], args := [d1, d2, d3] }
  | _ => none }
def FaultAnyOrderWrongFalsely : Prop := faultAnyOrderRow.holds Tryz.pinned (OpenSpec.ofChange faultAnyOrderWrong)

/-- 'baudotlaw08.FaultTried': WHATEVER THE INPUT: true; the input reads as it did. -/
def faultTriedSpec : ChangeSpec := { name := "faultTried", fn := fun _ => fun
  | [d1, d2] => { results := [.lit (.bool true)], args := [d1, d2] }
  | _ => none }
def faultTriedRow : OpenClaim := { program := "ytgkajecjbflbbaagreatdoor", sum := "9e5cb1c091513c2b69056989955026570be661bc904d24fa78ede1a9621ab40b", func := "baudot/baudotlaw08.FaultTried", spec := "faultTried", inPlace := ["(*sync.WaitGroup).Add", "internal/race.ReleaseMerge", "internal/race.Disable", "internal/race.Enable", "internal/synctest.IsInBubble", "internal/synctest.Associate[sync.WaitGroup]", "sync.fatal", "sync/atomic.OrUint64", "sync/atomic.AddUint64", "internal/race.Read", "sync/atomic.LoadUint64", "sync/atomic.StoreUint64", "internal/synctest.Disassociate[sync.WaitGroup]", "sync.runtime_Semrelease", "(*sync.WaitGroup).Done", "(*internal/sync.Mutex).Lock", "sync/atomic.CompareAndSwapInt32", "internal/race.Acquire", "(*internal/sync.Mutex).lockSlow", "internal/sync.runtime_canSpin", "internal/sync.runtime_doSpin", "internal/sync.throw", "internal/sync.runtime_nanotime", "internal/sync.runtime_SemacquireMutex", "sync/atomic.AddInt32", "(*internal/sync.Mutex).Unlock", "(*internal/sync.Mutex).unlockSlow", "internal/sync.fatal", "internal/sync.runtime_Semrelease", "(*sync.WaitGroup).Wait", "internal/synctest.IsAssociated[sync.WaitGroup]", "sync/atomic.CompareAndSwapUint64", "internal/race.Write", "sync.runtime_SemacquireWaitGroup"], unfollowed := true, recurses := true, named := ["baudot/fault.acts"], plainKeys := false, leaving := true, apart := false, calm := true, outside := [.timePasses], laid := [("baudot/fault.acts", laid_baudot_fault_acts)] }
def FaultTriedSaid : Prop := faultTriedRow.holds Tryz.pinned (OpenSpec.ofChange faultTriedSpec)

/-- ITS FALSE NEIGHBOUR: 'it returns false'. Refute it at one input. -/
def faultTriedWrong : ChangeSpec := { name := "faultTried", fn := fun _ => fun
  | [d1, d2] => { results := [.lit (.bool false)], args := [d1, d2] }
  | _ => none }
def FaultTriedWrongFalsely : Prop := faultTriedRow.holds Tryz.pinned (OpenSpec.ofChange faultTriedWrong)

/-- 'baudotlaw08.FaultGood': WHATEVER THE INPUT: true; the input reads as it did. -/
def faultGoodSpec : ChangeSpec := { name := "faultGood", fn := fun _ => fun
  | [d1, d2] => { results := [.lit (.bool true)], args := [d1, d2] }
  | _ => none }
def faultGoodRow : OpenClaim := { program := "ytgkajecjbflbbaagreatdoor", sum := "9e5cb1c091513c2b69056989955026570be661bc904d24fa78ede1a9621ab40b", func := "baudot/baudotlaw08.FaultGood", spec := "faultGood", inPlace := ["(*sync.WaitGroup).Add", "internal/race.ReleaseMerge", "internal/race.Disable", "internal/race.Enable", "internal/synctest.IsInBubble", "internal/synctest.Associate[sync.WaitGroup]", "sync.fatal", "sync/atomic.OrUint64", "sync/atomic.AddUint64", "internal/race.Read", "sync/atomic.LoadUint64", "sync/atomic.StoreUint64", "internal/synctest.Disassociate[sync.WaitGroup]", "sync.runtime_Semrelease", "(*sync.WaitGroup).Done", "(*internal/sync.Mutex).Lock", "sync/atomic.CompareAndSwapInt32", "internal/race.Acquire", "(*internal/sync.Mutex).lockSlow", "internal/sync.runtime_canSpin", "internal/sync.runtime_doSpin", "internal/sync.throw", "internal/sync.runtime_nanotime", "internal/sync.runtime_SemacquireMutex", "sync/atomic.AddInt32", "(*internal/sync.Mutex).Unlock", "(*internal/sync.Mutex).unlockSlow", "internal/sync.fatal", "internal/sync.runtime_Semrelease", "(*sync.WaitGroup).Wait", "internal/synctest.IsAssociated[sync.WaitGroup]", "sync/atomic.CompareAndSwapUint64", "internal/race.Write", "sync.runtime_SemacquireWaitGroup"], unfollowed := true, recurses := true, named := ["baudot/fault.acts"], plainKeys := false, leaving := true, apart := false, calm := true, outside := [.timePasses], laid := [("baudot/fault.acts", laid_baudot_fault_acts)] }
def FaultGoodSaid : Prop := faultGoodRow.holds Tryz.pinned (OpenSpec.ofChange faultGoodSpec)

/-- ITS FALSE NEIGHBOUR: 'it returns false'. Refute it at one input. -/
def faultGoodWrong : ChangeSpec := { name := "faultGood", fn := fun _ => fun
  | [d1, d2] => { results := [.lit (.bool false)], args := [d1, d2] }
  | _ => none }
def FaultGoodWrongFalsely : Prop := faultGoodRow.holds Tryz.pinned (OpenSpec.ofChange faultGoodWrong)

/-- 'baudotlaw08.FaultReal': WHATEVER THE INPUT: true; the input reads as it did. -/
def faultRealSpec : ChangeSpec := { name := "faultReal", fn := fun _ => fun
  | [d1, d2, d3] => { results := [.lit (.bool true)], args := [d1, d2, d3] }
  | _ => none }
def faultRealRow : OpenClaim := { program := "ytgkajecjbflbbaagreatdoor", sum := "9e5cb1c091513c2b69056989955026570be661bc904d24fa78ede1a9621ab40b", func := "baudot/baudotlaw08.FaultReal", spec := "faultReal", inPlace := ["(*sync.WaitGroup).Add", "internal/race.ReleaseMerge", "internal/race.Disable", "internal/race.Enable", "internal/synctest.IsInBubble", "internal/synctest.Associate[sync.WaitGroup]", "sync.fatal", "sync/atomic.OrUint64", "sync/atomic.AddUint64", "internal/race.Read", "sync/atomic.LoadUint64", "sync/atomic.StoreUint64", "internal/synctest.Disassociate[sync.WaitGroup]", "sync.runtime_Semrelease", "(*sync.WaitGroup).Done", "(*internal/sync.Mutex).Lock", "sync/atomic.CompareAndSwapInt32", "internal/race.Acquire", "(*internal/sync.Mutex).lockSlow", "internal/sync.runtime_canSpin", "internal/sync.runtime_doSpin", "internal/sync.throw", "internal/sync.runtime_nanotime", "internal/sync.runtime_SemacquireMutex", "sync/atomic.AddInt32", "(*internal/sync.Mutex).Unlock", "(*internal/sync.Mutex).unlockSlow", "internal/sync.fatal", "internal/sync.runtime_Semrelease", "(*sync.WaitGroup).Wait", "internal/synctest.IsAssociated[sync.WaitGroup]", "sync/atomic.CompareAndSwapUint64", "internal/race.Write", "sync.runtime_SemacquireWaitGroup"], unfollowed := true, recurses := true, named := ["baudot/fault.acts"], plainKeys := false, leaving := true, apart := false, calm := true, outside := [.timePasses], laid := [("baudot/fault.acts", laid_baudot_fault_acts)] }
def FaultRealSaid : Prop := faultRealRow.holds Tryz.pinned (OpenSpec.ofChange faultRealSpec)

/-- ITS FALSE NEIGHBOUR: 'it returns false'. Refute it at one input. -/
def faultRealWrong : ChangeSpec := { name := "faultReal", fn := fun _ => fun
  | [d1, d2, d3] => { results := [.lit (.bool false)], args := [d1, d2, d3] }
  | _ => none }
def FaultRealWrongFalsely : Prop := faultRealRow.holds Tryz.pinned (OpenSpec.ofChange faultRealWrong)

/-- 'baudotlaw08.FaultClashes': WHATEVER THE INPUT: true; the input reads as it did. -/
def faultClashesSpec : ChangeSpec := { name := "faultClashes", fn := fun _ => fun
  | [d1, d2] => { results := [.lit (.bool true)], args := [d1, d2] }
  | _ => none }
def faultClashesRow : OpenClaim := { program := "ytgkajecjbflbbaagreatdoor", sum := "9e5cb1c091513c2b69056989955026570be661bc904d24fa78ede1a9621ab40b", func := "baudot/baudotlaw08.FaultClashes", spec := "faultClashes", inPlace := ["(*sync.WaitGroup).Add", "internal/race.ReleaseMerge", "internal/race.Disable", "internal/race.Enable", "internal/synctest.IsInBubble", "internal/synctest.Associate[sync.WaitGroup]", "sync.fatal", "sync/atomic.OrUint64", "sync/atomic.AddUint64", "internal/race.Read", "sync/atomic.LoadUint64", "sync/atomic.StoreUint64", "internal/synctest.Disassociate[sync.WaitGroup]", "sync.runtime_Semrelease", "(*sync.WaitGroup).Done", "(*internal/sync.Mutex).Lock", "sync/atomic.CompareAndSwapInt32", "internal/race.Acquire", "(*internal/sync.Mutex).lockSlow", "internal/sync.runtime_canSpin", "internal/sync.runtime_doSpin", "internal/sync.throw", "internal/sync.runtime_nanotime", "internal/sync.runtime_SemacquireMutex", "sync/atomic.AddInt32", "(*internal/sync.Mutex).Unlock", "(*internal/sync.Mutex).unlockSlow", "internal/sync.fatal", "internal/sync.runtime_Semrelease", "(*sync.WaitGroup).Wait", "internal/synctest.IsAssociated[sync.WaitGroup]", "sync/atomic.CompareAndSwapUint64", "internal/race.Write", "sync.runtime_SemacquireWaitGroup"], unfollowed := true, recurses := true, named := ["baudot/fault.acts"], plainKeys := false, leaving := true, apart := false, calm := true, outside := [.timePasses], laid := [("baudot/fault.acts", laid_baudot_fault_acts)] }
def FaultClashesSaid : Prop := faultClashesRow.holds Tryz.pinned (OpenSpec.ofChange faultClashesSpec)

/-- ITS FALSE NEIGHBOUR: 'it returns false'. Refute it at one input. -/
def faultClashesWrong : ChangeSpec := { name := "faultClashes", fn := fun _ => fun
  | [d1, d2] => { results := [.lit (.bool false)], args := [d1, d2] }
  | _ => none }
def FaultClashesWrongFalsely : Prop := faultClashesRow.holds Tryz.pinned (OpenSpec.ofChange faultClashesWrong)

/-- 'baudotlaw08.FaultSeen': WHATEVER THE INPUT: true; the input reads as it did. -/
def faultSeenSpec : ChangeSpec := { name := "faultSeen", fn := fun _ => fun
  | [d1, d2, d3, d4] => { results := [.lit (.bool true)], args := [d1, d2, d3, d4] }
  | _ => none }
def faultSeenRow : OpenClaim := { program := "ytgkajecjbflbbaagreatdoor", sum := "9e5cb1c091513c2b69056989955026570be661bc904d24fa78ede1a9621ab40b", func := "baudot/baudotlaw08.FaultSeen", spec := "faultSeen", inPlace := ["(*sync.WaitGroup).Add", "internal/race.ReleaseMerge", "internal/race.Disable", "internal/race.Enable", "internal/synctest.IsInBubble", "internal/synctest.Associate[sync.WaitGroup]", "sync.fatal", "sync/atomic.OrUint64", "sync/atomic.AddUint64", "internal/race.Read", "sync/atomic.LoadUint64", "sync/atomic.StoreUint64", "internal/synctest.Disassociate[sync.WaitGroup]", "sync.runtime_Semrelease", "(*sync.WaitGroup).Done", "(*internal/sync.Mutex).Lock", "sync/atomic.CompareAndSwapInt32", "internal/race.Acquire", "(*internal/sync.Mutex).lockSlow", "internal/sync.runtime_canSpin", "internal/sync.runtime_doSpin", "internal/sync.throw", "internal/sync.runtime_nanotime", "internal/sync.runtime_SemacquireMutex", "sync/atomic.AddInt32", "(*internal/sync.Mutex).Unlock", "(*internal/sync.Mutex).unlockSlow", "internal/sync.fatal", "internal/sync.runtime_Semrelease", "(*sync.WaitGroup).Wait", "internal/synctest.IsAssociated[sync.WaitGroup]", "sync/atomic.CompareAndSwapUint64", "internal/race.Write", "sync.runtime_SemacquireWaitGroup"], unfollowed := true, recurses := true, named := ["baudot/fault.acts"], plainKeys := false, leaving := true, apart := false, calm := true, outside := [.timePasses], laid := [("baudot/fault.acts", laid_baudot_fault_acts)] }
def FaultSeenSaid : Prop := faultSeenRow.holds Tryz.pinned (OpenSpec.ofChange faultSeenSpec)

/-- ITS FALSE NEIGHBOUR: 'it returns false'. Refute it at one input. -/
def faultSeenWrong : ChangeSpec := { name := "faultSeen", fn := fun _ => fun
  | [d1, d2, d3, d4] => { results := [.lit (.bool false)], args := [d1, d2, d3, d4] }
  | _ => none }
def FaultSeenWrongFalsely : Prop := faultSeenRow.holds Tryz.pinned (OpenSpec.ofChange faultSeenWrong)

end Rows
end Go.Proofs.YtgkajecjbflbbaaGreatDoor
