/-
  NARROWER THAN 'FOR EVERY INPUT', by the rows' own cells (each row's printed sentence says how): StoreAgain: laid · StoreClashes: laid · StoreAsked: laid · StorePunched: laid · StoreAnyOrder: laid · StorePacked: laid · StoreEarlier: laid · StoreClaims: laid · StoreReached: laid · StoreReal: laid.
  DERIVED. THE GIVEN ROWS OF THIS SEAT. 10 by the template 'for every input the law returns true; each argument reads behind the call as it read before'; 0 by the template 'total and deterministic' (their statements: YtgemjjdkjmpmlaaGreatDoorTotals.lean).
  GIVEN WITH THE SEED: the statements are not yours to turn. If you find one false, say at which input.
  Laid BY PROGRAM, IN A SANDBOX (cutbox-rows.mjs): the forced cells as the released guide's own fill.sh prints them over the translation 874815c80a14c95a… (all of the seat's roots in one cut). By AI agents, Wed Nov 11 2026. No macro, syntax, notation, axiom, sorry.
-/
import Derived.Test.YtgemjjdkjmpmlaaGreatDoorChecked
import GoSem.Claim
import GoSem.ClaimJoined
import GoSem.ClaimMapViews
import Derived.JoinedTies
import Derived.KernelRfl
namespace Go.Proofs.YtgemjjdkjmpmlaaGreatDoor
/- THE CELL 'sum', in the pinned program and in every row, IS THE sha256 OF THE DUMP (.gsa) THAT YtgemjjdkjmpmlaaGreatDoorProg.lean LOADS. Nothing in Lean hashes anything: it is a label: what it is worth is what the hold of that sum in a sandbox is worth. -/
noncomputable def Tryz.pinned : Pinned := { name := "ytgemjjdkjmpmlaagreatdoor", sum := "874815c80a14c95a1f2adfa42aaac0f67b153e78358be5d2d27aa0e0af20c99a", checked := Tryz.checked }
namespace Rows
def none {H : Type} : Left H := { results := [], args := [] }

/- WHAT THE LISTED PACKAGE-LEVEL VARIABLES READ AS WHEN THE CALL BEGINS. Each datum BY PROGRAM (the guide's laid-datum.mjs) off the statement by which the dump's own 'gosem.cut.vars' lays the variable. In a bare row this is a premise. The card (YtgemjjdkjmpmlaaGreatDoorCards.lean) ties it to the program's text. -/
def laid_baudot_store_kinds {H : Type} : DataW H := .iface "func table" (.agg [.agg [.lit (.string [97, 108, 108]), .lit (.bool false), .lit (.bool false), .iface "func" (.lit (.string [98, 97, 117, 100, 111, 116, 47, 115, 116, 111, 114, 101, 46, 111, 102, 83, 101, 115, 115, 105, 111, 110])), .iface "func" (.lit (.string [98, 97, 117, 100, 111, 116, 47, 115, 116, 111, 114, 101, 46, 107, 105, 110, 100, 115, 36, 49]))], .agg [.lit (.string [98, 114, 111, 107, 101]), .lit (.bool false), .lit (.bool false), .iface "func" (.lit (.string [98, 97, 117, 100, 111, 116, 47, 115, 116, 111, 114, 101, 46, 111, 102, 83, 101, 115, 115, 105, 111, 110])), .iface "func" (.lit (.string [98, 97, 117, 100, 111, 116, 47, 115, 116, 111, 114, 101, 46, 107, 105, 110, 100, 115, 36, 50]))], .agg [.lit (.string [108, 101, 97, 115, 116]), .lit (.bool false), .lit (.bool true), .iface "func" (.lit (.string [98, 97, 117, 100, 111, 116, 47, 115, 116, 111, 114, 101, 46, 111, 102, 83, 101, 115, 115, 105, 111, 110])), .iface "func" (.lit (.string [98, 97, 117, 100, 111, 116, 47, 115, 116, 111, 114, 101, 46, 107, 105, 110, 100, 115, 36, 51]))], .agg [.lit (.string [109, 111, 115, 116]), .lit (.bool false), .lit (.bool true), .iface "func" (.lit (.string [98, 97, 117, 100, 111, 116, 47, 115, 116, 111, 114, 101, 46, 111, 102, 83, 101, 115, 115, 105, 111, 110])), .iface "func" (.lit (.string [98, 97, 117, 100, 111, 116, 47, 115, 116, 111, 114, 101, 46, 107, 105, 110, 100, 115, 36, 52]))], .agg [.lit (.string [99, 111, 112, 105, 101, 115]), .lit (.bool true), .lit (.bool true), .iface "func" (.lit (.string [98, 97, 117, 100, 111, 116, 47, 115, 116, 111, 114, 101, 46, 107, 105, 110, 100, 115, 36, 53])), .iface "func" (.lit (.string [98, 97, 117, 100, 111, 116, 47, 115, 116, 111, 114, 101, 46, 107, 105, 110, 100, 115, 36, 54]))], .agg [.lit (.string [104, 97, 118, 101]), .lit (.bool false), .lit (.bool true), .iface "func" (.lit (.string [98, 97, 117, 100, 111, 116, 47, 115, 116, 111, 114, 101, 46, 107, 105, 110, 100, 115, 36, 55])), .iface "func" (.lit (.string [98, 97, 117, 100, 111, 116, 47, 115, 116, 111, 114, 101, 46, 107, 105, 110, 100, 115, 36, 56]))]])

/-- 'baudotlaw06.StoreAgain': WHATEVER THE INPUT: true; the input reads as it did. -/
def storeAgainSpec : ChangeSpec := { name := "storeAgain", fn := fun _ => fun
  | [d1, d2, d3] => { results := [.lit (.bool true)], args := [d1, d2, d3] }
  | _ => none }
def storeAgainRow : OpenClaim := { program := "ytgemjjdkjmpmlaagreatdoor", sum := "874815c80a14c95a1f2adfa42aaac0f67b153e78358be5d2d27aa0e0af20c99a", func := "baudot/baudotlaw06.StoreAgain", spec := "storeAgain", unfollowed := true, recurses := true, named := ["baudot/store.kinds"], plainKeys := false, leaving := true, apart := false, laid := [("baudot/store.kinds", laid_baudot_store_kinds)] }
def StoreAgainSaid : Prop := storeAgainRow.holds Tryz.pinned (OpenSpec.ofChange storeAgainSpec)

/-- ITS FALSE NEIGHBOUR: 'it returns false'. Refute it at one input. -/
def storeAgainWrong : ChangeSpec := { name := "storeAgain", fn := fun _ => fun
  | [d1, d2, d3] => { results := [.lit (.bool false)], args := [d1, d2, d3] }
  | _ => none }
def StoreAgainWrongFalsely : Prop := storeAgainRow.holds Tryz.pinned (OpenSpec.ofChange storeAgainWrong)

/-- 'baudotlaw06.StoreClashes': WHATEVER THE INPUT: true; the input reads as it did. -/
def storeClashesSpec : ChangeSpec := { name := "storeClashes", fn := fun _ => fun
  | [d1, d2] => { results := [.lit (.bool true)], args := [d1, d2] }
  | _ => none }
def storeClashesRow : OpenClaim := { program := "ytgemjjdkjmpmlaagreatdoor", sum := "874815c80a14c95a1f2adfa42aaac0f67b153e78358be5d2d27aa0e0af20c99a", func := "baudot/baudotlaw06.StoreClashes", spec := "storeClashes", unfollowed := true, recurses := true, named := ["baudot/store.kinds"], plainKeys := false, leaving := true, apart := false, laid := [("baudot/store.kinds", laid_baudot_store_kinds)] }
def StoreClashesSaid : Prop := storeClashesRow.holds Tryz.pinned (OpenSpec.ofChange storeClashesSpec)

/-- ITS FALSE NEIGHBOUR: 'it returns false'. Refute it at one input. -/
def storeClashesWrong : ChangeSpec := { name := "storeClashes", fn := fun _ => fun
  | [d1, d2] => { results := [.lit (.bool false)], args := [d1, d2] }
  | _ => none }
def StoreClashesWrongFalsely : Prop := storeClashesRow.holds Tryz.pinned (OpenSpec.ofChange storeClashesWrong)

/-- 'baudotlaw06.StoreAsked': WHATEVER THE INPUT: true; the input reads as it did. -/
def storeAskedSpec : ChangeSpec := { name := "storeAsked", fn := fun _ => fun
  | [d1, d2] => { results := [.lit (.bool true)], args := [d1, d2] }
  | _ => none }
def storeAskedRow : OpenClaim := { program := "ytgemjjdkjmpmlaagreatdoor", sum := "874815c80a14c95a1f2adfa42aaac0f67b153e78358be5d2d27aa0e0af20c99a", func := "baudot/baudotlaw06.StoreAsked", spec := "storeAsked", unfollowed := true, recurses := true, named := ["baudot/store.kinds"], plainKeys := false, leaving := true, apart := false, laid := [("baudot/store.kinds", laid_baudot_store_kinds)] }
def StoreAskedSaid : Prop := storeAskedRow.holds Tryz.pinned (OpenSpec.ofChange storeAskedSpec)

/-- ITS FALSE NEIGHBOUR: 'it returns false'. Refute it at one input. -/
def storeAskedWrong : ChangeSpec := { name := "storeAsked", fn := fun _ => fun
  | [d1, d2] => { results := [.lit (.bool false)], args := [d1, d2] }
  | _ => none }
def StoreAskedWrongFalsely : Prop := storeAskedRow.holds Tryz.pinned (OpenSpec.ofChange storeAskedWrong)

/-- 'baudotlaw06.StorePunched': WHATEVER THE INPUT: true; the input reads as it did. -/
def storePunchedSpec : ChangeSpec := { name := "storePunched", fn := fun _ => fun
  | [d1, d2] => { results := [.lit (.bool true)], args := [d1, d2] }
  | _ => none }
def storePunchedRow : OpenClaim := { program := "ytgemjjdkjmpmlaagreatdoor", sum := "874815c80a14c95a1f2adfa42aaac0f67b153e78358be5d2d27aa0e0af20c99a", func := "baudot/baudotlaw06.StorePunched", spec := "storePunched", unfollowed := true, recurses := true, named := ["baudot/store.kinds"], plainKeys := false, leaving := true, apart := false, laid := [("baudot/store.kinds", laid_baudot_store_kinds)] }
def StorePunchedSaid : Prop := storePunchedRow.holds Tryz.pinned (OpenSpec.ofChange storePunchedSpec)

/-- ITS FALSE NEIGHBOUR: 'it returns false'. Refute it at one input. -/
def storePunchedWrong : ChangeSpec := { name := "storePunched", fn := fun _ => fun
  | [d1, d2] => { results := [.lit (.bool false)], args := [d1, d2] }
  | _ => none }
def StorePunchedWrongFalsely : Prop := storePunchedRow.holds Tryz.pinned (OpenSpec.ofChange storePunchedWrong)

/-- 'baudotlaw06.StoreAnyOrder': WHATEVER THE INPUT: true; the input reads as it did. -/
def storeAnyOrderSpec : ChangeSpec := { name := "storeAnyOrder", fn := fun _ => fun
  | [d1, d2] => { results := [.lit (.bool true)], args := [d1, d2] }
  | _ => none }
def storeAnyOrderRow : OpenClaim := { program := "ytgemjjdkjmpmlaagreatdoor", sum := "874815c80a14c95a1f2adfa42aaac0f67b153e78358be5d2d27aa0e0af20c99a", func := "baudot/baudotlaw06.StoreAnyOrder", spec := "storeAnyOrder", unfollowed := true, recurses := true, named := ["baudot/store.kinds"], plainKeys := false, leaving := true, apart := false, laid := [("baudot/store.kinds", laid_baudot_store_kinds)] }
def StoreAnyOrderSaid : Prop := storeAnyOrderRow.holds Tryz.pinned (OpenSpec.ofChange storeAnyOrderSpec)

/-- ITS FALSE NEIGHBOUR: 'it returns false'. Refute it at one input. -/
def storeAnyOrderWrong : ChangeSpec := { name := "storeAnyOrder", fn := fun _ => fun
  | [d1, d2] => { results := [.lit (.bool false)], args := [d1, d2] }
  | _ => none }
def StoreAnyOrderWrongFalsely : Prop := storeAnyOrderRow.holds Tryz.pinned (OpenSpec.ofChange storeAnyOrderWrong)

/-- 'baudotlaw06.StorePacked': WHATEVER THE INPUT: true; the input reads as it did. -/
def storePackedSpec : ChangeSpec := { name := "storePacked", fn := fun _ => fun
  | [d1, d2, d3] => { results := [.lit (.bool true)], args := [d1, d2, d3] }
  | _ => none }
def storePackedRow : OpenClaim := { program := "ytgemjjdkjmpmlaagreatdoor", sum := "874815c80a14c95a1f2adfa42aaac0f67b153e78358be5d2d27aa0e0af20c99a", func := "baudot/baudotlaw06.StorePacked", spec := "storePacked", unfollowed := true, recurses := true, named := ["baudot/store.kinds"], plainKeys := false, leaving := true, apart := false, laid := [("baudot/store.kinds", laid_baudot_store_kinds)] }
def StorePackedSaid : Prop := storePackedRow.holds Tryz.pinned (OpenSpec.ofChange storePackedSpec)

/-- ITS FALSE NEIGHBOUR: 'it returns false'. Refute it at one input. -/
def storePackedWrong : ChangeSpec := { name := "storePacked", fn := fun _ => fun
  | [d1, d2, d3] => { results := [.lit (.bool false)], args := [d1, d2, d3] }
  | _ => none }
def StorePackedWrongFalsely : Prop := storePackedRow.holds Tryz.pinned (OpenSpec.ofChange storePackedWrong)

/-- 'baudotlaw06.StoreEarlier': WHATEVER THE INPUT: true; the input reads as it did. -/
def storeEarlierSpec : ChangeSpec := { name := "storeEarlier", fn := fun _ => fun
  | [d1, d2, d3, d4] => { results := [.lit (.bool true)], args := [d1, d2, d3, d4] }
  | _ => none }
def storeEarlierRow : OpenClaim := { program := "ytgemjjdkjmpmlaagreatdoor", sum := "874815c80a14c95a1f2adfa42aaac0f67b153e78358be5d2d27aa0e0af20c99a", func := "baudot/baudotlaw06.StoreEarlier", spec := "storeEarlier", unfollowed := true, recurses := true, named := ["baudot/store.kinds"], plainKeys := false, leaving := true, apart := false, laid := [("baudot/store.kinds", laid_baudot_store_kinds)] }
def StoreEarlierSaid : Prop := storeEarlierRow.holds Tryz.pinned (OpenSpec.ofChange storeEarlierSpec)

/-- ITS FALSE NEIGHBOUR: 'it returns false'. Refute it at one input. -/
def storeEarlierWrong : ChangeSpec := { name := "storeEarlier", fn := fun _ => fun
  | [d1, d2, d3, d4] => { results := [.lit (.bool false)], args := [d1, d2, d3, d4] }
  | _ => none }
def StoreEarlierWrongFalsely : Prop := storeEarlierRow.holds Tryz.pinned (OpenSpec.ofChange storeEarlierWrong)

/-- 'baudotlaw06.StoreClaims': WHATEVER THE INPUT: true; the input reads as it did. -/
def storeClaimsSpec : ChangeSpec := { name := "storeClaims", fn := fun _ => fun
  | [d1, d2, d3] => { results := [.lit (.bool true)], args := [d1, d2, d3] }
  | _ => none }
def storeClaimsRow : OpenClaim := { program := "ytgemjjdkjmpmlaagreatdoor", sum := "874815c80a14c95a1f2adfa42aaac0f67b153e78358be5d2d27aa0e0af20c99a", func := "baudot/baudotlaw06.StoreClaims", spec := "storeClaims", unfollowed := true, recurses := true, named := ["baudot/store.kinds"], plainKeys := false, leaving := true, apart := false, laid := [("baudot/store.kinds", laid_baudot_store_kinds)] }
def StoreClaimsSaid : Prop := storeClaimsRow.holds Tryz.pinned (OpenSpec.ofChange storeClaimsSpec)

/-- ITS FALSE NEIGHBOUR: 'it returns false'. Refute it at one input. -/
def storeClaimsWrong : ChangeSpec := { name := "storeClaims", fn := fun _ => fun
  | [d1, d2, d3] => { results := [.lit (.bool false)], args := [d1, d2, d3] }
  | _ => none }
def StoreClaimsWrongFalsely : Prop := storeClaimsRow.holds Tryz.pinned (OpenSpec.ofChange storeClaimsWrong)

/-- 'baudotlaw06.StoreReached': WHATEVER THE INPUT: true; the input reads as it did. -/
def storeReachedSpec : ChangeSpec := { name := "storeReached", fn := fun _ => fun
  | [d1, d2, d3, d4] => { results := [.lit (.bool true)], args := [d1, d2, d3, d4] }
  | _ => none }
def storeReachedRow : OpenClaim := { program := "ytgemjjdkjmpmlaagreatdoor", sum := "874815c80a14c95a1f2adfa42aaac0f67b153e78358be5d2d27aa0e0af20c99a", func := "baudot/baudotlaw06.StoreReached", spec := "storeReached", unfollowed := true, recurses := true, named := ["baudot/store.kinds"], plainKeys := false, leaving := true, apart := false, laid := [("baudot/store.kinds", laid_baudot_store_kinds)] }
def StoreReachedSaid : Prop := storeReachedRow.holds Tryz.pinned (OpenSpec.ofChange storeReachedSpec)

/-- ITS FALSE NEIGHBOUR: 'it returns false'. Refute it at one input. -/
def storeReachedWrong : ChangeSpec := { name := "storeReached", fn := fun _ => fun
  | [d1, d2, d3, d4] => { results := [.lit (.bool false)], args := [d1, d2, d3, d4] }
  | _ => none }
def StoreReachedWrongFalsely : Prop := storeReachedRow.holds Tryz.pinned (OpenSpec.ofChange storeReachedWrong)

/-- 'baudotlaw06.StoreReal': WHATEVER THE INPUT: true; the input reads as it did. -/
def storeRealSpec : ChangeSpec := { name := "storeReal", fn := fun _ => fun
  | [d1, d2, d3, d4, d5] => { results := [.lit (.bool true)], args := [d1, d2, d3, d4, d5] }
  | _ => none }
def storeRealRow : OpenClaim := { program := "ytgemjjdkjmpmlaagreatdoor", sum := "874815c80a14c95a1f2adfa42aaac0f67b153e78358be5d2d27aa0e0af20c99a", func := "baudot/baudotlaw06.StoreReal", spec := "storeReal", unfollowed := true, recurses := true, named := ["baudot/store.kinds"], plainKeys := false, leaving := true, apart := false, laid := [("baudot/store.kinds", laid_baudot_store_kinds)] }
def StoreRealSaid : Prop := storeRealRow.holds Tryz.pinned (OpenSpec.ofChange storeRealSpec)

/-- ITS FALSE NEIGHBOUR: 'it returns false'. Refute it at one input. -/
def storeRealWrong : ChangeSpec := { name := "storeReal", fn := fun _ => fun
  | [d1, d2, d3, d4, d5] => { results := [.lit (.bool false)], args := [d1, d2, d3, d4, d5] }
  | _ => none }
def StoreRealWrongFalsely : Prop := storeRealRow.holds Tryz.pinned (OpenSpec.ofChange storeRealWrong)

/- THE SECOND FORM. 'bulk': how many values and letters a reading holds, each counted each time it is reached (what is shared counts as often as it is met; a slice's spare places count too). A statement '..UptoSaid' is the law's where the arguments, and the package variables that the reading takes, are together of bulk at most 1048576: NARROWER than '..Said'. Prove '..Said' where nothing that the law and all that it calls make is longer than what came in: it says more and counts as full. Else prove '..UptoSaid'. A law counts once. -/
mutual
def uptoBulk {H : Type} : DataW H → Nat
  | .lit (.string bytes) => bytes.length + 1
  | .lit _ => 1
  | .nil => 1
  | .ptr d => uptoBulk d + 1
  | .slice elems spare => uptoBulkAll elems + uptoBulkAll spare + 1
  | .agg parts => uptoBulkAll parts + 1
  | .iface _ d => uptoBulk d + 1
  | .map entries => uptoBulkEntries entries + 1
  | .held _ => 1
def uptoBulkAll {H : Type} : List (DataW H) → Nat
  | [] => 0
  | d :: r => uptoBulk d + uptoBulkAll r
def uptoBulkEntries {H : Type} : List (Lit × DataW H) → Nat
  | [] => 0
  | x :: r => uptoBulkEntry x + uptoBulkEntries r
def uptoBulkEntry {H : Type} : Lit × DataW H → Nat
  | (.string bytes, d) => bytes.length + uptoBulk d + 1
  | (_, d) => uptoBulk d + 1
 end
def uptoSmall : (H : Type) → List (DataW H) → Bool := fun _ ds => decide (uptoBulkAll ds ≤ 1048576)
def OpenSpec.upto (s : _root_.Go.ChangeSpec) : _root_.Go.OpenSpec := { _root_.Go.OpenSpec.ofChange s with cond := some uptoSmall }

/-- 'baudotlaw06.StoreAgain', WHERE WHAT IT READS IS OF BULK AT MOST 1048576: true; the input reads as it did. -/
def storeAgainUptoRow : OpenClaim := { program := "ytgemjjdkjmpmlaagreatdoor", sum := "874815c80a14c95a1f2adfa42aaac0f67b153e78358be5d2d27aa0e0af20c99a", func := "baudot/baudotlaw06.StoreAgain", spec := "storeAgain", unfollowed := true, recurses := true, named := ["baudot/store.kinds"], plainKeys := false, leaving := true, apart := false, laid := [("baudot/store.kinds", laid_baudot_store_kinds)], narrowed := true }
def StoreAgainUptoSaid : Prop := storeAgainUptoRow.holds Tryz.pinned (OpenSpec.upto storeAgainSpec)

/-- 'baudotlaw06.StoreClashes', WHERE WHAT IT READS IS OF BULK AT MOST 1048576: true; the input reads as it did. -/
def storeClashesUptoRow : OpenClaim := { program := "ytgemjjdkjmpmlaagreatdoor", sum := "874815c80a14c95a1f2adfa42aaac0f67b153e78358be5d2d27aa0e0af20c99a", func := "baudot/baudotlaw06.StoreClashes", spec := "storeClashes", unfollowed := true, recurses := true, named := ["baudot/store.kinds"], plainKeys := false, leaving := true, apart := false, laid := [("baudot/store.kinds", laid_baudot_store_kinds)], narrowed := true }
def StoreClashesUptoSaid : Prop := storeClashesUptoRow.holds Tryz.pinned (OpenSpec.upto storeClashesSpec)

/-- 'baudotlaw06.StoreAsked', WHERE WHAT IT READS IS OF BULK AT MOST 1048576: true; the input reads as it did. -/
def storeAskedUptoRow : OpenClaim := { program := "ytgemjjdkjmpmlaagreatdoor", sum := "874815c80a14c95a1f2adfa42aaac0f67b153e78358be5d2d27aa0e0af20c99a", func := "baudot/baudotlaw06.StoreAsked", spec := "storeAsked", unfollowed := true, recurses := true, named := ["baudot/store.kinds"], plainKeys := false, leaving := true, apart := false, laid := [("baudot/store.kinds", laid_baudot_store_kinds)], narrowed := true }
def StoreAskedUptoSaid : Prop := storeAskedUptoRow.holds Tryz.pinned (OpenSpec.upto storeAskedSpec)

/-- 'baudotlaw06.StorePunched', WHERE WHAT IT READS IS OF BULK AT MOST 1048576: true; the input reads as it did. -/
def storePunchedUptoRow : OpenClaim := { program := "ytgemjjdkjmpmlaagreatdoor", sum := "874815c80a14c95a1f2adfa42aaac0f67b153e78358be5d2d27aa0e0af20c99a", func := "baudot/baudotlaw06.StorePunched", spec := "storePunched", unfollowed := true, recurses := true, named := ["baudot/store.kinds"], plainKeys := false, leaving := true, apart := false, laid := [("baudot/store.kinds", laid_baudot_store_kinds)], narrowed := true }
def StorePunchedUptoSaid : Prop := storePunchedUptoRow.holds Tryz.pinned (OpenSpec.upto storePunchedSpec)

/-- 'baudotlaw06.StoreAnyOrder', WHERE WHAT IT READS IS OF BULK AT MOST 1048576: true; the input reads as it did. -/
def storeAnyOrderUptoRow : OpenClaim := { program := "ytgemjjdkjmpmlaagreatdoor", sum := "874815c80a14c95a1f2adfa42aaac0f67b153e78358be5d2d27aa0e0af20c99a", func := "baudot/baudotlaw06.StoreAnyOrder", spec := "storeAnyOrder", unfollowed := true, recurses := true, named := ["baudot/store.kinds"], plainKeys := false, leaving := true, apart := false, laid := [("baudot/store.kinds", laid_baudot_store_kinds)], narrowed := true }
def StoreAnyOrderUptoSaid : Prop := storeAnyOrderUptoRow.holds Tryz.pinned (OpenSpec.upto storeAnyOrderSpec)

/-- 'baudotlaw06.StorePacked', WHERE WHAT IT READS IS OF BULK AT MOST 1048576: true; the input reads as it did. -/
def storePackedUptoRow : OpenClaim := { program := "ytgemjjdkjmpmlaagreatdoor", sum := "874815c80a14c95a1f2adfa42aaac0f67b153e78358be5d2d27aa0e0af20c99a", func := "baudot/baudotlaw06.StorePacked", spec := "storePacked", unfollowed := true, recurses := true, named := ["baudot/store.kinds"], plainKeys := false, leaving := true, apart := false, laid := [("baudot/store.kinds", laid_baudot_store_kinds)], narrowed := true }
def StorePackedUptoSaid : Prop := storePackedUptoRow.holds Tryz.pinned (OpenSpec.upto storePackedSpec)

/-- 'baudotlaw06.StoreEarlier', WHERE WHAT IT READS IS OF BULK AT MOST 1048576: true; the input reads as it did. -/
def storeEarlierUptoRow : OpenClaim := { program := "ytgemjjdkjmpmlaagreatdoor", sum := "874815c80a14c95a1f2adfa42aaac0f67b153e78358be5d2d27aa0e0af20c99a", func := "baudot/baudotlaw06.StoreEarlier", spec := "storeEarlier", unfollowed := true, recurses := true, named := ["baudot/store.kinds"], plainKeys := false, leaving := true, apart := false, laid := [("baudot/store.kinds", laid_baudot_store_kinds)], narrowed := true }
def StoreEarlierUptoSaid : Prop := storeEarlierUptoRow.holds Tryz.pinned (OpenSpec.upto storeEarlierSpec)

/-- 'baudotlaw06.StoreClaims', WHERE WHAT IT READS IS OF BULK AT MOST 1048576: true; the input reads as it did. -/
def storeClaimsUptoRow : OpenClaim := { program := "ytgemjjdkjmpmlaagreatdoor", sum := "874815c80a14c95a1f2adfa42aaac0f67b153e78358be5d2d27aa0e0af20c99a", func := "baudot/baudotlaw06.StoreClaims", spec := "storeClaims", unfollowed := true, recurses := true, named := ["baudot/store.kinds"], plainKeys := false, leaving := true, apart := false, laid := [("baudot/store.kinds", laid_baudot_store_kinds)], narrowed := true }
def StoreClaimsUptoSaid : Prop := storeClaimsUptoRow.holds Tryz.pinned (OpenSpec.upto storeClaimsSpec)

/-- 'baudotlaw06.StoreReached', WHERE WHAT IT READS IS OF BULK AT MOST 1048576: true; the input reads as it did. -/
def storeReachedUptoRow : OpenClaim := { program := "ytgemjjdkjmpmlaagreatdoor", sum := "874815c80a14c95a1f2adfa42aaac0f67b153e78358be5d2d27aa0e0af20c99a", func := "baudot/baudotlaw06.StoreReached", spec := "storeReached", unfollowed := true, recurses := true, named := ["baudot/store.kinds"], plainKeys := false, leaving := true, apart := false, laid := [("baudot/store.kinds", laid_baudot_store_kinds)], narrowed := true }
def StoreReachedUptoSaid : Prop := storeReachedUptoRow.holds Tryz.pinned (OpenSpec.upto storeReachedSpec)

/-- 'baudotlaw06.StoreReal', WHERE WHAT IT READS IS OF BULK AT MOST 1048576: true; the input reads as it did. -/
def storeRealUptoRow : OpenClaim := { program := "ytgemjjdkjmpmlaagreatdoor", sum := "874815c80a14c95a1f2adfa42aaac0f67b153e78358be5d2d27aa0e0af20c99a", func := "baudot/baudotlaw06.StoreReal", spec := "storeReal", unfollowed := true, recurses := true, named := ["baudot/store.kinds"], plainKeys := false, leaving := true, apart := false, laid := [("baudot/store.kinds", laid_baudot_store_kinds)], narrowed := true }
def StoreRealUptoSaid : Prop := storeRealUptoRow.holds Tryz.pinned (OpenSpec.upto storeRealSpec)

end Rows
end Go.Proofs.YtgemjjdkjmpmlaaGreatDoor
