/-
  NARROWER THAN 'FOR EVERY INPUT', by the rows' own cells (each row's printed sentence says how): StoreLoaded: laid.
  DERIVED. THE GIVEN ROWS OF THIS SEAT. 1 by the template 'for every input the law returns true; each argument reads behind the call as it read before'; 0 by the template 'total and deterministic' (their statements: YtdjnkplgllakcaaGreatDoorTotals.lean).
  GIVEN WITH THE SEED: the statements are not yours to turn. If you find one false, say at which input.
  Laid BY PROGRAM, IN A SANDBOX (cutbox-rows.mjs): the forced cells as the released guide's own fill.sh prints them over the translation cde9b3d611532845… (all of the seat's roots in one cut). By AI agents, Wed Nov 11 2026. No macro, syntax, notation, axiom, sorry.
-/
import Derived.Test.YtdjnkplgllakcaaGreatDoorChecked
import GoSem.Claim
import GoSem.ClaimJoined
import GoSem.ClaimMapViews
import Derived.JoinedTies
import Derived.KernelRfl
namespace Go.Proofs.YtdjnkplgllakcaaGreatDoor
/- THE CELL 'sum', in the pinned program and in every row, IS THE sha256 OF THE DUMP (.gsa) THAT YtdjnkplgllakcaaGreatDoorProg.lean LOADS. Nothing in Lean hashes anything: it is a label: what it is worth is what the hold of that sum in a sandbox is worth. -/
noncomputable def Tryz.pinned : Pinned := { name := "ytdjnkplgllakcaagreatdoor", sum := "cde9b3d6115328450052842d7ffc3e2d52b33ded62515c5b5b9b55e40eb90d70", checked := Tryz.checked }
namespace Rows
def none {H : Type} : Left H := { results := [], args := [] }

/- WHAT THE LISTED PACKAGE-LEVEL VARIABLES READ AS WHEN THE CALL BEGINS. Each datum BY PROGRAM (the guide's laid-datum.mjs) off the statement by which the dump's own 'gosem.cut.vars' lays the variable. In a bare row this is a premise. The card (YtdjnkplgllakcaaGreatDoorCards.lean) ties it to the program's text. -/
def laid_baudot_store_kinds {H : Type} : DataW H := .iface "func table" (.agg [.agg [.lit (.string [97, 108, 108]), .lit (.bool false), .lit (.bool false), .iface "func" (.lit (.string [98, 97, 117, 100, 111, 116, 47, 115, 116, 111, 114, 101, 46, 111, 102, 83, 101, 115, 115, 105, 111, 110])), .iface "func" (.lit (.string [98, 97, 117, 100, 111, 116, 47, 115, 116, 111, 114, 101, 46, 107, 105, 110, 100, 115, 36, 49]))], .agg [.lit (.string [98, 114, 111, 107, 101]), .lit (.bool false), .lit (.bool false), .iface "func" (.lit (.string [98, 97, 117, 100, 111, 116, 47, 115, 116, 111, 114, 101, 46, 111, 102, 83, 101, 115, 115, 105, 111, 110])), .iface "func" (.lit (.string [98, 97, 117, 100, 111, 116, 47, 115, 116, 111, 114, 101, 46, 107, 105, 110, 100, 115, 36, 50]))], .agg [.lit (.string [108, 101, 97, 115, 116]), .lit (.bool false), .lit (.bool true), .iface "func" (.lit (.string [98, 97, 117, 100, 111, 116, 47, 115, 116, 111, 114, 101, 46, 111, 102, 83, 101, 115, 115, 105, 111, 110])), .iface "func" (.lit (.string [98, 97, 117, 100, 111, 116, 47, 115, 116, 111, 114, 101, 46, 107, 105, 110, 100, 115, 36, 51]))], .agg [.lit (.string [109, 111, 115, 116]), .lit (.bool false), .lit (.bool true), .iface "func" (.lit (.string [98, 97, 117, 100, 111, 116, 47, 115, 116, 111, 114, 101, 46, 111, 102, 83, 101, 115, 115, 105, 111, 110])), .iface "func" (.lit (.string [98, 97, 117, 100, 111, 116, 47, 115, 116, 111, 114, 101, 46, 107, 105, 110, 100, 115, 36, 52]))], .agg [.lit (.string [99, 111, 112, 105, 101, 115]), .lit (.bool true), .lit (.bool true), .iface "func" (.lit (.string [98, 97, 117, 100, 111, 116, 47, 115, 116, 111, 114, 101, 46, 107, 105, 110, 100, 115, 36, 53])), .iface "func" (.lit (.string [98, 97, 117, 100, 111, 116, 47, 115, 116, 111, 114, 101, 46, 107, 105, 110, 100, 115, 36, 54]))], .agg [.lit (.string [104, 97, 118, 101]), .lit (.bool false), .lit (.bool true), .iface "func" (.lit (.string [98, 97, 117, 100, 111, 116, 47, 115, 116, 111, 114, 101, 46, 107, 105, 110, 100, 115, 36, 55])), .iface "func" (.lit (.string [98, 97, 117, 100, 111, 116, 47, 115, 116, 111, 114, 101, 46, 107, 105, 110, 100, 115, 36, 56]))]])

/-- 'baudotlaw06.StoreLoaded': WHATEVER THE INPUT: true; the input reads as it did. -/
def storeLoadedSpec : ChangeSpec := { name := "storeLoaded", fn := fun _ => fun
  | [d1, d2, d3, d4, d5] => { results := [.lit (.bool true)], args := [d1, d2, d3, d4, d5] }
  | _ => none }
def storeLoadedRow : OpenClaim := { program := "ytdjnkplgllakcaagreatdoor", sum := "cde9b3d6115328450052842d7ffc3e2d52b33ded62515c5b5b9b55e40eb90d70", func := "baudot/baudotlaw06.StoreLoaded", spec := "storeLoaded", unfollowed := true, recurses := true, named := ["baudot/store.kinds"], plainKeys := false, leaving := true, apart := false, laid := [("baudot/store.kinds", laid_baudot_store_kinds)] }
def StoreLoadedSaid : Prop := storeLoadedRow.holds Tryz.pinned (OpenSpec.ofChange storeLoadedSpec)

/-- ITS FALSE NEIGHBOUR: 'it returns false'. Refute it at one input. -/
def storeLoadedWrong : ChangeSpec := { name := "storeLoaded", fn := fun _ => fun
  | [d1, d2, d3, d4, d5] => { results := [.lit (.bool false)], args := [d1, d2, d3, d4, d5] }
  | _ => none }
def StoreLoadedWrongFalsely : Prop := storeLoadedRow.holds Tryz.pinned (OpenSpec.ofChange storeLoadedWrong)

/- THE SECOND FORM. 'bulk': how many values and letters a reading holds, each counted each time it is reached (what is shared counts as often as it is met; a slice's spare places count too). A statement '..UptoSaid' is the law's where the arguments, and the package variables that the reading takes, are together of bulk at most 1048576: NARROWER than '..Said'. Prove '..Said' where nothing that the law and all that it calls make is longer than what came in: it says more and counts as full. Else prove '..UptoSaid'. A law counts once. -/
mutual
def uptoBulk {H : Type} : DataW H → Nat
  | .lit (.string bytes) => bytes.length + 1
  | .lit _ => 1
  | .nil => 1
  | .ptr d => uptoBulk d + 1
  | .slice elems spare => uptoBulkAll elems + uptoBulkAll spare + 1
  | .agg parts => uptoBulkAll parts + 1
  | .iface _ d => uptoBulk d + 1
  | .map entries => uptoBulkEntries entries + 1
  | .held _ => 1
def uptoBulkAll {H : Type} : List (DataW H) → Nat
  | [] => 0
  | d :: r => uptoBulk d + uptoBulkAll r
def uptoBulkEntries {H : Type} : List (Lit × DataW H) → Nat
  | [] => 0
  | x :: r => uptoBulkEntry x + uptoBulkEntries r
def uptoBulkEntry {H : Type} : Lit × DataW H → Nat
  | (.string bytes, d) => bytes.length + uptoBulk d + 1
  | (_, d) => uptoBulk d + 1
 end
def uptoSmall : (H : Type) → List (DataW H) → Bool := fun _ ds => decide (uptoBulkAll ds ≤ 1048576)
def OpenSpec.upto (s : _root_.Go.ChangeSpec) : _root_.Go.OpenSpec := { _root_.Go.OpenSpec.ofChange s with cond := some uptoSmall }

/-- 'baudotlaw06.StoreLoaded', WHERE WHAT IT READS IS OF BULK AT MOST 1048576: true; the input reads as it did. -/
def storeLoadedUptoRow : OpenClaim := { program := "ytdjnkplgllakcaagreatdoor", sum := "cde9b3d6115328450052842d7ffc3e2d52b33ded62515c5b5b9b55e40eb90d70", func := "baudot/baudotlaw06.StoreLoaded", spec := "storeLoaded", unfollowed := true, recurses := true, named := ["baudot/store.kinds"], plainKeys := false, leaving := true, apart := false, laid := [("baudot/store.kinds", laid_baudot_store_kinds)], narrowed := true }
def StoreLoadedUptoSaid : Prop := storeLoadedUptoRow.holds Tryz.pinned (OpenSpec.upto storeLoadedSpec)

end Rows
end Go.Proofs.YtdjnkplgllakcaaGreatDoor
