/- Leads to the Store laws of chapter 6: V4. -/
import Derived.Test.YtfggbepickdokaaGreatDoorT33
import Derived.Test.YtfggbepickdokaaGreatDoorT34
set_option maxHeartbeats 200000
set_option maxRecDepth 100000
set_option linter.all false
namespace Go.Proofs.YtfggbepickdokaaGreatDoor
open Go.RowKit Go.Maps Sp
section
variable {vr vg vm vs vc:Value} {w:World}
theorem exHist (hB:BookAt w exB vr vg vm vs vc) (hK:KindsAt w):Calls Tryz.prog 25 #[.agg #[vr,vg,vm,vs,vc]] w fun e w'=>e=.returned (.tuple #[.int .i64 3,.int .i64 0])∧Below w.heap.size w w':=by
 have h:=histories_at hB ex_names hK
 rw [ex_al,if_pos rfl,ex_pasts] at h
 exact h
def IntsRet (w:World) (l:List Int) (e:Ending) (w':World):Prop:=∃ a c,e=.returned (.tuple #[.slice a l.length c,.int .i64 0])∧IntsAt w' a l∧Below w.heap.size w w'
theorem exThrough (hB:BookAt w exB vr vg vm vs vc) (hK:KindsAt w):Calls Tryz.prog 27 #[.agg #[vr,vg,vm,vs,vc],.int .i64 0] w (IntsRet w [0,1,2]):=by
 have h:=through_ok hB ex_names hK 0 ex_throughAl
 rw [ex_through] at h
 exact h
theorem exCame00 (hB:BookAt w exB vr vg vm vs vc) (hK:KindsAt w):Calls Tryz.prog 41 #[.agg #[vr,vg,vm,vs,vc],.int .i64 0,.int .i64 0] w fun e w'=>e=.returned (.tuple #[.int .i64 0,.int .i64 0])∧Below w.heap.size w w':=by
 have h:=came_ok hB ex_names hK 0 0 ex_group00
 rw [ex_came00] at h
 exact h
theorem exCame11 (hB:BookAt w exB vr vg vm vs vc) (hK:KindsAt w):Calls Tryz.prog 41 #[.agg #[vr,vg,vm,vs,vc],.int .i64 1,.int .i64 1] w fun e w'=>e=.returned (.tuple #[.int .i64 1,.int .i64 0])∧Below w.heap.size w w':=by
 have h:=came_ok hB ex_names hK 1 1 ex_group11
 rw [ex_came11] at h
 exact h
theorem exCopies (hB:BookAt w exB vr vg vm vs vc) (hK:KindsAt w):Calls Tryz.prog 42 #[.agg #[vr,vg,vm,vs,vc],.int .i64 1,.int .i64 0] w fun e w'=>e=.returned (.tuple #[.agg #[.int .i64 1,.int .i64 1],.int .i64 0])∧Below w.heap.size w w':=by
 have h:=copies_api_ok hB ex_names hK 1 0 ex_group10
 rw [ex_lo,ex_hi] at h
 exact h
theorem exDelivered (hB:BookAt w exB vr vg vm vs vc) (hK:KindsAt w):Calls Tryz.prog 29 #[.agg #[vr,vg,vm,vs,vc]] w (IntsRet w [0,2]):=by
 have h:=delivered_ok hB ex_names hK ex_open
 rw [ex_deliv] at h
 exact h
theorem exMissing (hB:BookAt w exB vr vg vm vs vc) (hK:KindsAt w):Calls Tryz.prog 28 #[.agg #[vr,vg,vm,vs,vc]] w (PartsRet w [(0,0),(0,1),(1,2)]):=by
 have h:=missingApi_ok hB ex_names hK ex_open
 rw [ex_miss] at h
 exact h
theorem exAsk (hB:BookAt w exB vr vg vm vs vc) (hK:KindsAt w) (c:Frame) (cs:List Frame) :
 Mt.Leads Tryz.prog (fun fr' cs' w1=>fr'=c.finish (.tuple #[.int .i64 0,.int .i64 1,.int .i64 0])∧cs'=cs∧Old w w1) (Frame.enter Tryz.prog 36 #[.agg #[vr,vg,vm,vs,vc]] .normal) (c::cs) w:=by
 have h:=ask_co hB ex_names hK ex_open (by decide) c cs
 rw [ex_ask] at h
 exact h
theorem exPack13 (hB:BookAt w exB vr vg vm vs vc) (hK:KindsAt w):Calls Tryz.prog 9 #[.agg #[vr,vg,vm,vs,vc],.int .i64 13] w fun e w'=>∃ a c,e=.returned (.tuple #[.slice a 2 c,.bool true,.int .i64 0])∧IntsAt w' a [1,0]∧Below w.heap.size w w':=by
 have h:=pack_ok hB ex_names hK 13 (by decide) (by rw [show timedAsk 13=0 by decide];exact ex_open)
 rw [ex_pack13] at h
 exact h
theorem exPack15 (hB:BookAt w exB vr vg vm vs vc) (hK:KindsAt w):Calls Tryz.prog 9 #[.agg #[vr,vg,vm,vs,vc],.int .i64 15] w fun e w'=>∃ a c,e=.returned (.tuple #[.slice a 0 c,.bool false,.int .i64 0])∧Below w.heap.size w w':=by
 have h:=pack_ok hB ex_names hK 15 (by decide) (by rw [show timedAsk 15=0 by decide];exact ex_open)
 rw [ex_pack15] at h
 exact h.mono fun e w' ⟨a,c,h1,_,h3⟩=>⟨a,c,h1,h3⟩
theorem exTimes (hB:BookAt w exB vr vg vm vs vc) (hK:KindsAt w) {pa:Option Addr} {pc:Nat} (hP:IntsAt w pa [1,0]):Calls Tryz.prog 12 #[.agg #[vr,vg,vm,vs,vc],.slice pa 2 pc,.int .i64 13] w (IntsRet w [19,26]):=by
 have h:=times_ok (pc:=pc) (pn:=2) hB ex_names hK rfl hP 13 (by rw [show planAsk exB.ms.length [(1:Int),0].length 13=0 by decide];exact ex_open) ex_plan
 rw [ex_ends] at h
 exact h
theorem exLatest (hB:BookAt w exB vr vg vm vs vc) (hK:KindsAt w):Calls Tryz.prog 19 #[.agg #[vr,vg,vm,vs,vc]] w fun e w'=>e=.returned (.tuple #[.int .i64 14,.bool true,.int .i64 0])∧Below w.heap.size w w':=by
 have h:=latest_ok hB ex_names hK ex_open
 rw [ex_latest] at h
 exact h
theorem exPunch (hB:BookAt w exB vr vg vm vs vc) (hK:KindsAt w) {pa:Option Addr} {pc:Nat} (hP:IntsAt w pa [1,0]):Calls Tryz.prog 16 #[.agg #[vr,vg,vm,vs,vc],.slice pa 2 pc,.int .i64 1] w (PunchRow w [(0,0),(0,1)]):=by
 have h:=punch_ok (pc:=pc) (pn:=2) hB ex_names hK rfl hP 1 (by rw [show planAsk exB.ms.length [(1:Int),0].length 0=0 by decide];exact ex_open) ex_plan (by decide) (by rw [ex_punch];decide)
 rw [ex_punch] at h
 exact h
theorem exClash (hB:BookAt w exC vr vg vm vs vc) (hK:KindsAt w):Calls Tryz.prog 34 #[.agg #[vr,vg,vm,vs,vc]] w (IntsRet w [0,3]):=by
 have h:=clash_ok hB ec_names hK ec_al ec_pasts (by decide)
 rw [ec_clash] at h
 exact h
end
end Go.Proofs.YtfggbepickdokaaGreatDoor
