/- the fault laws -/
import Derived.Test.YtgkajecjbflbbaaGreatDoorGB02
set_option maxHeartbeats 200000
set_option maxRecDepth 100000
set_option linter.all false
namespace Go.Proofs.YtgkajecjbflbbaaGreatDoor.Mt
open Go Go.Conc
section
variable {P:Program} {B:Nat->Bool}
def noBad:Nat->Bool:=fun _=>false
theorem muteP_id (P:Program):muteP noBad P=P:=by
 have h:P.funcs.mapIdx (fun i fn=>if noBad i then ({ fn with name := "",origin := "",body:=none }:Func) else fn)=P.funcs:=by
  apply Array.ext_getElem?;intro i;rw [Array.getElem?_mapIdx];cases P.funcs[i]? <;> simp [noBad]
 unfold muteP;rw [h]
theorem opOk_mute (o:Op):opOk (muteP B P) o=opOk P o:=by cases o <;> rfl
theorem codeOk_mute (c:Code):codeOk (muteP B P) c=codeOk P c:=by
 induction c <;> simp_all [codeOk,opOk_mute]
theorem ProgOk.mute (h:ProgOk P B):ProgOk (muteP B P) noBad:=by
 have key:∀ (f:Nat) (fn:Func),(muteP B P).funcs[f]? = some fn->(B f=false/\P.funcs[f]? = some fn)\/∃ fn0:Func,fn={ fn0 with name := "",origin := "",body:=none }:=fun f fn hf=>by
  cases hB:B f with
  | false=>rw [muteP_good hB] at hf;exact .inl ⟨rfl,hf⟩
  | true =>
   cases h0:P.funcs[f]? with
   | none =>
    have e:(muteP B P).funcs[f]? = none:=by
     show (P.funcs.mapIdx _)[f]? = none;rw [Array.getElem?_mapIdx,h0];rfl
    rw [e] at hf;cases hf
   | some fn0=>rw [muteP_bad hB h0] at hf;cases hf;exact .inr ⟨fn0,rfl⟩
 refine ⟨fun f fn _ hf c hc=>?_,fun f fn _ hf=>?_⟩
 ·rcases key f fn hf with ⟨hB,h0⟩ | ⟨fn0,rfl⟩
  ·rw [codeOk_mute];exact h.code f fn hB h0 c hc
  ·cases hc
 ·rcases key f fn hf with ⟨hB,h0⟩ | ⟨fn0,rfl⟩
  ·exact h.outer f fn hB h0
  ·exact ⟨bad_name,fun _=>⟨bad_next fn0,fun e he=>by rw [bad_find] at he;cases he⟩⟩
end
set_option linter.unusedSimpArgs false
def Single (g:Goroutine) (w:World):Machine:={ world:=w,gs:=#[g],rest:={ timers:=#[],alone:=none,slice:=none } }
theorem lone_single (fr:Frame) (cs:List Frame) (w:World):lone fr cs w=Single (G fr cs) w:=rfl
def Lost (m:Machine):Prop:=1 < m.gs.size\/∃ g w,m=Single g w/\(g.status=.blocked\/Fatally g)
section
variable {P P0:Program} {B0:Nat->Bool}
theorem step_blocked {g:Goroutine} {w:World} (h:g.status=.blocked):∃ o w',step P (Single g w)=.ended o w':=by
 have hm:∃ o w',move P (Single g w)=.machine (.ended o w') #[]:=by
  simp [move,ask,askOn,Single,runnable_eq,due,ahead,Goroutine.canRun,List.range_succ,h,pure,Sem.run];split <;> exact ⟨_,_,rfl⟩
 obtain ⟨o,w',hm⟩:=hm;exact ⟨o,w',by rw [step,stepT,hm]⟩
theorem move_single {g:Goroutine} {w:World} (h:g.status=.running):move P (Single g w)=.goroutine (Single g w) 0:=by
 simp [move,ask,askOn,Single,runnable_eq,due,ahead,Goroutine.canRun,List.range_succ,choose,pure,Sem.run,Question.forced,h]
theorem runT_single {g:Goroutine} {w:World}:runT P (Single g w) 0=match stepG P true g w with
 | .ended o w e=>(.ended o w,MemOp.ofEvents 0 g.frame.fn g.frame.place e)
 | .go g' w' e=>(.next (Single g' w'),MemOp.ofEvents 0 g.frame.fn g.frame.place e)
 | _=>runT P (Single g w) 0:=by
 cases hs:stepG P true g w <;> simp [runT,Single,Array.swapAt!,hs,GStep.es]
theorem fatal_step {g:Goroutine} {w:World} (h:Fatally g) (hr:g.status=.running):(∃ g' w',step P (Single g w)=.next (Single g' w')/\Fatally g')\/∃ o w',step P (Single g w)=.ended o w':=by
 obtain ⟨_,d,hd,hc,hf⟩:=h;obtain ⟨fr,cs,st,dy,off⟩:=g;simp only at hr hd;subst hr hd;obtain ⟨f,hf'⟩:=Option.isSome_iff_exists.1 hf;have key:(∃ g' w' e,stepG P true { frame:=fr,callers:=cs,status:=.running,dying:=some d,offers:=off } w=.go g' w' e/\Fatally g')\/∃ o w' e,stepG P true { frame:=fr,callers:=cs,status:=.running,dying:=some d,offers:=off } w=.ended o w' e:=by
  obtain ⟨todo,texts,calling,pending,re,hand,fatal⟩:=d;simp only at hc hf';subst hc hf';simp only [stepG,die,writeOn];split
  ·exact .inr ⟨_,_,_,rfl⟩
  ·split
   ·exact .inl ⟨_,_,_,rfl,.inl rfl,_,rfl,rfl,rfl⟩
   ·exact .inl ⟨_,_,_,rfl,.inr rfl,_,rfl,rfl,rfl⟩
   ·exact .inr ⟨_,_,_,rfl⟩
   ·exact .inr ⟨_,_,_,rfl⟩
 rcases key with ⟨g',w',e,hs,hg⟩ | ⟨o,w',e,hs⟩
 ·exact .inl ⟨g',w',by rw [step,stepT,move_single rfl];simp only [runT_single,hs],hg⟩
 ·exact .inr ⟨o,w',by rw [step,stepT,move_single rfl];simp only [runT_single,hs]⟩
theorem lost_step {m m':Machine} (h:Lost m) (hs:step P m=.next m'):Lost m':=by
 rcases h with h | ⟨g,w,rfl,h⟩
 ·exact .inl (Nat.lt_of_lt_of_le h (stepT_size P m m' true hs))
 ·have blk:g.status=.blocked->Lost m':=fun hb=>by
   obtain ⟨o,w',he⟩:=step_blocked (P:=P) (w:=w) hb;rw [he] at hs;cases hs
  rcases h with h | h
  ·exact blk h
  ·rcases h.1 with hr | hb
   ·rcases fatal_step (P:=P) (w:=w) h hr with ⟨g',w',he,hg⟩ | ⟨o,w',he⟩
    ·rw [he] at hs;cases hs;exact .inr ⟨g',w',rfl,.inr hg⟩
    ·rw [he] at hs;cases hs
   ·exact blk hb
theorem lost_never {m:Machine} (h:Lost m):∀ (n:Nat) (fr:Frame) (cs:List Frame) (w:World),runN P n m≠.next (lone fr cs w):=by
 intro n
 induction n generalizing m with
 | zero =>
  intro fr cs w e;cases e;rcases h with h | ⟨g,w2,e,h⟩
  ·simp [lone] at h
  ·have e1:g=G fr cs:=by
    have:=congrArg Machine.gs e;simp only [lone,Single] at this;exact (Array.singleton_inj.1 this).symm
   subst e1;rcases h with h | ⟨_,d,hd,_⟩
   ·cases h
   ·cases hd
 | succ n ih =>
  intro fr cs w e
  cases hs:step P m with
  | next m1=>exact ih (lost_step h hs) fr cs w (by simpa only [runN,hs] using e)
  | ended o w1=>simp only [runN,hs] at e;cases e
theorem comm_lost {fr:Frame} {cs:List Frame} {w w1:World} {g1:Goroutine} {cases:Array CommCase} {sh:CommShape} {e:Array Event}
 (h:stepG P true (G fr cs) w=.comm g1 cases true sh w1 e) (hh:∀ (r:Nat) (o:Obj),w1.heap[r]? = some o->HeapOk P0 B0 o) :
 (∃ m1,step P (lone fr cs w)=.next m1/\Lost m1)\/∃ o w',step P (lone fr cs w)=.ended o w':=by
 have hways:∀ c:CommCase,ways w1 #[{ (default:Goroutine) with status:=.finished }] c=[]:=by
  intro c;unfold ways;split
  ·rename_i r _
   split
   ·rename_i cap buf closed _ _ _ v hc hs
    obtain ⟨h1,h2,h3⟩:=hh _ _ hc;subst h1 h2 h3;simp [partners]
   ·rename_i cap buf closed _ _ _ hc hs
    obtain ⟨h1,h2,h3⟩:=hh _ _ hc;subst h1 h2 h3;simp [partners]
   ·rfl
  ·rfl
 have hready:((cases.zipIdx.toList.map fun (c,k)=>(k,c,ways w1 #[{ (default:Goroutine) with status:=.finished }] c)).filter fun (_,_,ws)=>!ws.isEmpty)=[]:=by
  rw [List.filter_eq_nil_iff];intro x hx;obtain ⟨⟨c,k⟩,_,rfl⟩:=List.mem_map.1 hx;simp [hways]
 have key:(∃ g w2,(communicate P { timers:=#[],alone:=none,slice:=none } #[{ (default:Goroutine) with status:=.finished }] 0 g1 cases true sh w1).1=.next (Single g w2)/\g.status=.blocked)\/∃ o w',(communicate P { timers:=#[],alone:=none,slice:=none } #[{ (default:Goroutine) with status:=.finished }] 0 g1 cases true sh w1).1=.ended o w':=by
  unfold communicate;dsimp only;split
  ·exact .inr ⟨_,_,rfl⟩
  ·rw [hready];simp only [List.isEmpty_nil,if_true];split
   ·exact .inl ⟨{ g1 with status:=.blocked,offers:=some (cases,sh) },_,rfl,rfl⟩
   ·exact .inr ⟨_,_,rfl⟩
 have hst:step P (lone fr cs w)=(communicate P { timers:=#[],alone:=none,slice:=none } #[{ (default:Goroutine) with status:=.finished }] 0 g1 cases true sh w1).1:=by
  rw [step,stepT,lone_single,move_single rfl];simp [runT,Single,Array.swapAt!,h]
 rcases key with ⟨g,w2,e,hb⟩ | ⟨o,w2,e⟩
 ·exact .inl ⟨Single g w2,hst.trans e,.inr ⟨g,w2,rfl,.inl hb⟩⟩
 ·exact .inr ⟨o,w2,hst.trans e⟩
end
end Go.Proofs.YtgkajecjbflbbaaGreatDoor.Mt
namespace Go
def World.on (w:World) (t:Tape) (d:Nat):World:={ w with tape:=t,drawn:=d }
end Go
namespace Go.Proofs.YtgkajecjbflbbaaGreatDoor.Mt
open Go Go.Conc
def bottom:Frame:={ fn:=0,tmps:=#[],todo:=[.code (.refuse "")],defers:=[{ target:=.nil,args:=#[] }],mode:=.run,kind:=.normal }
def Like (P:Program) (B:Nat->Bool) (S:Mute) (w w':World):Prop:=Sim P B S ⟨0,w.tape,w'.tape,w.drawn,w'.drawn,fun _ _ h=>absurd h (Nat.not_lt_zero _)⟩ w w'
theorem Sim.like {P:Program} {B:Nat->Bool} {S:Mute} {c:Cast} {w w':World} (h:Sim P B S c w w'):Like P B S w w':=⟨⟨rfl,rfl,0,rfl,rfl⟩,h.os,h.output,h.size,h.block,h.mute,h.heapOk⟩
theorem Like.sim {P:Program} {B:Nat->Bool} {S:Mute} {w w':World} (h:Like P B S w w') (c:Cast):Sim P B S c (w.on c.t c.d) (w'.on c.t' c.d'):=⟨⟨rfl,rfl,0,rfl,rfl⟩,h.os,h.output,h.size,h.block,h.mute,h.heapOk⟩
def Whole (P:Program) (B:Nat->Bool) (w:World):Prop:=∀ (r:Nat) (o:Obj),w.heap[r]? = some o->HeapOk P B o
theorem Whole.like {P:Program} {B:Nat->Bool} {w:World} (h:Whole P B w):Like P B Mute.no w w:=⟨⟨rfl,rfl,0,rfl,rfl⟩,rfl,rfl,rfl,fun _ _=>rfl,fun _ x=>x.elim,h⟩
section
variable {P:Program} {B:Nat->Bool}
theorem HeapOk.mute {o:Obj} (h:HeapOk P B o):HeapOk (muteP B P) noBad o:=by
 cases o with
 | loop l=>obtain ⟨h1,h2,h3,_⟩:=h;exact ⟨by rw [codeOk_mute];exact h1,by rw [codeOk_mute];exact h2,fun c hc=>by rw [codeOk_mute];exact h3 c hc,rfl⟩
 | _=>exact h
theorem Whole.mute {w:World} (h:Whole P B w):Whole (muteP B P) noBad w:=fun r o ho=>(h r o ho).mute
theorem FrameOk.mute {fr:Frame} (h:FrameOk P B fr):FrameOk (muteP B P) noBad fr:=by
 refine ⟨fun it hit=>?_,h.kind,h.defers,rfl⟩;have:=h.todo it hit
 cases it with
 | code c=>show codeOk _ c=true;rw [codeOk_mute];exact this
 | inRegion ops l=>exact fun o ho=>by rw [opOk_mute];exact this o ho
 | inLoop c=>show codeOk _ c=true;rw [codeOk_mute];exact this
 | inScope c=>show codeOk _ c=true;rw [codeOk_mute];exact this
 | _=>exact this
theorem StackOk.mute {fr:Frame} {ex:List Frame} (h:StackOk P B fr ex):StackOk (muteP B P) noBad fr ex:=⟨h.top.mute,fun c hc=>(h.rest c hc).mute,h.busy,h.bot⟩
end
section
variable {P:Program} {B:Nat->Bool} {fr:Frame} {ex:List Frame} {w w':World} {seg:Bool}
theorem Gk_nil (fr:Frame) (cs:List Frame):∀ ex:List Frame,Gk [] fr ex cs=G fr (ex ++ cs):=fun ex=>by
 have h1:∀ l:List Frame,kOf [] l=[]:=fun l=>by cases l <;> rfl
 have h2:∀ l:List Frame,ups [] l=l:=fun l=>by
  induction l with
  | nil=>rfl
  | cons c l ih=>simp only [ups,h1,upF_nil,ih]
 unfold Gk;rw [h1,h2,upF_nil]
def At (seg:Bool) (fr:Frame):Prop:=match seg with
 | true=>fr.mode=.run/\fr.todo=[]
 | false=>fr.mode≠.run/\fr.defers=[]
theorem lone_next (hP:ProgOk P B) (hst:StackOk P B fr ex) (hd:¬ Door seg fr ex) (hw:Whole P B w') {n:Nat} {fr2:Frame} {w2:World}
 (h:runN (muteP B P) (n+1) (lone fr (ex ++ [bottom]) w')=.next (lone fr2 [bottom] w2)) :
 ∃ fr1 ex1 w1 es,stepG (muteP B P) true (G fr (ex ++ [bottom])) w'=.go (G fr1 (ex1 ++ [bottom])) w1 es/\StackOk P B fr1 ex1/\Whole P B w1/\runN (muteP B P) n (lone fr1 (ex1 ++ [bottom]) w1)=.next (lone fr2 [bottom] w2):=by
 have hm:=mirror_step (kb:=[]) (cs0:=[bottom]) (cs:=[bottom]) (c:=⟨(stepG (muteP B P) true (G fr (ex ++ [bottom])) w').world.drawn,w'.tape,w'.tape,w'.drawn,w'.drawn,fun _ _ _=>rfl⟩) hP hst (fun _=>rfl) hd (hw.like.sim _) (Nat.le_refl _);have never:∀ m1,step (muteP B P) (lone fr (ex ++ [bottom]) w')=.next m1->Lost m1->False:=fun m1 e hl=>by
  simp only [runN,e] at h;exact lost_never hl n _ _ _ h
 have nend:∀ o w3,step (muteP B P) (lone fr (ex ++ [bottom]) w')=.ended o w3->False:=fun o w3 e=>by
  simp only [runN,e] at h;cases h
 have hstep:step (muteP B P) (lone fr (ex ++ [bottom]) w')=(runT (muteP B P) (Single (G fr (ex ++ [bottom])) w') 0).1:=by
  rw [step,stepT,lone_single,move_single rfl]
 change Mirror P B _ _ _ _ _ _ (stepG (muteP B P) true (G fr (ex ++ [bottom])) w') _ at hm
 cases hs:stepG (muteP B P) true (G fr (ex ++ [bottom])) w' with
 | go g1 w1 es =>
  rw [hs] at hm;have hst1:step (muteP B P) (lone fr (ex ++ [bottom]) w')=.next (Single g1 w1):=by rw [hstep,runT_single,hs]
  rcases hm with hf | ⟨fr1,ex1,w1',e2,rfl,_,_,hsim,_,hst2⟩
  ·exact (never _ hst1 (.inr ⟨g1,w1,rfl,.inr hf⟩)).elim
  ·refine ⟨fr1,ex1,w1,es,rfl,hst2,hsim.heapOk,?_⟩;simp only [runN,hst1] at h;exact h
 | ended o w1 es=>exact (nend o w1 (by rw [hstep,runT_single,hs])).elim
 | comm g1 cases bl sh w1 es =>
  rw [hs] at hm;obtain ⟨hb,w2,hsim⟩:=hm;subst hb;rcases comm_lost (P:=muteP B P) hs hsim.heapOk with ⟨m1,e1,hl⟩ | ⟨o,w3,e1⟩
  ·exact (never _ e1 hl).elim
  ·exact (nend _ _ e1).elim
 | spawn g1 child w1 es =>
  refine (never _ (by rw [hstep];simp [runT,Single,Array.swapAt!,hs];rfl) (.inl ?_)).elim;simp
 | _=>rw [hs] at hm;exact hm.elim
theorem bottom_ends {b:Frame} (hb:b=bottom\/∃ ch,b=bottom.raise ch) {n:Nat} {fr2:Frame} {w1 w2:World}:runN (muteP B P) n (lone b [] w1)≠.next (lone fr2 [bottom] w2):=by
 cases n with
 | zero =>
  intro h;have:=congrArg (fun s=>match s with | .next m=>m.gs | .ended _ _=>#[]) h;simp [runN,lone] at this
 | succ n =>
  have hend:∃ o w3 e,stepG (muteP B P) true (G b []) w1=.ended o w3 e:=by
   rcases hb with rfl | ⟨ch,rfl⟩
   ·exact ⟨_,_,_,rfl⟩
   ·exact ⟨_,_,_,rfl⟩
  obtain ⟨o,w3,e,he⟩:=hend;have hs:step (muteP B P) (lone b [] w1)=.ended o w3:=by
   rw [step,stepT,lone_single,move_single rfl];simp only [runT_single,he]
  intro h;simp only [runN,hs] at h;cases h
theorem left_ends (hst:StackOk P B fr []) (hm:fr.mode≠.run) (hdf:fr.defers=[]) {n:Nat} {fr2:Frame} {w2:World}:runN (muteP B P) (n+1) (lone fr ([] ++ [bottom]) w')≠.next (lone fr2 [bottom] w2):=by
 have hcat:fr.catches (muteP B P)=false:=by
  have:=hst.top.todo;unfold Frame.catches;split
  ·rename_i heq;rw [heq] at this;exact (show False from this _ (List.mem_cons_self ..)).elim
  ·rfl
 have key:(∃ b w1 e,stepG (muteP B P) true (G fr ([] ++ [bottom])) w'=.go (G b []) w1 e/\(b=bottom\/∃ ch,b=bottom.raise ch))\/∃ o w1 e,stepG (muteP B P) true (G fr ([] ++ [bottom])) w'=.ended o w1 e:=by
  have hret:∀ v w1,doReturn (muteP B P) true fr ([] ++ [bottom]) none v w1=.go (G bottom []) w1:=fun v w1=>by
   simp only [doReturn,List.nil_append,hst.top.kind];rfl
  unfold stepG G;dsimp only
  cases hmd:fr.mode with
  | run=>exact (hm hmd).elim
  | panicking ch =>
   dsimp only;unfold unwind;rw [hdf];simp only [hmd,hcat,Bool.false_eq_true,if_false,List.nil_append];exact .inl ⟨_,_,_,rfl,.inr ⟨ch,rfl⟩⟩
  | returning =>
   dsimp only;unfold unwind;rw [hdf];simp only [hmd];split
   ·rw [hret];exact .inl ⟨_,_,_,rfl,.inl rfl⟩
   ·split
    ·rw [hret];exact .inl ⟨_,_,_,rfl,.inl rfl⟩
    ·exact .inr ⟨_,_,_,rfl⟩
    ·exact .inr ⟨_,_,_,rfl⟩
 intro h;rcases key with ⟨b,w1,e,hs,hb⟩ | ⟨o,w1,e,hs⟩
 ·have hs1:step (muteP B P) (lone fr ([] ++ [bottom]) w')=.next (lone b [] w1):=by
   rw [step,stepT,lone_single,move_single rfl];simp only [runT_single,hs];rfl
  simp only [runN,hs1] at h;exact bottom_ends hb h
 ·have hs1:step (muteP B P) (lone fr ([] ++ [bottom]) w')=.ended o w1:=by
   rw [step,stepT,lone_single,move_single rfl];simp only [runT_single,hs]
  simp only [runN,hs1] at h;cases h
theorem unwinding (hP:ProgOk P B):∀ (n:Nat) {fr fr2:Frame} {w w2:World},StackOk P B fr []->Whole P B w->fr.mode≠.run->fr2.mode=.run->runN (muteP B P) n (lone fr ([] ++ [bottom]) w)≠.next (lone fr2 [bottom] w2):=by
 intro n
 induction n with
 | zero =>
  intro fr fr2 w w2 hst hw hm hm2 h;have h1:(#[G fr ([] ++ [bottom])]:Array Goroutine)=#[G fr2 [bottom]]:=congrArg (fun s=>match s with | .next m=>m.gs | .ended _ _=>#[]) h;have h2:fr=fr2:=congrArg Goroutine.frame (Array.singleton_inj.1 h1);exact hm (h2 ▸ hm2)
 | succ n ih =>
  intro fr fr2 w w2 hst hw hm hm2 h;by_cases hdf:fr.defers=[]
  ·exact left_ends hst hm hdf h
  have hd:¬ Door false fr []:=fun hd=>by
   rcases hd.2 with h | h
   ·cases h.1
   ·exact hdf h.2
  obtain ⟨fr1,ex1,w1,es,hs,hst1,hw1,h1⟩:=lone_next hP hst hd hw h;have key:fr1.mode=fr.mode/\ex1=[]:=by
   obtain ⟨fn,tmps,td,dfs,md,kd,ro⟩:=fr
   cases dfs with
   | nil=>exact absurd rfl hdf
   | cons d ds =>
    obtain ⟨r,hr⟩:=hst.top.defers d (List.mem_cons_self ..);obtain ⟨t,a⟩:=d;simp only at hr;subst hr;have hu:stepG (muteP B P) true (G ⟨fn,tmps,td,⟨.collected r,a⟩::ds,md,kd,ro⟩ ([] ++ [bottom])) w=unwind (muteP B P) true ⟨fn,tmps,td,⟨.collected r,a⟩::ds,md,kd,ro⟩ ([] ++ [bottom]) none w:=by
     cases md with
     | run=>exact absurd rfl hm
     | _=>rfl
    rw [hu] at hs;unfold unwind at hs;simp only at hs;split at hs
    ·simp only [GStep.after] at hs;have e1:=(GStep.go.inj hs).1;have e2:_=fr1:=congrArg Goroutine.frame e1;have e3:[] ++ [bottom]=ex1 ++ [bottom]:=congrArg Goroutine.callers e1;exact ⟨by rw [<- e2],(List.append_cancel_right e3).symm⟩
    ·cases hs
  obtain ⟨k1,rfl⟩:=key;exact ih hst1 hw1 (by rw [k1];exact hm) hm2 h1
theorem door_ends (hP:ProgOk P B) (hst:StackOk P B fr ex) (hw:Whole P B w') (hd:Door seg fr ex) {n:Nat} {fr2:Frame} {w2:World} (ha:At seg fr2):runN (muteP B P) (n+1) (lone fr (ex ++ [bottom]) w')≠.next (lone fr2 [bottom] w2):=by
 obtain ⟨rfl,⟨rfl,hm,ht⟩ | ⟨hm,hdf⟩⟩:=hd
 ·have hro:fr.roundOf=none:=hst.bot;have hs:stepG (muteP B P) true (G fr ([] ++ [bottom])) w'=.go (G { fr with mode:=.returning } ([] ++ [bottom])) w':=by
   obtain ⟨fn,tmps,td,dfs,md,kd,ro⟩:=fr;simp only at hm ht hro;subst hm ht hro;rfl
  have hs1:step (muteP B P) (lone fr ([] ++ [bottom]) w')=.next (lone { fr with mode:=.returning } ([] ++ [bottom]) w'):=by
   rw [step,stepT,lone_single,move_single rfl];simp only [runT_single,hs];rfl
  intro h;simp only [runN,hs1] at h;exact unwinding hP n (fr:={ fr with mode:=.returning }) (hst.set ⟨hst.top.todo,hst.top.kind,hst.top.defers,hst.top.good⟩ rfl) hw (by simp) ha.1 h
 ·exact left_ends hst hm hdf
end
section
variable {P:Program} {B:Nat->Bool} {seg:Bool}
theorem lone_shift (hP:ProgOk P B) {fr fr1:Frame} {ex ex1:List Frame} {w wl:World} {t t2:Tape} {d d2:Nat} {es:Array Event} (hst:StackOk P B fr ex) (hd:¬ Door seg fr ex) (hw:Whole P B w)
 (h:stepG (muteP B P) true (G fr (ex ++ [bottom])) (w.on t d)=.go (G fr1 (ex1 ++ [bottom])) wl es) (ha:∀ j q,d+j < wl.drawn->t (d+j) q=t2 (d2+j) q) :
 ∃ es2,d<=wl.drawn/\wl.tape=t/\stepG (muteP B P) true (G fr (ex ++ [bottom])) (w.on t2 d2)=.go (G fr1 (ex1 ++ [bottom])) (wl.on t2 (d2+(wl.drawn - d))) es2:=by
 have hm:=mirror_step (P:=muteP B P) (B:=noBad) (kb:=[]) (cs0:=[bottom]) (cs:=[bottom]) (c:=⟨wl.drawn,t2,t,d2,d,fun j q hj=>ha j q hj⟩) hP.mute hst.mute (fun _=>rfl) hd (hw.mute.like.sim _) (Nat.le_of_eq (by rw [muteP_id];show (stepG (muteP B P) true (G fr (ex ++ [bottom])) (w.on t d)).world.drawn=_;rw [h];rfl));rw [Gk_nil,muteP_id] at hm;change Mirror (muteP B P) noBad _ _ _ _ _ _ (stepG (muteP B P) true (G fr (ex ++ [bottom])) (w.on t d)) (stepG (muteP B P) true (G fr (ex ++ [bottom])) (w.on t2 d2)) at hm;rw [h] at hm;rcases hm with ⟨_,y,hy,_⟩ | ⟨fr1',ex1',w1,e2,hg,h2,_,hsim,_,_⟩
 ·cases hy
 ·have e1:fr1=fr1':=congrArg Goroutine.frame hg;have e2':ex1 ++ [bottom]=ex1' ++ [bottom]:=congrArg Goroutine.callers hg;have e3:ex1=ex1':=List.append_cancel_right e2';subst e1 e3;obtain ⟨a1,a2,k,a3,a4⟩:=hsim.tape;simp only at a1 a2 a3 a4;refine ⟨e2,by omega,a2,?_⟩;rw [h2,Gk_nil];congr 1;obtain ⟨hp,tp,dr,os,out⟩:=w1;obtain ⟨hp',tp',dr',os',out'⟩:=wl;have b1:hp=hp':=by
   apply Array.ext_getElem?;intro i;exact (hsim.block i (fun x=>x)).symm
  have b2:os=os':=hsim.os.symm;have b3:out=out':=hsim.output.symm;simp only at a1 a2 a3 a4;subst b1 b2 b3 a1 a3;simp only [World.on,a4];congr 1;omega
end
section
variable {P:Program} {B:Nat->Bool} {seg:Bool}
theorem lone_inj {fr fr':Frame} {cs cs':List Frame} {w w':World} (h:lone fr cs w=lone fr' cs' w'):fr=fr'/\cs=cs'/\w=w':=by
 have h1:(#[G fr cs]:Array Goroutine)=#[G fr' cs']:=congrArg Machine.gs h;have h2:G fr cs=G fr' cs':=Array.singleton_inj.1 h1;exact ⟨congrArg Goroutine.frame h2,congrArg Goroutine.callers h2,congrArg Machine.world h⟩
theorem step_of_go {fr fr1:Frame} {cs cs1:List Frame} {w w1:World} {es:Array Event} (h:stepG P true (G fr cs) w=.go (G fr1 cs1) w1 es):step P (lone fr cs w)=.next (lone fr1 cs1 w1):=by
 rw [step,stepT,lone_single,move_single rfl];simp only [runT_single,h];rfl
theorem runN_end {m1 m2:Machine}:∀ {k:Nat} {m:Machine},runN P k m=.next m1->step P m1=.next m2->runN P (k+1) m=.next m2
 | 0,m,h,hs=>by cases h;simp only [runN,hs]
 | k+1,m,h,hs=>by
  simp only [runN] at h
  cases hm:step P m with
  | next m3 =>
   rw [hm] at h;have:=runN_end (k:=k) h hs;rw [runN,hm];exact this
  | ended o w=>rw [hm] at h;cases h
def LReach (P:Program) (seg:Bool) (fr:Frame) (ex:List Frame) (w:World) (Z:Frame->World->Prop):Prop :=
 ∃ n fr2 w2,runN P n (lone fr (ex ++ [bottom]) w)=.next (lone fr2 [bottom] w2)/\At seg fr2/\Z fr2 w2
theorem shift_reach (hP:ProgOk P B):∀ (n:Nat) {fr fr2:Frame} {ex:List Frame} {w w2:World} {t t2:Tape} {d d2:Nat},StackOk P B fr ex->Whole P B w->(∀ j q,t (d+j) q=t2 (d2+j) q) ->
 runN (muteP B P) n (lone fr (ex ++ [bottom]) (w.on t d))=.next (lone fr2 [bottom] w2)->At seg fr2->∃ d3,runN (muteP B P) n (lone fr (ex ++ [bottom]) (w.on t2 d2))=.next (lone fr2 [bottom] (w2.on t2 d3)):=by
 intro n
 induction n with
 | zero =>
  intro fr fr2 ex w w2 t t2 d d2 hst hw ha h hat;simp only [runN] at h;obtain ⟨rfl,h2,rfl⟩:=lone_inj (Stepped.next.inj h);exact ⟨d2,by simp only [runN,h2];rfl⟩
 | succ n ih =>
  intro fr fr2 ex w w2 t t2 d d2 hst hw ha h hat;by_cases hd:Door seg fr ex
  ·exact absurd h (door_ends hP hst (w':=w.on t d) hw hd hat)
  obtain ⟨fr1,ex1,wl,es,hs,hst1,hw1,h1⟩:=lone_next hP hst hd (w':=w.on t d) hw h;obtain ⟨es2,hle,htp,hs2⟩:=lone_shift hP hst hd hw hs fun j q _=>ha j q;have e1:wl=wl.on t (d+(wl.drawn - d)):=by
   have:d+(wl.drawn - d)=wl.drawn:=by omega
   rw [this];obtain ⟨hp,tp,dr,os,out⟩:=wl;simp only at htp;subst htp;rfl
  rw [e1] at h1;obtain ⟨d3,h3⟩:=ih (w:=wl) (t:=t) (t2:=t2) (d:=d+(wl.drawn - d)) (d2:=d2+(wl.drawn - d)) hst1 hw1 (fun j q=>by rw [Nat.add_assoc,Nat.add_assoc];exact ha _ q) h1 hat;exact ⟨d3,by simp only [runN,step_of_go hs2];exact h3⟩
inductive Bar (P:Program) (S:Nat->Prop) (seg:Bool) (kb:List Item) (cs:List Frame) (Z:Frame->World->Prop):Frame->List Frame->World->Prop
 | door {fr:Frame} {w:World} (hd:At seg fr) (hz:Z fr w):Bar P S seg kb cs Z fr [] w
 | step {fr:Frame} {ex:List Frame} {w:World} (F:Nat->Frame) (X:Nat->List Frame) (W:Nat->World) (V:Nat->Array Event)
  (hs:∀ d,stepG P true (Gk kb fr ex cs) (w.at d)=.go (Gk kb (F d) (X d) cs) (W d) (V d)/\(∀ e∈V d,EvOk S (W d).heap.size e)/\w.heap.size<=(W d).heap.size)
  (hb:∀ d,Bar P S seg kb cs Z (F d) (X d) (W d)):Bar P S seg kb cs Z fr ex w
structure Inv (P:Program) (B:Nat->Bool) (seg:Bool) (kb:List Item) (S:Mute) (cs:List Frame) (Z Z0:Frame->World->Prop) (s:Frame × List Frame × World × World):Prop where
 stack:StackOk P B s.1 s.2.1
 like:Like P B S s.2.2.1 s.2.2.2
 reach:∀ t,LReach (muteP B P) seg s.1 s.2.1 (s.2.2.2.on t 0) fun fr w=>∃ t d,Z0 fr (w.on t d)
 bar:¬ Bar P S seg kb cs Z s.1 s.2.1 s.2.2.1
def Linked (P:Program) (B:Nat->Bool) (s s1:Frame × List Frame × World × World) (t:Tape) (m:Nat):Prop :=
 ∀ (t2:Tape) (d2:Nat),(∀ j < m,∀ q,t2 (d2+j) q=t j q)->∃ es,stepG (muteP B P) true (G s.1 (s.2.1 ++ [bottom])) (s.2.2.2.on t2 d2)=.go (G s1.1 (s1.2.1 ++ [bottom])) (s1.2.2.2.on t2 (d2+m)) es
theorem door_of {fr:Frame} (h:At seg fr):(seg=true/\fr.mode=.run/\fr.todo=[])\/(fr.mode≠.run/\fr.defers=[]):=by
 cases seg with
 | true=>exact .inl ⟨rfl,h.1,h.2⟩
 | false=>exact .inr h
theorem path_step (hP:ProgOk P B) {kb:List Item} (hk:seg=false->kb=[]) {S:Mute} {cs:List Frame} {Z Z0:Frame->World->Prop} (hZ:∀ fr w w',Like P B S w w'->(∃ t d,Z0 fr (w'.on t d))->Z fr w) {s:Frame × List Frame × World × World} (h:Inv P B seg kb S cs Z Z0 s) :
 ¬ Door seg s.1 s.2.1/\∃ s1 t m,Inv P B seg kb S cs Z Z0 s1/\Linked P B s s1 t m:=by
 obtain ⟨fr,ex,w,w'⟩:=s;obtain ⟨hst,hl,hr,hb⟩:=h;simp only at hst hl hr hb;have hw:Whole P B w':=hl.heapOk;have hnd:¬ Door seg fr ex:=fun hd=>by
  obtain ⟨n,fr2,w2,hn,hd2,hz⟩:=hr w.tape
  cases n with
  | zero =>
   simp only [runN] at hn;obtain ⟨rfl,h2,rfl⟩:=lone_inj (Stepped.next.inj hn);obtain ⟨rfl,_⟩:=id hd;obtain ⟨t,d,hz⟩:=hz;exact hb (.door hd2 (hZ fr w w' hl ⟨t,d,hz⟩))
  | succ n=>exact door_ends hP hst (w':=w'.on w.tape 0) hw hd hd2 hn
 refine ⟨hnd,?_⟩;have hex:∃ d,¬ ∃ fr1 ex1 w1 es,stepG P true (Gk kb fr ex cs) (w.at d)=.go (Gk kb fr1 ex1 cs) w1 es/\(∀ e∈es,EvOk S w1.heap.size e)/\w.heap.size<=w1.heap.size/\Bar P S seg kb cs Z fr1 ex1 w1:=by
  apply Classical.byContradiction;intro hno;have hall:∀ d,∃ x:Frame × List Frame × World × Array Event,stepG P true (Gk kb fr ex cs) (w.at d)=.go (Gk kb x.1 x.2.1 cs) x.2.2.1 x.2.2.2/\(∀ e∈x.2.2.2,EvOk S x.2.2.1.heap.size e)/\w.heap.size<=x.2.2.1.heap.size/\Bar P S seg kb cs Z x.1 x.2.1 x.2.2.1:=fun d=>by
   have:=Classical.not_not.1 (not_exists.1 hno d);obtain ⟨fr1,ex1,w1,es,h⟩:=this;exact ⟨(fr1,ex1,w1,es),h⟩
  obtain ⟨f,hf⟩:=Classical.axiomOfChoice hall;exact hb (.step (fun d=>(f d).1) (fun d=>(f d).2.1) (fun d=>(f d).2.2.1) (fun d=>(f d).2.2.2) (fun d=>⟨(hf d).1,(hf d).2.1,(hf d).2.2.1⟩) fun d=>(hf d).2.2.2)
 obtain ⟨d,hd⟩:=hex;have first:∀ t,∃ n fr2 w2,runN (muteP B P) (n+1) (lone fr (ex ++ [bottom]) (w'.on t 0))=.next (lone fr2 [bottom] w2)/\At seg fr2/\∃ t d,Z0 fr2 (w2.on t d):=fun t=>by
  obtain ⟨n,fr2,w2,hn,hd2,hz⟩:=hr t
  cases n with
  | zero =>
   simp only [runN] at hn;obtain ⟨rfl,h2,rfl⟩:=lone_inj (Stepped.next.inj hn);have:ex=[]:=by
    cases ex with
    | nil=>rfl
    | cons a b=>simp at h2
   subst this;exact absurd ⟨rfl,door_of hd2⟩ hnd
  | succ n=>exact ⟨n,fr2,w2,hn,hd2,hz⟩
 obtain ⟨n,fr2,w2,hn,hd2,hz⟩:=first (fun j q=>w.tape (d+j) q)
 obtain ⟨fr1,ex1,wl,es,hs,hst1,hw1,h1⟩:=lone_next hP hst hnd (w':=w'.on (fun j q=>w.tape (d+j) q) 0) hw hn;have hm:=mirror_step (kb:=kb) (cs0:=[bottom]) (cs:=cs) (c:=⟨wl.drawn,w.tape,fun j q=>w.tape (d+j) q,d,0,fun j q _=>by simp⟩) hP hst hk hnd (hl.sim _) (Nat.le_of_eq (by show (stepG (muteP B P) true (G fr (ex ++ [bottom])) (w'.on (fun j q=>w.tape (d+j) q) 0)).world.drawn=_;rw [hs];rfl));change Mirror P B _ _ _ _ _ _ (stepG (muteP B P) true (G fr (ex ++ [bottom])) (w'.on (fun j q=>w.tape (d+j) q) 0)) (stepG P true (Gk kb fr ex cs) (w.on w.tape d)) at hm;rw [hs] at hm;rcases hm with ⟨_,y,hy,_⟩ | ⟨fr1',ex1',w1,es1,hg,hs1,hev,hsim,hle,_⟩
 ·cases hy
 have e1:fr1=fr1':=congrArg Goroutine.frame hg;have e3:ex1=ex1':=List.append_cancel_right (congrArg Goroutine.callers hg:ex1 ++ [bottom]=ex1' ++ [bottom]);subst e1 e3;have link:Linked P B (fr,ex,w,w') (fr1,ex1,w1,wl) (fun j q=>w.tape (d+j) q) wl.drawn:=fun t2 d2 ha=>by
  obtain ⟨es2,_,_,hs2⟩:=lone_shift hP hst hnd hw hs (t2:=t2) (d2:=d2) fun j q hj=>by
   have:=ha j (by omega) q;simp only [Nat.zero_add];exact this.symm
  exact ⟨es2,by simpa using hs2⟩
 refine ⟨(fr1,ex1,w1,wl),_,wl.drawn,⟨hst1,hsim.like,fun τ=>?_,fun hbar=>hd ⟨fr1,ex1,w1,es1,hs1,hev,hle,hbar⟩⟩,link⟩;obtain ⟨n',fr3,w3,hn',hd3,hz3⟩:=first (fun i q=>if i < wl.drawn then w.tape (d+i) q else τ (i - wl.drawn) q)
 obtain ⟨es3,hs3⟩:=link (fun i q=>if i < wl.drawn then w.tape (d+i) q else τ (i - wl.drawn) q) 0 fun j hj q=>by simp [hj]
 rw [runN,step_of_go hs3] at hn';simp only at hn';obtain ⟨d3,h3⟩:=shift_reach hP n' (w:=wl) (t2:=τ) (d2:=0) hst1 hw1 (fun j q=>by
  have:¬ (0+wl.drawn+j < wl.drawn):=by omega
  simp only [this,if_false]
  congr 1
  omega) hn' hd3
 obtain ⟨t4,d4,hz4⟩:=hz3;exact ⟨n',fr3,w3.on τ d3,h3,hd3,t4,d4,hz4⟩
open Classical in
theorem bar_of_reach (hP:ProgOk P B) {kb:List Item} (hk:seg=false->kb=[]) {S:Mute} {cs:List Frame} {Z Z0:Frame->World->Prop} (hZ:∀ fr w w',Like P B S w w'->(∃ t d,Z0 fr (w'.on t d))->Z fr w)
 {fr:Frame} {ex:List Frame} {w w':World} (hst:StackOk P B fr ex) (hl:Like P B S w w') (hr:∀ t,LReach (muteP B P) seg fr ex (w'.on t 0) Z0):Bar P S seg kb cs Z fr ex w:=by
 apply Classical.byContradiction;intro hb
 let St:={ s:Frame × List Frame × World × World // Inv P B seg kb S cs Z Z0 s }
 have h0:Inv P B seg kb S cs Z Z0 (fr,ex,w,w'):=⟨hst,hl,fun t=>by
  obtain ⟨n,fr2,w2,a,b,c⟩:=hr t
  exact ⟨n,fr2,w2,a,b,w2.tape,w2.drawn,c⟩,hb⟩
 have hall:∀ s:St,∃ y:St × Tape × Nat,Linked P B s.1 y.1.1 y.2.1 y.2.2:=fun s=>by
  obtain ⟨_,s1,t,m,h1,h2⟩:=path_step hP hk hZ s.2;exact ⟨(⟨s1,h1⟩,t,m),h2⟩
 obtain ⟨f,hf⟩:=Classical.axiomOfChoice hall
 let seq:Nat->St:=fun k=>Nat.rec ⟨_,h0⟩ (fun _ s=>(f s).1) k
 let M:Nat->Nat:=fun k=>(f (seq k)).2.2
 let E:Nat->Nat:=fun k=>Nat.rec 0 (fun i e=>e+M i) k
 have hE:∀ k,E (k+1)=E k+M k:=fun k=>rfl;have hmono:∀ k l,k<=l->E k<=E l:=fun k l h=>by
  induction l with
  | zero=>obtain rfl:k=0:=by omega
          exact Nat.le_refl _
  | succ l ih =>
   rcases Nat.lt_or_ge l k with hlt | hge
   ·obtain rfl:k=l+1:=by omega
    exact Nat.le_refl _
   ·rw [hE];exact Nat.le_trans (ih hge) (Nat.le_add_right _ _)
 let τ:Tape:=fun n q=>if h:∃ k,E k<=n/\n < E (k+1) then (f (seq (Classical.choose h))).2.1 (n - E (Classical.choose h)) q else 0
 have hτ:∀ k j q,j < M k->τ (E k+j) q=(f (seq k)).2.1 j q:=fun k j q hj=>by
  have hk:∃ k',E k'<=E k+j/\E k+j < E (k'+1):=⟨k,by omega,by rw [hE];omega⟩;have hs:=Classical.choose_spec hk;have hu:Classical.choose hk=k:=by
   rcases Nat.lt_trichotomy (Classical.choose hk) k with h | h | h
   ·have:=hmono (Classical.choose hk+1) k h;omega
   ·exact h
   ·have:=hmono (k+1) (Classical.choose hk) h;rw [hE] at this;omega
  show (if h:∃ k',E k'<=E k+j/\E k+j < E (k'+1) then (f (seq (Classical.choose h))).2.1 (E k+j - E (Classical.choose h)) q else 0)=_;rw [dif_pos hk,hu,Nat.add_sub_cancel_left]
 have hrun:∀ k,runN (muteP B P) k (lone fr (ex ++ [bottom]) (w'.on τ 0))=.next (lone (seq k).1.1 ((seq k).1.2.1 ++ [bottom]) ((seq k).1.2.2.2.on τ (E k))):=fun k=>by
  induction k with
  | zero=>rfl
  | succ k ih =>
   obtain ⟨es,hs⟩:=hf (seq k) τ (E k) fun j hj q=>hτ k j q hj;exact runN_end ih (step_of_go hs)
 obtain ⟨n,fr2,w2,hn,hd2,_⟩:=hr τ;rw [hrun n] at hn;obtain ⟨h1,h2,_⟩:=lone_inj (Stepped.next.inj hn);have hnd:=(path_step hP hk hZ (seq n).2).1;apply hnd;have h3:(seq n).1.2.1=[]:=by
  cases hx:(seq n).1.2.1 with
  | nil=>rfl
  | cons a b=>rw [hx] at h2;simp at h2
 rw [h1,h3];exact ⟨rfl,door_of hd2⟩
end
end Go.Proofs.YtgkajecjbflbbaaGreatDoor.Mt
namespace Go.Proofs.YtgkajecjbflbbaaGreatDoor.Mt
open Go Go.Conc
open Go.ConcN (sumTo upd sumTo_upd upd_ne upd_same)
def shunD (D:Nat->Prop):Loc->Prop:=fun l=>∃ a,l=.cell a/\D a.block
structure Co (P:Program) (D:Nat->Prop) (gs:Array Goroutine) (w:World) (t:Trace) (q:Nat->Nat) (fr:Frame) (cs:List Frame):Prop where
 at0:gs[0]? = some (G fr cs)
 leav:Leavers P t gs q
 past:Past (shunD D) w.heap.size t
theorem EvOk.anti {S D:Nat->Prop} (hd:∀ r,D r->S r) {B:Nat} {e:Event} (h:EvOk S B e):EvOk D B e:=by
 unfold EvOk at *;split <;> simp_all;exact fun x=>h.2 (hd _ x)
theorem EvOk.evL {D:Nat->Prop} {B:Nat} {e:Event} (h:EvOk D B e):EvL (shunD D) B e:=by
 obtain ⟨loc,wr,sy⟩:=e;refine ⟨fun x hx hs=>?_,?_,?_,?_⟩
 ·obtain ⟨a,ha,hda⟩:=hs
  cases loc with
  | cell a' =>
   have hx:some (⟨.cell a',wr,if sy then .atomic else .plain⟩:Touch)=some x:=hx;cases hx;cases ha;exact absurd hda h.2
  | mark m=>rcases h with rfl | ⟨f,rfl⟩ <;> cases hx
  | obj r =>
   cases wr <;> cases sy <;> first | (cases hx;cases ha;done) | (cases hx;done)
  | _=>exact h.elim
 ·rintro rfl;rcases h with h | ⟨f,h⟩ <;> cases h
 ·rintro rfl;rcases h with h | ⟨f,h⟩ <;> cases h
 ·cases loc with
  | cell a=>exact h.1
  | obj r=>cases wr <;> cases sy <;> exact h
  | output=>exact h.elim
  | goroutines=>exact h.elim
  | mark m =>
   rcases h with rfl | ⟨f,rfl⟩
   ·trivial
   ·trivial
section
variable {P:Program} {D:Nat->Prop} {gs:Array Goroutine} {w:World} {t:Trace} {q:Nat->Nat} {fr:Frame} {cs:List Frame}
theorem Co.awake (h:Co P D gs w t q fr cs):∀ g∈gs,awake g:=by
 intro g hg;obtain ⟨i,hi,rfl⟩:=Array.mem_iff_getElem.1 hg;rcases Nat.eq_zero_or_pos i with rfl | hpos
 ·have:gs[0]=G fr cs:=by simpa [Array.getElem?_eq_getElem hi] using h.at0
  rw [this];exact awake_of (.inl rfl)
 ·exact awake_of ((h.leav.old i _ hpos (Array.getElem?_eq_getElem hi)).status.elim .inl fun x=>.inr (.inr x))
theorem Co.own (h:Co P D gs w t q fr cs) {fr1:Frame} {cs1:List Frame} {w1:World} {es:Array Event} (hev:∀ e∈es,EvOk D w1.heap.size e) (hle:w.heap.size<=w1.heap.size) :
 Co P D ((gs.map (woken P (G fr cs) (G fr1 cs1) w1)).setIfInBounds 0 (G fr1 cs1)) w1 (t ++ MemOp.ofEvents 0 (G fr cs).frame.fn (G fr cs).frame.place es) q fr1 cs1:=by
 have hlt:0 < gs.size:=(Array.getElem?_eq_some_iff.1 h.at0).1;refine ⟨by simp [hlt],⟨fun j x hj hx=>?_,fun j hj=>?_⟩,(h.past.mono hle).own fun e he=>(hev e he).evL⟩
 ·have hne:0≠j:=by omega
  rw [Array.getElem?_setIfInBounds_ne hne,Array.getElem?_map] at hx;obtain ⟨y,hy,rfl⟩:=Option.map_eq_some_iff.1 hx;have hq:=h.leav.old j y hj hy;rw [woken_quitsD hq,Deaf_other t (by omega) _ (fun op hop=>by obtain ⟨e,_,rfl⟩:=Go.Conc.mem_ofEvents hop;rfl)];exact hq
 ·rw [Deaf_other t (g':=0) (by simp at hj;omega) _ (fun op hop=>by obtain ⟨e,_,rfl⟩:=Go.Conc.mem_ofEvents hop;rfl)];exact h.leav.above j (by simpa using hj)
theorem Co.slip (h:Co P D gs w t q fr cs) {i:Nat} {g:Goroutine} {d:Nat} {sl:Option (Nat × Nat)} (hi:gs[i]? = some g) (hpos:0 < i) (hg:g.status=.running) :
 ∃ gs' t' q',runT P (crowd gs (w.at d) sl) i=(.next (crowd gs' (w.at d) sl),t')/\gs'.size=gs.size/\sumTo gs.size q' < sumTo gs.size q/\Co P D gs' (w.at d) (t ++ t') q' fr cs:=by
 have hq:=h.leav.old i g hpos hi;have hi0:(i == 0)=false:=by simp;omega
 have hlt:i < gs.size:=(Array.getElem?_eq_some_iff.1 hi).1
 cases hqi:q i with
 | zero=>rw [hqi] at hq;rw [hq.1] at hg;cases hg
 | succ k =>
  rw [hqi] at hq;rcases hq with ⟨hf,_⟩ | ⟨_,g',es,hm,hstp,hq'⟩
  ·rw [hf] at hg;cases hg
  have hrunT:=runT_crowd_go (P:=P) (sl:=sl) (i:=i) hi (by rw [hi0];exact hstp (w.at d));have hsum:sumTo gs.size (upd q i k)+(k+1)=sumTo gs.size q+k:=by
   have:=sumTo_upd q k id hlt;simpa [hqi] using this
  refine ⟨(gs.map (woken P g g' (w.at d))).setIfInBounds i g',MemOp.ofEvents i g.frame.fn g.frame.place es,upd q i k,hrunT,by simp,by omega,?_,⟨fun j x hj hx=>?_,fun j hj=>?_⟩,h.past.mute (by omega) hm⟩
  ·have hne:i≠0:=by omega
   rw [Array.getElem?_setIfInBounds_ne hne,Array.getElem?_map,h.at0];simp [woken_run (show (G fr cs).status=.running from rfl)]
  ·by_cases hji:i=j
   ·subst hji;rw [Array.getElem?_setIfInBounds_self_of_lt (by simpa using hlt)] at hx;obtain rfl:=Option.some.inj hx;rw [upd_same,Deaf_own];exact hq'
   ·rw [Array.getElem?_setIfInBounds_ne hji,Array.getElem?_map] at hx;obtain ⟨y,hy,rfl⟩:=Option.map_eq_some_iff.1 hx;have hqj:=h.leav.old j y hj hy;rw [woken_quitsD hqj,upd_ne q k (Ne.symm hji),Deaf_other t hji _ (fun op hop=>by obtain ⟨e,_,rfl⟩:=Go.Conc.mem_ofEvents hop;rfl)];exact hqj
  ·rw [Deaf_other t (g':=i) (by simp at hj;omega) _ (fun op hop=>by obtain ⟨e,_,rfl⟩:=Go.Conc.mem_ofEvents hop;rfl)];exact h.leav.above j (by simpa using hj)
def Grow (L:Nat) (D:Nat->Prop) (w:World) (D':Nat->Prop) (w':World):Prop:=w.heap.size<=w'.heap.size/\∀ r,D' r->D r\/L<=r
theorem Grow.refl (L:Nat) (D:Nat->Prop) (w:World):Grow L D w D w:=⟨Nat.le_refl _,fun _ h=>.inl h⟩
theorem Grow.trans {L:Nat} {D1 D2 D3:Nat->Prop} {w1 w2 w3:World} (h:Grow L D1 w1 D2 w2) (k:Grow L D2 w2 D3 w3):Grow L D1 w1 D3 w3 :=
 ⟨Nat.le_trans h.1 k.1,fun r hr=>(k.2 r hr).elim (h.2 r) .inr⟩
variable {L:Nat}
def LeadsR (P:Program) (L:Nat) (D:Nat->Prop) (K:(Nat->Prop)->Frame->List Frame->World->Prop) (fr:Frame) (cs:List Frame) (w:World):Prop :=
 ∀ gs sl t q,Co P D gs w t q fr cs->∃ N gs' w' sl' t' q' fr' cs' D',runNT P N (crowd gs w sl) t=(.next (crowd gs' w' sl'),t')/\Co P D' gs' w' t' q' fr' cs'/\Grow L D w D' w'/\K D' fr' cs' w'
theorem LeadsR.done {K:(Nat->Prop)->Frame->List Frame->World->Prop} (h:K D fr cs w):LeadsR P L D K fr cs w:=fun gs sl t q hc=>⟨0,gs,w,sl,t,q,fr,cs,D,rfl,hc,.refl L D w,h⟩
theorem runNT_trans {P:Program} {m1:Machine} {t1:Trace} {r:Stepped × Trace}:∀ {a b:Nat} {m:Machine} {t:Trace},runNT P a m t=(.next m1,t1)->runNT P b m1 t1=r->runNT P (a+b) m t=r
 | 0,b,m,t,h,h2=>by
  simp only [runNT] at h;cases h;rw [Nat.zero_add];exact h2
 | a+1,b,m,t,h,h2=>by
  rw [show a+1+b=(a+b)+1 by omega];simp only [runNT] at h ⊢
  cases hs:stepT P m with
  | mk s ops =>
   rw [hs] at h
   cases s with
   | next m2=>exact runNT_trans (a:=a) h h2
   | ended o w=>cases h
theorem LeadsR.trans {K K':(Nat->Prop)->Frame->List Frame->World->Prop} (h:LeadsR P L D K fr cs w) (hk:∀ D fr cs w',w.heap.size<=w'.heap.size->K D fr cs w'->LeadsR P L D K' fr cs w'):LeadsR P L D K' fr cs w:=fun gs sl t q hc=>by
 obtain ⟨N,gs',w',sl',t',q',fr',cs',D',h1,h2,g1,h3⟩:=h gs sl t q hc;obtain ⟨N2,gs2,w2,sl2,t2,q2,fr2,cs2,D2,h4,h5,g2,h6⟩:=hk D' fr' cs' w' g1.1 h3 gs' sl' t' q' h2;exact ⟨N+N2,gs2,w2,sl2,t2,q2,fr2,cs2,D2,runNT_trans h1 h4,h5,g1.trans g2,h6⟩
theorem LeadsR.mono {K K':(Nat->Prop)->Frame->List Frame->World->Prop} (h:LeadsR P L D K fr cs w) (hk:∀ D fr cs w,K D fr cs w->K' D fr cs w):LeadsR P L D K' fr cs w:=h.trans fun D fr cs w _ x=>.done (hk D fr cs w x)
theorem LeadsR.step {K:(Nat->Prop)->Frame->List Frame->World->Prop} (h:∀ d,∃ fr1 cs1 w1 es,stepG P true (G fr cs) (w.at d)=.go (G fr1 cs1) w1 es/\(∀ e∈es,EvOk D w1.heap.size e)/\w.heap.size<=w1.heap.size/\LeadsR P L D K fr1 cs1 w1):LeadsR P L D K fr cs w:=by
 have key:∀ M d gs sl t q,sumTo gs.size q<=M->Co P D gs (w.at d) t q fr cs->∃ N gs' w' sl' t' q' fr' cs' D',runNT P N (crowd gs (w.at d) sl) t=(.next (crowd gs' w' sl'),t')/\Co P D' gs' w' t' q' fr' cs'/\Grow L D w D' w'/\K D' fr' cs' w':=by
  intro M
  induction M with
  | zero =>
   intro d gs sl t q hM hc;obtain ⟨i,g,d',sl',hi,hg,hst⟩:=crowd_pick (P:=P) (w:=w.at d) (sl:=sl) hc.awake ⟨0,_,hc.at0,rfl⟩;rcases Nat.eq_zero_or_pos i with rfl | hpos
   ·obtain rfl:g=G fr cs:=by rw [hc.at0] at hi;exact (Option.some.inj hi).symm
    obtain ⟨fr1,cs1,w1,es,hs,hev,hle,hL⟩:=h d';have hrunT:=runT_crowd_go (P:=P) (sl:=sl') (i:=0) hi (show stepG P (0 == 0) (G fr cs) ((w.at d).at d')=_ from hs);have hc':=hc.own (fr1:=fr1) (cs1:=cs1) (w1:=w1) hev hle;obtain ⟨N,gs',w',sl2,t',q',fr',cs',D',h1,h2,g1,h3⟩:=hL _ sl' _ _ hc';exact ⟨N+1,gs',w',sl2,t',q',fr',cs',D',by simp only [runNT,hst,hrunT];exact h1,h2,Grow.trans ⟨hle,fun _ x=>.inl x⟩ g1,h3⟩
   ·obtain ⟨gs',t',q',_,_,hlt,_⟩:=hc.slip (d:=d') (sl:=sl') hi hpos hg;omega
  | succ M ih =>
   intro d gs sl t q hM hc;obtain ⟨i,g,d',sl',hi,hg,hst⟩:=crowd_pick (P:=P) (w:=w.at d) (sl:=sl) hc.awake ⟨0,_,hc.at0,rfl⟩;rcases Nat.eq_zero_or_pos i with rfl | hpos
   ·obtain rfl:g=G fr cs:=by rw [hc.at0] at hi;exact (Option.some.inj hi).symm
    obtain ⟨fr1,cs1,w1,es,hs,hev,hle,hL⟩:=h d';have hrunT:=runT_crowd_go (P:=P) (sl:=sl') (i:=0) hi (show stepG P (0 == 0) (G fr cs) ((w.at d).at d')=_ from hs);have hc':=hc.own (fr1:=fr1) (cs1:=cs1) (w1:=w1) hev hle;obtain ⟨N,gs',w',sl2,t',q',fr',cs',D',h1,h2,g1,h3⟩:=hL _ sl' _ _ hc';exact ⟨N+1,gs',w',sl2,t',q',fr',cs',D',by simp only [runNT,hst,hrunT];exact h1,h2,Grow.trans ⟨hle,fun _ x=>.inl x⟩ g1,h3⟩
   ·obtain ⟨gs',t',q',hr,hsz,hlt,hc'⟩:=hc.slip (d:=d') (sl:=sl') hi hpos hg;obtain ⟨N,gs2,w2,sl2,t2,q2,fr2,cs2,D2,h1,h2,g1,h3⟩:=ih d' gs' sl' (t ++ t') q' (by rw [hsz];omega) hc';have h1':runNT P N (crowd gs' ((w.at d).at d') sl') (t ++ t')=(.next (crowd gs2 w2 sl2),t2):=h1;exact ⟨N+1,gs2,w2,sl2,t2,q2,fr2,cs2,D2,by simp only [runNT,hst,hr];exact h1',h2,g1,h3⟩
 intro gs sl t q hc;exact key _ w.drawn gs sl t q (Nat.le_refl _) hc
theorem Bar.leadsR {S:Nat->Prop} {seg:Bool} {kb:List Item} {cs0:List Frame} {Z:Frame->World->Prop} {ex:List Frame} (hD:∀ r,D r->S r) (h:Bar P S seg kb cs0 Z fr ex w):LeadsR P L D (fun D' fr' cs' w'=>D'=D/\∃ fr2,fr'=upF kb fr2/\cs'=cs0/\At seg fr2/\Z fr2 w') (upF (kOf kb ex) fr) (ups kb ex ++ cs0) w:=by
 induction h with
 | @door fr w hd hz=>exact .done ⟨rfl,fr,rfl,rfl,hd,hz⟩
 | step F X W V hs hb ih=>exact .step fun d=>⟨_,_,W d,V d,(hs d).1,fun e he=>((hs d).2.1 e he).anti hD,(hs d).2.2,ih d⟩
end
def muteObj (o:Obj):Obj:=if bad o then .coro none else o
def muted (w:World):World:={ w with heap:=w.heap.map muteObj }
def muteOf (w:World):Mute:=⟨fun r=>∃ o,w.heap[r]? = some o/\bad o=true,fun r=>w.heap[r]?⟩
theorem muted_like (P:Program) (B:Nat->Bool) (w:World):Like P B (muteOf w) w (muted w):=by
 refine ⟨⟨rfl,rfl,0,rfl,rfl⟩,rfl,rfl,by simp [muted],fun r hr=>?_,fun r hr=>?_,fun r o ho=>?_⟩
 ·show (w.heap.map muteObj)[r]? = w.heap[r]?;rw [Array.getElem?_map]
  cases hc:w.heap[r]? with
  | none=>rfl
  | some o =>
   have:bad o=false:=by
    cases hb:bad o with
    | false=>rfl
    | true=>exact absurd ⟨o,hc,hb⟩ hr
   simp [muteObj,this]
 ·obtain ⟨o,ho,hb⟩:=hr;refine ⟨⟨o,ho,.inl hb,ho⟩,?_⟩;show (w.heap.map muteObj)[r]? = _;rw [Array.getElem?_map,ho];simp [muteObj,hb]
 ·have ho:(w.heap.map muteObj)[r]? = some o:=ho;rw [Array.getElem?_map] at ho;obtain ⟨o',ho',rfl⟩:=Option.map_eq_some_iff.1 ho;unfold muteObj;split
  ·trivial
  ·rename_i hb
   cases o' <;> first | trivial | exact absurd rfl hb
structure View (D:Nat->Prop) (w v:World):Prop where
 tape:v.tape=w.tape
 drawn:v.drawn=w.drawn
 os:v.os=w.os
 output:v.output=w.output
 size:v.heap.size=w.heap.size
 live:∀ r:Nat,¬ D r->v.heap[r]? = w.heap[r]?
 gone:∀ r:Nat,D r->(∃ o,w.heap[r]? = some o/\dead o=true)/\v.heap[r]? = some (.coro none)
open Classical in
noncomputable def viewOf (D:Nat->Prop) (w:World):World:={ w with heap:=w.heap.mapIdx fun r o=>if D r then .coro none else o }
section
variable {P:Program} {B:Nat->Bool} {D:Nat->Prop} {w v v' w1 v1':World} {S:Mute} {a:Addr} {x:Value}
theorem View.at (h:View D w v) (d:Nat):View D (w.at d) (v.at d):=⟨h.tape,rfl,h.os,h.output,h.size,h.live,h.gone⟩
theorem View.cell (h:View D w v) (hc:v.cell? a=some x):¬ D a.block/\w.cell? a=some x:=by
 have hn:¬ D a.block:=fun hd=>by
  have:=(h.gone _ hd).2;simp [World.cell?,this] at hc
 refine ⟨hn,?_⟩;rw [<- hc];simp only [World.cell?,h.live _ hn]
theorem View.self (w:World):View (fun _=>False) w w:=⟨rfl,rfl,rfl,rfl,rfl,fun _ _=>rfl,fun _ x=>x.elim⟩
def both (D:Nat->Prop) (S:Mute) (w:World):Mute:=⟨fun r=>D r\/S r,fun r=>w.heap[r]?⟩
theorem View.apart (h:View D w v) (hl:Like P B S v v') {r:Nat} (hs:S r):¬ D r:=fun hd=>by
 obtain ⟨⟨o,h1,h2,_⟩,_⟩:=hl.mute r hs;rw [(h.gone r hd).2] at h1;cases h1;rcases h2 with h2 | h2 <;> cases h2
theorem View.like (h:View D w v) (hl:Like P B S v v'):Like P B (both D S w) w v':=by
 refine ⟨⟨rfl,rfl,0,rfl,rfl⟩,hl.os.trans h.os,hl.output.trans h.output,hl.size.trans h.size,fun r hr=>?_,fun r hr=>?_,hl.heapOk⟩
 ·exact (hl.block r fun x=>hr (.inr x)).trans (h.live r fun x=>hr (.inl x))
 ·by_cases hd:D r
  ·obtain ⟨⟨o,h1,h2⟩,h3⟩:=h.gone r hd;have hs:¬ S r:=fun hs=>h.apart hl hs hd;exact ⟨⟨o,h1,.inr h2,h1⟩,(hl.block r hs).trans h3⟩
  ·obtain ⟨⟨o,h1,h2,_⟩,h3⟩:=hl.mute r (hr.resolve_left hd);rw [h.live r hd] at h1;exact ⟨⟨o,h1,h2,h1⟩,h3⟩
theorem View.back (h:View D w v) (hl:Like P B S v v') (h1:Like P B (both D S w) w1 v1'):∃ v1,View D w1 v1/\Like P B S v1 v1':=by
 have hget:∀ r:Nat,(viewOf D w1).heap[r]? = (w1.heap[r]?).map fun o=>@ite _ (D r) (Classical.propDecidable _) (.coro none) o:=fun r=>by
  show (w1.heap.mapIdx _)[r]? = _;rw [Array.getElem?_mapIdx]
 have hv:View D w1 (viewOf D w1):=by
  refine ⟨rfl,rfl,rfl,rfl,by simp [viewOf],fun r hr=>?_,fun r hr=>?_⟩
  ·rw [hget]
   cases w1.heap[r]? with
   | none=>rfl
   | some o=>simp [hr]
  ·obtain ⟨⟨o,h2,h3,h4⟩,h5⟩:=h1.mute r (.inl hr);obtain ⟨⟨o',h6,h7⟩,h8⟩:=h.gone r hr;have h4:w.heap[r]? = some o:=h4;rw [h6] at h4;cases h4;refine ⟨⟨_,h2,h7⟩,?_⟩;rw [hget,h2];simp [hr]
 refine ⟨_,hv,⟨rfl,rfl,0,rfl,rfl⟩,h1.os.trans hv.os.symm,h1.output.trans hv.output.symm,h1.size.trans hv.size.symm,fun r hr=>?_,fun r hr=>?_,h1.heapOk⟩
 ·by_cases hd:D r
  ·rw [(hv.gone r hd).2];exact (h1.mute r (.inl hd)).2
  ·rw [hv.live r hd];exact h1.block r fun x=>x.elim hd hr
 ·have hd:=h.apart hl hr;obtain ⟨⟨o,h2,h3,h4⟩,h5⟩:=h1.mute r (.inr hr);obtain ⟨⟨o',h6,_,h7⟩,_⟩:=hl.mute r hr;have h4:w.heap[r]? = some o:=h4;rw [h.live r hd,h4] at h6;cases h6;exact ⟨⟨_,(hv.live r hd).trans h2,h3,h7⟩,h5⟩
end
def LeadsL (P:Program) (L:Nat) (K:Frame->List Frame->World->Prop) (fr:Frame) (cs:List Frame) (v:World):Prop :=
 ∀ w D,View D w v->LeadsR P L D (fun D' fr' cs' w'=>∃ v',View D' w' v'/\K fr' cs' v') fr cs w
def Leads (P:Program) (K:Frame->List Frame->World->Prop) (fr:Frame) (cs:List Frame) (v:World):Prop:=∀ L,L<=v.heap.size->LeadsL P L K fr cs v
section
variable {P:Program} {fr:Frame} {cs:List Frame} {w:World} {K K':Frame->List Frame->World->Prop}
theorem Leads.done (h:K fr cs w):Leads P K fr cs w:=fun _ _ _ _ hv=>.done ⟨w,hv,h⟩
theorem LeadsL.done {L:Nat} (h:K fr cs w):LeadsL P L K fr cs w:=fun _ _ hv=>.done ⟨w,hv,h⟩
theorem LeadsL.trans {L:Nat} (h:LeadsL P L K fr cs w) (hk:∀ fr cs w',w.heap.size<=w'.heap.size->K fr cs w'->LeadsL P L K' fr cs w'):LeadsL P L K' fr cs w:=fun w0 D hv=>(h w0 D hv).trans fun D' fr' cs' w' hs ⟨v',hv',hK⟩=>hk _ _ _ (by rw [hv.size,hv'.size];exact hs) hK _ _ hv'
theorem Leads.trans (h:Leads P K fr cs w) (hk:∀ fr cs w,K fr cs w->Leads P K' fr cs w):Leads P K' fr cs w:=fun L hL=>(h L hL).trans fun _ _ _ hs hK=>hk _ _ _ hK L (Nat.le_trans hL hs)
theorem Leads.mono (h:Leads P K fr cs w) (hk:∀ fr cs w,K fr cs w->K' fr cs w):Leads P K' fr cs w:=h.trans fun fr cs w x=>.done (hk fr cs w x)
end
section
variable {P:Program} {B:Nat->Bool} {b:Frame} {a:Act} {w w':World} {k:List Item} {cs:List Frame} {S:Mute}
def MarksOnly (ds:List Deferred):Prop:=∀ d∈ds,∃ r,d.target=.collected r
theorem wp_leads (hP:ProgOk P B) {c:Code} (hl:Like P B S w w') (hc:codeOk P c=true) (hb:b.kind=.normal) (hg:B b.fn=false) (hd:MarksOnly a.defers) {Z:Act->World->Prop}
 (h:∀ t,c.wp (muteP B P) (fun e a' w2=>e=.normal/\∃ t d,Z a' (w2.on t d)) a (w'.on t 0)) :
 Leads P (fun fr' cs' w1=>∃ a' w1',fr'=b.at a' k/\cs'=cs/\Like P B S w1 w1'/\∃ t d,Z a' (w1'.on t d)) (b.at a (.code c::k)) cs w:=by
 intro L hL w0 D hv;have hst:StackOk P B (b.at a [.code c]) []:=⟨⟨fun it hit=>by
  simp only [Frame.at,List.mem_singleton] at hit
  subst hit
  exact hc,hb,hd,hg⟩,fun _ x=>(by cases x),fun _ x=>(by cases x),rfl⟩
 have hbar:=bar_of_reach (seg:=true) (kb:=k) (cs:=cs) (Z:=fun fr w1=>∃ a' w1',fr=b.at a' []/\Like P B (both D S w0) w1 w1'/\∃ t d,Z a' (w1'.on t d)) (Z0:=fun fr w2=>∃ a',fr=b.at a' []/\∃ t d,Z a' (w2.on t d)) hP (fun x=>by cases x)
  (fun fr w1 w1' hl1 ⟨t,d,a',e,t2,d2,hz⟩=>⟨a',w1',e,hl1,t2,d2,hz⟩) hst (hv.like hl) fun t=>by
    obtain ⟨e,a',w2,⟨rfl,hz⟩,n,hn⟩:=h t b [] [bottom];exact ⟨n,b.at a' [],w2,hn,⟨rfl,rfl⟩,a',rfl,hz⟩
 refine (hbar.leadsR (D:=D) fun r hr=>.inl hr).mono fun D' fr' cs' w1 ⟨hD,fr2,e1,e2,_,a',w1',e3,hl1,hz⟩=>?_;subst hD;obtain ⟨v1,hv1,hl2⟩:=hv.back hl hl1;refine ⟨v1,hv1,a',w1',?_,e2,hl2,hz⟩;rw [e1,e3];rfl
theorem mute_results {f:Nat} {fn:Func} (h:(muteP B P).funcs[f]? = some fn):∃ fn0,P.funcs[f]? = some fn0/\∀ tmps,results fn tmps=results fn0 tmps:=by
 have e:(muteP B P).funcs[f]? = (P.funcs[f]?).map fun fn=>if B f then { fn with name := "",origin := "",body:=none } else fn:=by
  show (P.funcs.mapIdx _)[f]? = _;rw [Array.getElem?_mapIdx]
 rw [e] at h;obtain ⟨fn0,h0,h1⟩:=Option.map_eq_some_iff.1 h;refine ⟨fn0,h0,fun tmps=>?_⟩;subst h1;split <;> rfl
theorem calls_leads (hP:ProgOk P B) {f:FuncId} (hB:B f=false) {args:Array Value} {c:Frame} (hl:Like P B S w w') {Z:Value->World->Prop}
 (h:∀ t,Calls (muteP B P) f args (w'.on t 0) fun e w2=>∃ v,e=.returned v/\∃ t d,Z v (w2.on t d)) :
 Leads P (fun fr' cs' w1=>∃ v w1',fr'=c.finish v/\cs'=cs/\Like P B S w1 w1'/\∃ t d,Z v (w1'.on t d)) (Frame.enter P f args .normal) (c::cs) w:=by
 intro L hL0 w0 D hv;have hst:StackOk P B (Frame.enter P f args .normal) []:=⟨enter_ok hP hB args,fun _ x=>(by cases x),fun _ x=>(by cases x),rfl⟩;have hbar:=bar_of_reach (seg:=false) (kb:=[]) (cs:=c::cs) (Z:=fun fr w1=>∃ v w1',Like P B (both D S w0) w1 w1'/\fr.kind=.normal/\fr.mode=.returning/\fr.defers=[]/\(∃ fn t d,(muteP B P).funcs[fr.fn]? = some fn/\(results fn fr.tmps).run (muteP B P) (w1'.on t d)=.ok v (w1'.on t d))/\∃ t d,Z v (w1'.on t d))
  (Z0:=fun fr w2=>∃ v,fr.kind=.normal/\fr.mode=.returning/\fr.defers=[]/\(∃ fn,(muteP B P).funcs[fr.fn]? = some fn/\∃ t d,(results fn fr.tmps).run (muteP B P) (w2.on t d)=.ok v (w2.on t d))/\∃ t d,Z v (w2.on t d)) hP (fun _=>rfl)
  (fun fr w1 w1' hl1 ⟨t,d,v,h1,h2,h3,⟨fn,h4,t4,d4,h5⟩,t2,d2,hz⟩=>⟨v,w1',hl1,h1,h2,h3,⟨fn,t4,d4,h4,h5⟩,t2,d2,hz⟩) hst (hv.like hl) fun t=>by
    obtain ⟨e,w2,fr2,⟨v,rfl,hz⟩,⟨n,hn⟩,_,h1,h2,h3,fn,h4,h5⟩:=h t [bottom];rw [enter_mute hB] at hn;exact ⟨n,fr2,w2,hn,(show fr2.mode≠.run/\fr2.defers=[] from ⟨by rw [h1];simp,h2⟩),v,h3,h1,h2,⟨fn,h4,w2.tape,w2.drawn,h5⟩,hz⟩
 have hL:=hbar.leadsR (L:=L) (D:=D) fun r hr=>.inl hr;simp only [kOf,ups,upF_nil,List.nil_append] at hL;refine hL.trans fun D' fr' cs' w1 _ ⟨hD,fr2,e1,e2,_,v,w1',hl1,hk,hm,hdf,⟨fn,t,d,hf,hr⟩,hz⟩=>?_;subst hD e1 e2;obtain ⟨fn0,hf0,hres⟩:=mute_results hf;refine .step fun d1=>?_;rcases sem_mirror (φ:=fun _=>True) tm_results (hl1.sim ⟨d,w1.tape,t,d1,d,fun j q hj=>by omega⟩) (by rw [Sem.runT_fst,hr];exact Nat.le_refl _) with ⟨v',w2,w2',evs,q1,q2,hev,hsim,hle,_⟩ | ⟨v',w2,w2',evs,q1,_⟩ | ⟨x,w2',q1,_⟩
 ·rw [Sem.runT_fst,hr] at q1;cases q1;have hl3:Like P B (both D' S w0) w2 w1':=by
   have:=hsim.like;exact ⟨⟨rfl,rfl,0,rfl,rfl⟩,this.os,this.output,this.size,this.block,this.mute,this.heapOk⟩
  obtain ⟨v1,hv1,hl2⟩:=hv.back hl hl3;refine ⟨c.finish v,cs,w2,seen P fr'.fn evs ++ #[],?_,fun e he=>(hev e (seen_mem (by simpa using he))).anti fun r hr=>.inl hr,hle,.done ⟨v1,hv1,v,w1',rfl,rfl,hl2,hz⟩⟩;obtain ⟨fn0,tmps,td,dfs,md,kd,ro⟩:=fr';simp only at hk hm hdf hf0;subst hk hm hdf;show unwind P true ⟨fn0,tmps,td,[],.returning,.normal,ro⟩ (c::cs) none (w1.at d1)=_;unfold unwind;simp only [hf0];rw [<- hres,show (results fn tmps).runT P (w1.at d1) #[]=(.ok v w2,evs) from q2];rfl
 ·rw [Sem.runT_fst,hr] at q1;cases q1
 ·rw [Sem.runT_fst,hr] at q1;cases q1
theorem leads_go {K:Frame->List Frame->World->Prop} {fr fr1:Frame} {cs1:List Frame} (h:∀ W,stepG P true (G fr cs) W=.go (G fr1 cs1) W) (hk:∀ d,Leads P K fr1 cs1 (w.at d)):Leads P K fr cs w :=
 fun L hL w0 D hv=>.step fun d=>⟨fr1,cs1,w0.at d,#[],h _,by simp,Nat.le_refl _,hk d L hL _ _ (hv.at d)⟩
theorem leads_seq {K:Frame->List Frame->World->Prop} {x y:Code} (h:∀ d,Leads P K (b.at a (.code x::.code y::k)) cs (w.at d)):Leads P K (b.at a (.code (.seq x y)::k)) cs w:=leads_go (fun d=>rfl) h
theorem leads_ret {K:Frame->List Frame->World->Prop} (h:∀ d,Leads P K { b.at a (.code .ret::k) with mode:=.returning } cs (w.at d)):Leads P K (b.at a (.code .ret::k)) cs w:=leads_go (fun d=>rfl) h
end
end Go.Proofs.YtgkajecjbflbbaaGreatDoor.Mt
namespace Go.Proofs.YtgkajecjbflbbaaGreatDoor.Mt
open Go Go.Conc
section
variable {P:Program}
def Leaving0 (P:Program) (Post:Value->World->Prop) (fr:Frame) (cs:List Frame) (w:World):Prop :=
 cs=[]/\fr.mode=.returning/\fr.kind=.normal/\fr.defers=[]/\P.inits.idxOf? fr.fn=none /\
  ∃ v fn,P.funcs[fr.fn]? = some fn/\(∀ W,(results fn fr.tmps).runT P W #[]=(.ok v W,#[]))/\∀ d,Post v (w.at d)
theorem runN_trans {m1:Machine} {r:Stepped}:∀ {a b:Nat} {m:Machine},runN P a m=.next m1->runN P b m1=r->runN P (a+b) m=r
 | 0,b,m,h,h2=>by
  simp only [runN] at h;cases h;rw [Nat.zero_add];exact h2
 | a+1,b,m,h,h2=>by
  rw [show a+1+b=(a+b)+1 by omega];simp only [runN] at h ⊢
  cases hs:step P m with
  | next m2=>rw [hs] at h;exact runN_trans (a:=a) h h2
  | ended o w=>rw [hs] at h;cases h
def PostV (W:World) (Post:Value->World->Prop) (v:Value) (w:World):Prop:=∃ D v',View D w v'/\(∀ r,D r->W.heap.size<=r)/\Post v v'
theorem ends_good {Post:Value->World->Prop} {f:FuncId} {args:Array Value} {W:World} (h:Leads P (Leaving0 P Post) (Frame.enter P f args .normal) [] W) :
 ∃ M last o w' t',runNT P (M+1) (solo (G (Frame.enter P f args .normal) []) W) #[]=(.ended o w',t')/\runN P M (solo (G (Frame.enter P f args .normal) []) W)=.next last/\step P last=.ended o w'/\Good P (PostV W Post) last o w' t':=by
 obtain ⟨N,gs,w,sl,t,q,fr,cs,D,hr,hc,hg,v',hv,rfl,hm,hk,hdf,hi,v,fn,hf,hr2,hd⟩:=h W.heap.size (Nat.le_refl _) W _ (View.self W) #[G (Frame.enter P f args .normal) []] none #[] (fun _=>0)
  ⟨rfl,leavers_one P _,by
    rw [show shunD (fun _=>False)=fun _=>False from funext fun l=>propext ⟨fun ⟨_,_,h⟩=>h,fun h=>h.elim⟩]
    exact past_nil.mono (Nat.zero_le _)⟩
 have hG:Goes P true AtRel (fun _ _ _=>False) (AtEnd P (shunD D) w.heap.size (PostV W Post)) 0 (G fr []) w:=by
  rintro w1 ⟨d,rfl⟩;refine ⟨rfl,v,seen P fr.fn #[] ++ #[],?_,fun e he=>by have:=seen_mem (by simpa using he:e∈seen P fr.fn #[]);simp at this,D,v'.at d,hv.at d,fun r x=>(hg.2 r x).resolve_left fun y=>y,hd d⟩;obtain ⟨fn0,tmps,td,dfs,md,kd,ro⟩:=fr;simp only at hk hm hdf hf hi hr2;subst hk hm hdf;show unwind P true ⟨fn0,tmps,td,[],.returning,.normal,ro⟩ [] none (w.at d)=_;unfold unwind;simp only [hf];rw [hr2];simp only [doReturn,hi];rfl
 obtain ⟨N2,last,o,w',t',h1,h2,h3,h4⟩:=beside_ends (sl:=sl) (fun _ _ _ x=>x.elim) hc.at0 hc.leav hc.past hG;refine ⟨N+N2,last,o,w',t',?_,?_,h3,h4⟩
 ·rw [Nat.add_assoc];exact runNT_trans hr h1
 ·refine runN_trans ?_ h2;rw [<- runNT_fst P N _ #[]];exact congrArg Prod.fst hr
end
end Go.Proofs.YtgkajecjbflbbaaGreatDoor.Mt
