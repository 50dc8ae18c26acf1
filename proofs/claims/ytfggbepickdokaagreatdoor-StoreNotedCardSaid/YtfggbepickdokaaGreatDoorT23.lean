/- Leads to the Store laws of chapter 6: Bar Bar2 Co. -/
import Derived.Test.YtfggbepickdokaaGreatDoorT22
set_option maxHeartbeats 200000
set_option maxRecDepth 100000
set_option linter.all false
namespace Go
def World.on (w:World) (t:Tape) (d:Nat):World:={ w with tape:=t,drawn:=d }
end Go
namespace Go.Proofs.YtfggbepickdokaaGreatDoor.Mt
open Go Go.Conc
def bottom:Frame:={ fn:=0,tmps:=#[],todo:=[.code (.refuse "")],defers:=[{ target:=.nil,args:=#[] }],mode:=.run,kind:=.normal }
def Like (P:Program) (S:Mute) (w w':World):Prop:=Sim P S ⟨0,w.tape,w'.tape,w.drawn,w'.drawn,fun _ _ h=>absurd h (Nat.not_lt_zero _)⟩ w w'
theorem Sim.like {P:Program} {S:Mute} {c:Cast} {w w':World} (h:Sim P S c w w'):Like P S w w':=⟨⟨rfl,rfl,0,rfl,rfl⟩,h.os,h.output,h.size,h.block,h.mute,h.heapOk⟩
theorem Like.sim {P:Program} {S:Mute} {w w':World} (h:Like P S w w') (c:Cast):Sim P S c (w.on c.t c.d) (w'.on c.t' c.d'):=⟨⟨rfl,rfl,0,rfl,rfl⟩,h.os,h.output,h.size,h.block,h.mute,h.heapOk⟩
def Whole (P:Program) (w:World):Prop:=∀ (r:Nat) (o:Obj),w.heap[r]? = some o→HeapOk P o
theorem Whole.like {P:Program} {w:World} (h:Whole P w):Like P Mute.no w w:=⟨⟨rfl,rfl,0,rfl,rfl⟩,rfl,rfl,rfl,fun _ _=>rfl,fun _ x=>x.elim,h⟩
section
variable {P:Program} {fr:Frame} {ex:List Frame} {w w':World} {seg:Bool}
theorem Gk_nil (fr:Frame) (cs:List Frame):∀ ex:List Frame,Gk [] fr ex cs=G fr (ex ++ cs):=fun ex=>by
 have h1:∀ l:List Frame,kOf [] l=[]:=fun l=>by cases l <;> rfl
 have h2:∀ l:List Frame,ups [] l=l:=fun l=>by
  induction l with
  | nil=>rfl
  | cons c l ih=>simp only [ups,h1,upF_nil,ih]
 unfold Gk
 rw [h1,h2,upF_nil]
def At (seg:Bool) (fr:Frame):Prop:=match seg with
 | true=>fr.mode=.run∧fr.todo=[]
 | false=>fr.mode≠.run∧fr.defers=[]
theorem lone_next (hP:ProgOk P) (hst:StackOk P fr ex) (hd:¬ Door seg fr ex) (hw:Whole P w') {n:Nat} {fr2:Frame} {w2:World}
 (h:runN P (n+1) (lone fr (ex ++ [bottom]) w')=.next (lone fr2 [bottom] w2)) :
 ∃ fr1 ex1 w1 es,stepG P true (G fr (ex ++ [bottom])) w'=.go (G fr1 (ex1 ++ [bottom])) w1 es∧StackOk P fr1 ex1∧Whole P w1∧runN P n (lone fr1 (ex1 ++ [bottom]) w1)=.next (lone fr2 [bottom] w2):=by
 have hm:=mirror_step (kb:=[]) (cs0:=[bottom]) (cs:=[bottom]) (c:=⟨(stepG P true (G fr (ex ++ [bottom])) w').world.drawn,w'.tape,w'.tape,w'.drawn,w'.drawn,fun _ _ _=>rfl⟩) hP hst (fun _=>rfl) hd (hw.like.sim _) (Nat.le_refl _)
 have never:∀ m1,step P (lone fr (ex ++ [bottom]) w')=.next m1→Lost m1→False:=fun m1 e hl=>by
  simp only [runN,e] at h
  exact lost_never hl n _ _ _ h
 have nend:∀ o w3,step P (lone fr (ex ++ [bottom]) w')=.ended o w3→False:=fun o w3 e=>by
  simp only [runN,e] at h
  cases h
 have hstep:step P (lone fr (ex ++ [bottom]) w')=(runT P (Single (G fr (ex ++ [bottom])) w') 0).1:=by
  rw [step,stepT,lone_single,move_single rfl]
 change Mirror P _ _ _ _ _ _ (stepG P true (G fr (ex ++ [bottom])) w') _ at hm
 cases hs:stepG P true (G fr (ex ++ [bottom])) w' with
 | go g1 w1 es =>
  rw [hs] at hm
  have hst1:step P (lone fr (ex ++ [bottom]) w')=.next (Single g1 w1):=by rw [hstep,runT_single,hs]
  rcases hm with hf | ⟨fr1,ex1,w1',e2,rfl,_,_,hsim,_,hst2⟩
  ·exact (never _ hst1 (.inr ⟨g1,w1,rfl,.inr hf⟩)).elim
  ·refine ⟨fr1,ex1,w1,es,rfl,hst2,hsim.heapOk,?_⟩
   simp only [runN,hst1] at h
   exact h
 | ended o w1 es=>exact (nend o w1 (by rw [hstep,runT_single,hs])).elim
 | comm g1 cases bl sh w1 es =>
  rw [hs] at hm
  obtain ⟨hb,w2,hsim⟩:=hm
  subst hb
  rcases comm_lost (P:=P) hs hsim.heapOk with ⟨m1,e1,hl⟩ | ⟨o,w3,e1⟩
  ·exact (never _ e1 hl).elim
  ·exact (nend _ _ e1).elim
 | spawn g1 child w1 es =>
  refine (never _ (by rw [hstep];simp [runT,Single,Array.swapAt!,hs];rfl) (.inl ?_)).elim
  simp
 | _=>rw [hs] at hm;exact hm.elim
theorem bottom_ends {b:Frame} (hb:b=bottom∨∃ ch,b=bottom.raise ch) {n:Nat} {fr2:Frame} {w1 w2:World}:runN P n (lone b [] w1)≠.next (lone fr2 [bottom] w2):=by
 cases n with
 | zero =>
  intro h
  have:=congrArg (fun s=>match s with | .next m=>m.gs | .ended _ _=>#[]) h
  simp [runN,lone] at this
 | succ n =>
  have hend:∃ o w3 e,stepG P true (G b []) w1=.ended o w3 e:=by
   rcases hb with rfl | ⟨ch,rfl⟩
   ·exact ⟨_,_,_,rfl⟩
   ·exact ⟨_,_,_,rfl⟩
  obtain ⟨o,w3,e,he⟩:=hend
  have hs:step P (lone b [] w1)=.ended o w3:=by
   rw [step,stepT,lone_single,move_single rfl]
   simp only [runT_single,he]
  intro h
  simp only [runN,hs] at h
  cases h
theorem left_ends (hst:StackOk P fr []) (hm:fr.mode≠.run) (hdf:fr.defers=[]) {n:Nat} {fr2:Frame} {w2:World}:runN P (n+1) (lone fr ([] ++ [bottom]) w')≠.next (lone fr2 [bottom] w2):=by
 have hcat:fr.catches P=false:=by
  have:=hst.top.todo
  unfold Frame.catches
  split
  ·rename_i heq;rw [heq] at this;exact (show False from this _ (List.mem_cons_self ..)).elim
  ·rfl
 have key:(∃ b w1 e,stepG P true (G fr ([] ++ [bottom])) w'=.go (G b []) w1 e∧(b=bottom∨∃ ch,b=bottom.raise ch))∨∃ o w1 e,stepG P true (G fr ([] ++ [bottom])) w'=.ended o w1 e:=by
  have hret:∀ v w1,doReturn P true fr ([] ++ [bottom]) none v w1=.go (G bottom []) w1:=fun v w1=>by
   simp only [doReturn,List.nil_append,hst.top.kind];rfl
  unfold stepG G
  dsimp only
  cases hmd:fr.mode with
  | run=>exact (hm hmd).elim
  | panicking ch =>
   dsimp only
   unfold unwind
   rw [hdf]
   simp only [hmd,hcat,Bool.false_eq_true,if_false,List.nil_append]
   exact .inl ⟨_,_,_,rfl,.inr ⟨ch,rfl⟩⟩
  | returning =>
   dsimp only
   unfold unwind
   rw [hdf]
   simp only [hmd]
   split
   ·rw [hret];exact .inl ⟨_,_,_,rfl,.inl rfl⟩
   ·split
    ·rw [hret];exact .inl ⟨_,_,_,rfl,.inl rfl⟩
    ·exact .inr ⟨_,_,_,rfl⟩
    ·exact .inr ⟨_,_,_,rfl⟩
 intro h
 rcases key with ⟨b,w1,e,hs,hb⟩ | ⟨o,w1,e,hs⟩
 ·have hs1:step P (lone fr ([] ++ [bottom]) w')=.next (lone b [] w1):=by
   rw [step,stepT,lone_single,move_single rfl]
   simp only [runT_single,hs]
   rfl
  simp only [runN,hs1] at h
  exact bottom_ends hb h
 ·have hs1:step P (lone fr ([] ++ [bottom]) w')=.ended o w1:=by
   rw [step,stepT,lone_single,move_single rfl]
   simp only [runT_single,hs]
  simp only [runN,hs1] at h
  cases h
theorem unwinding (hP:ProgOk P):∀ (n:Nat) {fr fr2:Frame} {w w2:World},StackOk P fr []→Whole P w→fr.mode≠.run→fr2.mode=.run→runN P n (lone fr ([] ++ [bottom]) w)≠.next (lone fr2 [bottom] w2):=by
 intro n
 induction n with
 | zero =>
  intro fr fr2 w w2 hst hw hm hm2 h
  have h1:(#[G fr ([] ++ [bottom])]:Array Goroutine)=#[G fr2 [bottom]]:=congrArg (fun s=>match s with | .next m=>m.gs | .ended _ _=>#[]) h
  have h2:fr=fr2:=congrArg Goroutine.frame (Array.singleton_inj.1 h1)
  exact hm (h2 ▸ hm2)
 | succ n ih =>
  intro fr fr2 w w2 hst hw hm hm2 h
  by_cases hdf:fr.defers=[]
  ·exact left_ends hst hm hdf h
  have hd:¬ Door false fr []:=fun hd=>by
   rcases hd.2 with h | h
   ·cases h.1
   ·exact hdf h.2
  obtain ⟨fr1,ex1,w1,es,hs,hst1,hw1,h1⟩:=lone_next hP hst hd hw h
  have key:fr1.mode=fr.mode∧ex1=[]:=by
   obtain ⟨fn,tmps,td,dfs,md,kd,ro⟩:=fr
   cases dfs with
   | nil=>exact absurd rfl hdf
   | cons d ds =>
    obtain ⟨r,hr⟩:=hst.top.defers d (List.mem_cons_self ..)
    obtain ⟨t,a⟩:=d
    simp only at hr
    subst hr
    have hu:stepG P true (G ⟨fn,tmps,td,⟨.collected r,a⟩::ds,md,kd,ro⟩ ([] ++ [bottom])) w=unwind P true ⟨fn,tmps,td,⟨.collected r,a⟩::ds,md,kd,ro⟩ ([] ++ [bottom]) none w:=by
     cases md with
     | run=>exact absurd rfl hm
     | _=>rfl
    rw [hu] at hs
    unfold unwind at hs
    simp only at hs
    split at hs
    ·simp only [GStep.after] at hs
     have e1:=(GStep.go.inj hs).1
     have e2:_=fr1:=congrArg Goroutine.frame e1
     have e3:[] ++ [bottom]=ex1 ++ [bottom]:=congrArg Goroutine.callers e1
     exact ⟨by rw [← e2],(List.append_cancel_right e3).symm⟩
    ·cases hs
  obtain ⟨k1,rfl⟩:=key
  exact ih hst1 hw1 (by rw [k1];exact hm) hm2 h1
theorem door_ends (hP:ProgOk P) (hst:StackOk P fr ex) (hw:Whole P w') (hd:Door seg fr ex) {n:Nat} {fr2:Frame} {w2:World} (ha:At seg fr2):runN P (n+1) (lone fr (ex ++ [bottom]) w')≠.next (lone fr2 [bottom] w2):=by
 obtain ⟨rfl,⟨rfl,hm,ht⟩ | ⟨hm,hdf⟩⟩:=hd
 ·have hro:fr.roundOf=none:=hst.bot
  have hs:stepG P true (G fr ([] ++ [bottom])) w'=.go (G { fr with mode:=.returning } ([] ++ [bottom])) w':=by
   obtain ⟨fn,tmps,td,dfs,md,kd,ro⟩:=fr
   simp only at hm ht hro
   subst hm ht hro
   rfl
  have hs1:step P (lone fr ([] ++ [bottom]) w')=.next (lone { fr with mode:=.returning } ([] ++ [bottom]) w'):=by
   rw [step,stepT,lone_single,move_single rfl]
   simp only [runT_single,hs]
   rfl
  intro h
  simp only [runN,hs1] at h
  exact unwinding hP n (fr:={ fr with mode:=.returning }) (hst.set ⟨hst.top.todo,hst.top.kind,hst.top.defers⟩ rfl) hw (by simp) ha.1 h
 ·exact left_ends hst hm hdf
end
section
variable {P:Program} {seg:Bool}
theorem lone_shift (hP:ProgOk P) {fr fr1:Frame} {ex ex1:List Frame} {w wl:World} {t t2:Tape} {d d2:Nat} {es:Array Event} (hst:StackOk P fr ex) (hd:¬ Door seg fr ex) (hw:Whole P w)
 (h:stepG P true (G fr (ex ++ [bottom])) (w.on t d)=.go (G fr1 (ex1 ++ [bottom])) wl es) (ha:∀ j q,d+j < wl.drawn→t (d+j) q=t2 (d2+j) q) :
 ∃ es2,d≤wl.drawn∧wl.tape=t∧stepG P true (G fr (ex ++ [bottom])) (w.on t2 d2)=.go (G fr1 (ex1 ++ [bottom])) (wl.on t2 (d2+(wl.drawn - d))) es2:=by
 have hm:=mirror_step (kb:=[]) (cs0:=[bottom]) (cs:=[bottom]) (c:=⟨wl.drawn,t2,t,d2,d,fun j q hj=>ha j q hj⟩) hP hst (fun _=>rfl) hd (hw.like.sim _) (Nat.le_of_eq (by show (stepG P true (G fr (ex ++ [bottom])) (w.on t d)).world.drawn=_;rw [h];rfl))
 rw [Gk_nil] at hm
 change Mirror P _ _ _ _ _ _ (stepG P true (G fr (ex ++ [bottom])) (w.on t d)) (stepG P true (G fr (ex ++ [bottom])) (w.on t2 d2)) at hm
 rw [h] at hm
 rcases hm with ⟨_,y,hy,_⟩ | ⟨fr1',ex1',w1,e2,hg,h2,_,hsim,_,_⟩
 ·cases hy
 ·have e1:fr1=fr1':=congrArg Goroutine.frame hg
  have e2':ex1 ++ [bottom]=ex1' ++ [bottom]:=congrArg Goroutine.callers hg
  have e3:ex1=ex1':=List.append_cancel_right e2'
  subst e1 e3
  obtain ⟨a1,a2,k,a3,a4⟩:=hsim.tape
  simp only at a1 a2 a3 a4
  refine ⟨e2,by omega,a2,?_⟩
  rw [h2,Gk_nil]
  congr 1
  obtain ⟨hp,tp,dr,os,out⟩:=w1
  obtain ⟨hp',tp',dr',os',out'⟩:=wl
  have b1:hp=hp':=by
   apply Array.ext_getElem?
   intro i
   exact (hsim.block i (fun x=>x)).symm
  have b2:os=os':=hsim.os.symm
  have b3:out=out':=hsim.output.symm
  simp only at a1 a2 a3 a4
  subst b1 b2 b3 a1 a3
  simp only [World.on,a4]
  congr 1
  omega
end
section
variable {P:Program} {seg:Bool}
theorem lone_inj {fr fr':Frame} {cs cs':List Frame} {w w':World} (h:lone fr cs w=lone fr' cs' w'):fr=fr'∧cs=cs'∧w=w':=by
 have h1:(#[G fr cs]:Array Goroutine)=#[G fr' cs']:=congrArg Machine.gs h
 have h2:G fr cs=G fr' cs':=Array.singleton_inj.1 h1
 exact ⟨congrArg Goroutine.frame h2,congrArg Goroutine.callers h2,congrArg Machine.world h⟩
theorem step_of_go {fr fr1:Frame} {cs cs1:List Frame} {w w1:World} {es:Array Event} (h:stepG P true (G fr cs) w=.go (G fr1 cs1) w1 es):step P (lone fr cs w)=.next (lone fr1 cs1 w1):=by
 rw [step,stepT,lone_single,move_single rfl]
 simp only [runT_single,h]
 rfl
theorem runN_end {m1 m2:Machine}:∀ {k:Nat} {m:Machine},runN P k m=.next m1→step P m1=.next m2→runN P (k+1) m=.next m2
 | 0,m,h,hs=>by cases h;simp only [runN,hs]
 | k+1,m,h,hs=>by
  simp only [runN] at h
  cases hm:step P m with
  | next m3 =>
   rw [hm] at h
   have:=runN_end (k:=k) h hs
   rw [runN,hm]
   exact this
  | ended o w=>rw [hm] at h;cases h
def LReach (P:Program) (seg:Bool) (fr:Frame) (ex:List Frame) (w:World) (Z:Frame→World→Prop):Prop :=
 ∃ n fr2 w2,runN P n (lone fr (ex ++ [bottom]) w)=.next (lone fr2 [bottom] w2)∧At seg fr2∧Z fr2 w2
theorem shift_reach (hP:ProgOk P):∀ (n:Nat) {fr fr2:Frame} {ex:List Frame} {w w2:World} {t t2:Tape} {d d2:Nat},StackOk P fr ex→Whole P w→(∀ j q,t (d+j) q=t2 (d2+j) q) →
 runN P n (lone fr (ex ++ [bottom]) (w.on t d))=.next (lone fr2 [bottom] w2)→At seg fr2→∃ d3,runN P n (lone fr (ex ++ [bottom]) (w.on t2 d2))=.next (lone fr2 [bottom] (w2.on t2 d3)):=by
 intro n
 induction n with
 | zero =>
  intro fr fr2 ex w w2 t t2 d d2 hst hw ha h hat
  simp only [runN] at h
  obtain ⟨rfl,h2,rfl⟩:=lone_inj (Stepped.next.inj h)
  exact ⟨d2,by simp only [runN,h2];rfl⟩
 | succ n ih =>
  intro fr fr2 ex w w2 t t2 d d2 hst hw ha h hat
  by_cases hd:Door seg fr ex
  ·exact absurd h (door_ends hP hst (w':=w.on t d) hw hd hat)
  obtain ⟨fr1,ex1,wl,es,hs,hst1,hw1,h1⟩:=lone_next hP hst hd (w':=w.on t d) hw h
  obtain ⟨es2,hle,htp,hs2⟩:=lone_shift hP hst hd hw hs fun j q _=>ha j q
  have e1:wl=wl.on t (d+(wl.drawn - d)):=by
   have:d+(wl.drawn - d)=wl.drawn:=by omega
   rw [this]
   obtain ⟨hp,tp,dr,os,out⟩:=wl
   simp only at htp
   subst htp
   rfl
  rw [e1] at h1
  obtain ⟨d3,h3⟩:=ih (w:=wl) (t:=t) (t2:=t2) (d:=d+(wl.drawn - d)) (d2:=d2+(wl.drawn - d)) hst1 hw1 (fun j q=>by rw [Nat.add_assoc,Nat.add_assoc];exact ha _ q) h1 hat
  exact ⟨d3,by simp only [runN,step_of_go hs2];exact h3⟩
inductive Bar (P:Program) (seg:Bool) (kb:List Item) (cs:List Frame) (Z:Frame→World→Prop):Frame→List Frame→World→Prop
 | door {fr:Frame} {w:World} (hd:At seg fr) (hz:Z fr w):Bar P seg kb cs Z fr [] w
 | step {fr:Frame} {ex:List Frame} {w:World} (F:Nat→Frame) (X:Nat→List Frame) (W:Nat→World) (V:Nat→Array Event)
  (hs:∀ d,stepG P true (Gk kb fr ex cs) (w.at d)=.go (Gk kb (F d) (X d) cs) (W d) (V d)∧(∀ e∈V d,EvOk (W d).heap.size e)∧w.heap.size≤(W d).heap.size)
  (hb:∀ d,Bar P seg kb cs Z (F d) (X d) (W d)):Bar P seg kb cs Z fr ex w
structure Inv (P:Program) (seg:Bool) (kb:List Item) (S:Mute) (cs:List Frame) (Z Z0:Frame→World→Prop) (s:Frame × List Frame × World × World):Prop where
 stack:StackOk P s.1 s.2.1
 like:Like P S s.2.2.1 s.2.2.2
 reach:∀ t,LReach P seg s.1 s.2.1 (s.2.2.2.on t 0) fun fr w=>∃ t d,Z0 fr (w.on t d)
 bar:¬ Bar P seg kb cs Z s.1 s.2.1 s.2.2.1
def Linked (P:Program) (s s1:Frame × List Frame × World × World) (t:Tape) (m:Nat):Prop :=
 ∀ (t2:Tape) (d2:Nat),(∀ j < m,∀ q,t2 (d2+j) q=t j q)→∃ es,stepG P true (G s.1 (s.2.1 ++ [bottom])) (s.2.2.2.on t2 d2)=.go (G s1.1 (s1.2.1 ++ [bottom])) (s1.2.2.2.on t2 (d2+m)) es
theorem door_of {fr:Frame} (h:At seg fr):(seg=true∧fr.mode=.run∧fr.todo=[])∨(fr.mode≠.run∧fr.defers=[]):=by
 cases seg with
 | true=>exact .inl ⟨rfl,h.1,h.2⟩
 | false=>exact .inr h
theorem path_step (hP:ProgOk P) {kb:List Item} (hk:seg=false→kb=[]) {S:Mute} {cs:List Frame} {Z Z0:Frame→World→Prop} (hZ:∀ fr w w',Like P S w w'→(∃ t d,Z0 fr (w'.on t d))→Z fr w) {s:Frame × List Frame × World × World} (h:Inv P seg kb S cs Z Z0 s) :
 ¬ Door seg s.1 s.2.1∧∃ s1 t m,Inv P seg kb S cs Z Z0 s1∧Linked P s s1 t m:=by
 obtain ⟨fr,ex,w,w'⟩:=s
 obtain ⟨hst,hl,hr,hb⟩:=h
 simp only at hst hl hr hb
 have hw:Whole P w':=hl.heapOk
 have hnd:¬ Door seg fr ex:=fun hd=>by
  obtain ⟨n,fr2,w2,hn,hd2,hz⟩:=hr w.tape
  cases n with
  | zero =>
   simp only [runN] at hn
   obtain ⟨rfl,h2,rfl⟩:=lone_inj (Stepped.next.inj hn)
   obtain ⟨rfl,_⟩:=id hd
   obtain ⟨t,d,hz⟩:=hz
   exact hb (.door hd2 (hZ fr w w' hl ⟨t,d,hz⟩))
  | succ n=>exact door_ends hP hst (w':=w'.on w.tape 0) hw hd hd2 hn
 refine ⟨hnd,?_⟩
 have hex:∃ d,¬ ∃ fr1 ex1 w1 es,stepG P true (Gk kb fr ex cs) (w.at d)=.go (Gk kb fr1 ex1 cs) w1 es∧(∀ e∈es,EvOk w1.heap.size e)∧w.heap.size≤w1.heap.size∧Bar P seg kb cs Z fr1 ex1 w1:=by
  apply Classical.byContradiction
  intro hno
  have hall:∀ d,∃ x:Frame × List Frame × World × Array Event,stepG P true (Gk kb fr ex cs) (w.at d)=.go (Gk kb x.1 x.2.1 cs) x.2.2.1 x.2.2.2∧(∀ e∈x.2.2.2,EvOk x.2.2.1.heap.size e)∧w.heap.size≤x.2.2.1.heap.size∧Bar P seg kb cs Z x.1 x.2.1 x.2.2.1:=fun d=>by
   have:=Classical.not_not.1 (not_exists.1 hno d)
   obtain ⟨fr1,ex1,w1,es,h⟩:=this
   exact ⟨(fr1,ex1,w1,es),h⟩
  obtain ⟨f,hf⟩:=Classical.axiomOfChoice hall
  exact hb (.step (fun d=>(f d).1) (fun d=>(f d).2.1) (fun d=>(f d).2.2.1) (fun d=>(f d).2.2.2) (fun d=>⟨(hf d).1,(hf d).2.1,(hf d).2.2.1⟩) fun d=>(hf d).2.2.2)
 obtain ⟨d,hd⟩:=hex
 have first:∀ t,∃ n fr2 w2,runN P (n+1) (lone fr (ex ++ [bottom]) (w'.on t 0))=.next (lone fr2 [bottom] w2)∧At seg fr2∧∃ t d,Z0 fr2 (w2.on t d):=fun t=>by
  obtain ⟨n,fr2,w2,hn,hd2,hz⟩:=hr t
  cases n with
  | zero =>
   simp only [runN] at hn
   obtain ⟨rfl,h2,rfl⟩:=lone_inj (Stepped.next.inj hn)
   have:ex=[]:=by
    cases ex with
    | nil=>rfl
    | cons a b=>simp at h2
   subst this
   exact absurd ⟨rfl,door_of hd2⟩ hnd
  | succ n=>exact ⟨n,fr2,w2,hn,hd2,hz⟩
 obtain ⟨n,fr2,w2,hn,hd2,hz⟩:=first (fun j q=>w.tape (d+j) q)
 obtain ⟨fr1,ex1,wl,es,hs,hst1,hw1,h1⟩:=lone_next hP hst hnd (w':=w'.on (fun j q=>w.tape (d+j) q) 0) hw hn
 have hm:=mirror_step (kb:=kb) (cs0:=[bottom]) (cs:=cs) (c:=⟨wl.drawn,w.tape,fun j q=>w.tape (d+j) q,d,0,fun j q _=>by simp⟩) hP hst hk hnd (hl.sim _) (Nat.le_of_eq (by show (stepG P true (G fr (ex ++ [bottom])) (w'.on (fun j q=>w.tape (d+j) q) 0)).world.drawn=_;rw [hs];rfl))
 change Mirror P _ _ _ _ _ _ (stepG P true (G fr (ex ++ [bottom])) (w'.on (fun j q=>w.tape (d+j) q) 0)) (stepG P true (Gk kb fr ex cs) (w.on w.tape d)) at hm
 rw [hs] at hm
 rcases hm with ⟨_,y,hy,_⟩ | ⟨fr1',ex1',w1,es1,hg,hs1,hev,hsim,hle,_⟩
 ·cases hy
 have e1:fr1=fr1':=congrArg Goroutine.frame hg
 have e3:ex1=ex1':=List.append_cancel_right (congrArg Goroutine.callers hg:ex1 ++ [bottom]=ex1' ++ [bottom])
 subst e1 e3
 have link:Linked P (fr,ex,w,w') (fr1,ex1,w1,wl) (fun j q=>w.tape (d+j) q) wl.drawn:=fun t2 d2 ha=>by
  obtain ⟨es2,_,_,hs2⟩:=lone_shift hP hst hnd hw hs (t2:=t2) (d2:=d2) fun j q hj=>by
   have:=ha j (by omega) q
   simp only [Nat.zero_add]
   exact this.symm
  exact ⟨es2,by simpa using hs2⟩
 refine ⟨(fr1,ex1,w1,wl),_,wl.drawn,⟨hst1,hsim.like,fun τ=>?_,fun hbar=>hd ⟨fr1,ex1,w1,es1,hs1,hev,hle,hbar⟩⟩,link⟩
 obtain ⟨n',fr3,w3,hn',hd3,hz3⟩:=first (fun i q=>if i < wl.drawn then w.tape (d+i) q else τ (i - wl.drawn) q)
 obtain ⟨es3,hs3⟩:=link (fun i q=>if i < wl.drawn then w.tape (d+i) q else τ (i - wl.drawn) q) 0 fun j hj q=>by simp [hj]
 rw [runN,step_of_go hs3] at hn'
 simp only at hn'
 obtain ⟨d3,h3⟩:=shift_reach hP n' (w:=wl) (t2:=τ) (d2:=0) hst1 hw1 (fun j q=>by
  have:¬ (0+wl.drawn+j < wl.drawn):=by omega
  simp only [this,if_false]
  congr 1
  omega) hn' hd3
 obtain ⟨t4,d4,hz4⟩:=hz3
 exact ⟨n',fr3,w3.on τ d3,h3,hd3,t4,d4,hz4⟩
open Classical in
theorem bar_of_reach (hP:ProgOk P) {kb:List Item} (hk:seg=false→kb=[]) {S:Mute} {cs:List Frame} {Z Z0:Frame→World→Prop} (hZ:∀ fr w w',Like P S w w'→(∃ t d,Z0 fr (w'.on t d))→Z fr w)
 {fr:Frame} {ex:List Frame} {w w':World} (hst:StackOk P fr ex) (hl:Like P S w w') (hr:∀ t,LReach P seg fr ex (w'.on t 0) Z0):Bar P seg kb cs Z fr ex w:=by
 apply Classical.byContradiction
 intro hb
 let St:={ s:Frame × List Frame × World × World // Inv P seg kb S cs Z Z0 s }
 have h0:Inv P seg kb S cs Z Z0 (fr,ex,w,w'):=⟨hst,hl,fun t=>by
  obtain ⟨n,fr2,w2,a,b,c⟩:=hr t
  exact ⟨n,fr2,w2,a,b,w2.tape,w2.drawn,c⟩,hb⟩
 have hall:∀ s:St,∃ y:St × Tape × Nat,Linked P s.1 y.1.1 y.2.1 y.2.2:=fun s=>by
  obtain ⟨_,s1,t,m,h1,h2⟩:=path_step hP hk hZ s.2
  exact ⟨(⟨s1,h1⟩,t,m),h2⟩
 obtain ⟨f,hf⟩:=Classical.axiomOfChoice hall
 let seq:Nat→St:=fun k=>Nat.rec ⟨_,h0⟩ (fun _ s=>(f s).1) k
 let M:Nat→Nat:=fun k=>(f (seq k)).2.2
 let E:Nat→Nat:=fun k=>Nat.rec 0 (fun i e=>e+M i) k
 have hE:∀ k,E (k+1)=E k+M k:=fun k=>rfl
 have hmono:∀ k l,k≤l→E k≤E l:=fun k l h=>by
  induction l with
  | zero=>obtain rfl:k=0:=by omega
          exact Nat.le_refl _
  | succ l ih =>
   rcases Nat.lt_or_ge l k with hlt | hge
   ·obtain rfl:k=l+1:=by omega
    exact Nat.le_refl _
   ·rw [hE];exact Nat.le_trans (ih hge) (Nat.le_add_right _ _)
 let τ:Tape:=fun n q=>if h:∃ k,E k≤n∧n < E (k+1) then (f (seq (Classical.choose h))).2.1 (n - E (Classical.choose h)) q else 0
 have hτ:∀ k j q,j < M k→τ (E k+j) q=(f (seq k)).2.1 j q:=fun k j q hj=>by
  have hk:∃ k',E k'≤E k+j∧E k+j < E (k'+1):=⟨k,by omega,by rw [hE];omega⟩
  have hs:=Classical.choose_spec hk
  have hu:Classical.choose hk=k:=by
   rcases Nat.lt_trichotomy (Classical.choose hk) k with h | h | h
   ·have:=hmono (Classical.choose hk+1) k h
    omega
   ·exact h
   ·have:=hmono (k+1) (Classical.choose hk) h
    rw [hE] at this
    omega
  show (if h:∃ k',E k'≤E k+j∧E k+j < E (k'+1) then (f (seq (Classical.choose h))).2.1 (E k+j - E (Classical.choose h)) q else 0)=_
  rw [dif_pos hk,hu,Nat.add_sub_cancel_left]
 have hrun:∀ k,runN P k (lone fr (ex ++ [bottom]) (w'.on τ 0))=.next (lone (seq k).1.1 ((seq k).1.2.1 ++ [bottom]) ((seq k).1.2.2.2.on τ (E k))):=fun k=>by
  induction k with
  | zero=>rfl
  | succ k ih =>
   obtain ⟨es,hs⟩:=hf (seq k) τ (E k) fun j hj q=>hτ k j q hj
   exact runN_end ih (step_of_go hs)
 obtain ⟨n,fr2,w2,hn,hd2,_⟩:=hr τ
 rw [hrun n] at hn
 obtain ⟨h1,h2,_⟩:=lone_inj (Stepped.next.inj hn)
 have hnd:=(path_step hP hk hZ (seq n).2).1
 apply hnd
 have h3:(seq n).1.2.1=[]:=by
  cases hx:(seq n).1.2.1 with
  | nil=>rfl
  | cons a b=>rw [hx] at h2;simp at h2
 rw [h1,h3]
 exact ⟨rfl,door_of hd2⟩
end
end Go.Proofs.YtfggbepickdokaaGreatDoor.Mt
namespace Go.Proofs.YtfggbepickdokaaGreatDoor.Mt
open Go Go.Conc
open Go.ConcN (sumTo upd sumTo_upd upd_ne upd_same)
def NS:Loc→Prop:=fun _=>False
structure Co (P:Program) (gs:Array Goroutine) (w:World) (t:Trace) (q:Nat→Nat) (fr:Frame) (cs:List Frame):Prop where
 at0:gs[0]? = some (G fr cs)
 leav:Leavers P t gs q
 past:Past NS w.heap.size t
theorem EvOk.evL {B:Nat} {e:Event} (h:EvOk B e):EvL NS B e:=by
 obtain ⟨loc,wr,sy⟩:=e
 refine ⟨fun x _ hs=>hs.elim,?_,?_,?_⟩
 ·rintro rfl
  rcases h with h | ⟨f,h⟩ <;> cases h
 ·rintro rfl
  rcases h with h | ⟨f,h⟩ <;> cases h
 ·cases loc with
  | cell a=>exact h
  | obj r=>cases wr <;> cases sy <;> exact h
  | output=>exact h.elim
  | goroutines=>exact h.elim
  | mark m =>
   rcases h with rfl | ⟨f,rfl⟩
   ·trivial
   ·trivial
section
variable {P:Program} {gs:Array Goroutine} {w:World} {t:Trace} {q:Nat→Nat} {fr:Frame} {cs:List Frame}
theorem Co.awake (h:Co P gs w t q fr cs):∀ g∈gs,awake g:=by
 intro g hg
 obtain ⟨i,hi,rfl⟩:=Array.mem_iff_getElem.1 hg
 rcases Nat.eq_zero_or_pos i with rfl | hpos
 ·have:gs[0]=G fr cs:=by simpa [Array.getElem?_eq_getElem hi] using h.at0
  rw [this];exact awake_of (.inl rfl)
 ·exact awake_of ((h.leav.old i _ hpos (Array.getElem?_eq_getElem hi)).status.elim .inl fun x=>.inr (.inr x))
theorem Co.own (h:Co P gs w t q fr cs) {fr1:Frame} {cs1:List Frame} {w1:World} {es:Array Event} (hev:∀ e∈es,EvOk w1.heap.size e) (hle:w.heap.size≤w1.heap.size) :
 Co P ((gs.map (woken P (G fr cs) (G fr1 cs1) w1)).setIfInBounds 0 (G fr1 cs1)) w1 (t ++ MemOp.ofEvents 0 (G fr cs).frame.fn (G fr cs).frame.place es) q fr1 cs1:=by
 have hlt:0 < gs.size:=(Array.getElem?_eq_some_iff.1 h.at0).1
 refine ⟨by simp [hlt],⟨fun j x hj hx=>?_,fun j hj=>?_⟩,(h.past.mono hle).own fun e he=>(hev e he).evL⟩
 ·have hne:0≠j:=by omega
  rw [Array.getElem?_setIfInBounds_ne hne,Array.getElem?_map] at hx
  obtain ⟨y,hy,rfl⟩:=Option.map_eq_some_iff.1 hx
  have hq:=h.leav.old j y hj hy
  rw [woken_quitsD hq,Deaf_other t (by omega) _ (fun op hop=>by obtain ⟨e,_,rfl⟩:=Go.Conc.mem_ofEvents hop;rfl)]
  exact hq
 ·rw [Deaf_other t (g':=0) (by simp at hj;omega) _ (fun op hop=>by obtain ⟨e,_,rfl⟩:=Go.Conc.mem_ofEvents hop;rfl)]
  exact h.leav.above j (by simpa using hj)
theorem Co.slip (h:Co P gs w t q fr cs) {i:Nat} {g:Goroutine} {d:Nat} {sl:Option (Nat × Nat)} (hi:gs[i]? = some g) (hpos:0 < i) (hg:g.status=.running) :
 ∃ gs' t' q',runT P (crowd gs (w.at d) sl) i=(.next (crowd gs' (w.at d) sl),t')∧gs'.size=gs.size∧sumTo gs.size q' < sumTo gs.size q∧Co P gs' (w.at d) (t ++ t') q' fr cs:=by
 have hq:=h.leav.old i g hpos hi
 have hi0:(i == 0)=false:=by simp;omega
 have hlt:i < gs.size:=(Array.getElem?_eq_some_iff.1 hi).1
 cases hqi:q i with
 | zero=>rw [hqi] at hq;rw [hq.1] at hg;cases hg
 | succ k =>
  rw [hqi] at hq
  rcases hq with ⟨hf,_⟩ | ⟨_,g',es,hm,hstp,hq'⟩
  ·rw [hf] at hg;cases hg
  have hrunT:=runT_crowd_go (P:=P) (sl:=sl) (i:=i) hi (by rw [hi0];exact hstp (w.at d))
  have hsum:sumTo gs.size (upd q i k)+(k+1)=sumTo gs.size q+k:=by
   have:=sumTo_upd q k id hlt
   simpa [hqi] using this
  refine ⟨(gs.map (woken P g g' (w.at d))).setIfInBounds i g',MemOp.ofEvents i g.frame.fn g.frame.place es,upd q i k,hrunT,by simp,by omega,?_,⟨fun j x hj hx=>?_,fun j hj=>?_⟩,h.past.mute (by omega) hm⟩
  ·have hne:i≠0:=by omega
   rw [Array.getElem?_setIfInBounds_ne hne,Array.getElem?_map,h.at0]
   simp [woken_run (show (G fr cs).status=.running from rfl)]
  ·by_cases hji:i=j
   ·subst hji
    rw [Array.getElem?_setIfInBounds_self_of_lt (by simpa using hlt)] at hx
    obtain rfl:=Option.some.inj hx
    rw [upd_same,Deaf_own]
    exact hq'
   ·rw [Array.getElem?_setIfInBounds_ne hji,Array.getElem?_map] at hx
    obtain ⟨y,hy,rfl⟩:=Option.map_eq_some_iff.1 hx
    have hqj:=h.leav.old j y hj hy
    rw [woken_quitsD hqj,upd_ne q k (Ne.symm hji),Deaf_other t hji _ (fun op hop=>by obtain ⟨e,_,rfl⟩:=Go.Conc.mem_ofEvents hop;rfl)]
    exact hqj
  ·rw [Deaf_other t (g':=i) (by simp at hj;omega) _ (fun op hop=>by obtain ⟨e,_,rfl⟩:=Go.Conc.mem_ofEvents hop;rfl)]
   exact h.leav.above j (by simpa using hj)
def Leads (P:Program) (K:Frame→List Frame→World→Prop) (fr:Frame) (cs:List Frame) (w:World):Prop :=
 ∀ gs sl t q,Co P gs w t q fr cs→∃ N gs' w' sl' t' q' fr' cs',runNT P N (crowd gs w sl) t=(.next (crowd gs' w' sl'),t')∧Co P gs' w' t' q' fr' cs'∧K fr' cs' w'
theorem Leads.done {K:Frame→List Frame→World→Prop} (h:K fr cs w):Leads P K fr cs w:=fun gs sl t q hc=>⟨0,gs,w,sl,t,q,fr,cs,rfl,hc,h⟩
theorem runNT_trans {P:Program} {m1:Machine} {t1:Trace} {r:Stepped × Trace}:∀ {a b:Nat} {m:Machine} {t:Trace},runNT P a m t=(.next m1,t1)→runNT P b m1 t1=r→runNT P (a+b) m t=r
 | 0,b,m,t,h,h2=>by
  simp only [runNT] at h
  cases h
  rw [Nat.zero_add];exact h2
 | a+1,b,m,t,h,h2=>by
  rw [show a+1+b=(a+b)+1 by omega]
  simp only [runNT] at h ⊢
  cases hs:stepT P m with
  | mk s ops =>
   rw [hs] at h
   cases s with
   | next m2=>exact runNT_trans (a:=a) h h2
   | ended o w=>cases h
theorem Leads.trans {K K':Frame→List Frame→World→Prop} (h:Leads P K fr cs w) (hk:∀ fr cs w,K fr cs w→Leads P K' fr cs w):Leads P K' fr cs w:=fun gs sl t q hc=>by
 obtain ⟨N,gs',w',sl',t',q',fr',cs',h1,h2,h3⟩:=h gs sl t q hc
 obtain ⟨N2,gs2,w2,sl2,t2,q2,fr2,cs2,h4,h5,h6⟩:=hk fr' cs' w' h3 gs' sl' t' q' h2
 exact ⟨N+N2,gs2,w2,sl2,t2,q2,fr2,cs2,runNT_trans h1 h4,h5,h6⟩
theorem Leads.mono {K K':Frame→List Frame→World→Prop} (h:Leads P K fr cs w) (hk:∀ fr cs w,K fr cs w→K' fr cs w):Leads P K' fr cs w:=h.trans fun fr cs w x=>.done (hk fr cs w x)
theorem Leads.step {K:Frame→List Frame→World→Prop} (h:∀ d,∃ fr1 cs1 w1 es,stepG P true (G fr cs) (w.at d)=.go (G fr1 cs1) w1 es∧(∀ e∈es,EvOk w1.heap.size e)∧w.heap.size≤w1.heap.size∧Leads P K fr1 cs1 w1):Leads P K fr cs w:=by
 have key:∀ M d gs sl t q,sumTo gs.size q≤M→Co P gs (w.at d) t q fr cs→∃ N gs' w' sl' t' q' fr' cs',runNT P N (crowd gs (w.at d) sl) t=(.next (crowd gs' w' sl'),t')∧Co P gs' w' t' q' fr' cs'∧K fr' cs' w':=by
  intro M
  induction M with
  | zero =>
   intro d gs sl t q hM hc
   obtain ⟨i,g,d',sl',hi,hg,hst⟩:=crowd_pick (P:=P) (w:=w.at d) (sl:=sl) hc.awake ⟨0,_,hc.at0,rfl⟩
   rcases Nat.eq_zero_or_pos i with rfl | hpos
   ·obtain rfl:g=G fr cs:=by rw [hc.at0] at hi;exact (Option.some.inj hi).symm
    obtain ⟨fr1,cs1,w1,es,hs,hev,hle,hL⟩:=h d'
    have hrunT:=runT_crowd_go (P:=P) (sl:=sl') (i:=0) hi (show stepG P (0 == 0) (G fr cs) ((w.at d).at d')=_ from hs)
    have hc':=hc.own (fr1:=fr1) (cs1:=cs1) (w1:=w1) hev hle
    obtain ⟨N,gs',w',sl2,t',q',fr',cs',h1,h2,h3⟩:=hL _ sl' _ _ hc'
    exact ⟨N+1,gs',w',sl2,t',q',fr',cs',by simp only [runNT,hst,hrunT];exact h1,h2,h3⟩
   ·obtain ⟨gs',t',q',_,_,hlt,_⟩:=hc.slip (d:=d') (sl:=sl') hi hpos hg
    omega
  | succ M ih =>
   intro d gs sl t q hM hc
   obtain ⟨i,g,d',sl',hi,hg,hst⟩:=crowd_pick (P:=P) (w:=w.at d) (sl:=sl) hc.awake ⟨0,_,hc.at0,rfl⟩
   rcases Nat.eq_zero_or_pos i with rfl | hpos
   ·obtain rfl:g=G fr cs:=by rw [hc.at0] at hi;exact (Option.some.inj hi).symm
    obtain ⟨fr1,cs1,w1,es,hs,hev,hle,hL⟩:=h d'
    have hrunT:=runT_crowd_go (P:=P) (sl:=sl') (i:=0) hi (show stepG P (0 == 0) (G fr cs) ((w.at d).at d')=_ from hs)
    have hc':=hc.own (fr1:=fr1) (cs1:=cs1) (w1:=w1) hev hle
    obtain ⟨N,gs',w',sl2,t',q',fr',cs',h1,h2,h3⟩:=hL _ sl' _ _ hc'
    exact ⟨N+1,gs',w',sl2,t',q',fr',cs',by simp only [runNT,hst,hrunT];exact h1,h2,h3⟩
   ·obtain ⟨gs',t',q',hr,hsz,hlt,hc'⟩:=hc.slip (d:=d') (sl:=sl') hi hpos hg
    obtain ⟨N,gs2,w2,sl2,t2,q2,fr2,cs2,h1,h2,h3⟩:=ih d' gs' sl' (t ++ t') q' (by rw [hsz];omega) hc'
    have h1':runNT P N (crowd gs' ((w.at d).at d') sl') (t ++ t')=(.next (crowd gs2 w2 sl2),t2):=h1
    exact ⟨N+1,gs2,w2,sl2,t2,q2,fr2,cs2,by simp only [runNT,hst,hr];exact h1',h2,h3⟩
 intro gs sl t q hc
 exact key _ w.drawn gs sl t q (Nat.le_refl _) hc
theorem Bar.leads {seg:Bool} {kb:List Item} {cs0:List Frame} {Z:Frame→World→Prop} {ex:List Frame} (h:Bar P seg kb cs0 Z fr ex w):Leads P (fun fr' cs' w'=>∃ fr2,fr'=upF kb fr2∧cs'=cs0∧At seg fr2∧Z fr2 w') (upF (kOf kb ex) fr) (ups kb ex ++ cs0) w:=by
 induction h with
 | @door fr w hd hz=>exact .done ⟨fr,rfl,rfl,hd,hz⟩
 | step F X W V hs hb ih=>exact .step fun d=>⟨_,_,W d,V d,(hs d).1,(hs d).2.1,(hs d).2.2,ih d⟩
end
end Go.Proofs.YtfggbepickdokaaGreatDoor.Mt
