/- StoreLoaded -/
import Derived.Test.YtdjnkplgllakcaaGreatDoorSL14
set_option maxHeartbeats 200000
set_option maxRecDepth 100000
set_option linter.all false
namespace Go.Proofs.YtdjnkplgllakcaaGreatDoor
namespace Mt
open Go Go.Conc
section
variable {P:Program} {seg:Bool}
theorem lone_inj {fr fr':Frame} {cs cs':List Frame} {w w':World} (h:lone fr cs w=lone fr' cs' w'):fr=fr'/\cs=cs'/\w=w':=by
 have h1:(#[G fr cs]:Array Goroutine)=#[G fr' cs']:=congrArg Machine.gs h;have h2:G fr cs=G fr' cs':=Array.singleton_inj.1 h1;exact ⟨congrArg Goroutine.frame h2,congrArg Goroutine.callers h2,congrArg Machine.world h⟩
theorem step_of_go {fr fr1:Frame} {cs cs1:List Frame} {w w1:World} {es:Array Event} (h:stepG P true (G fr cs) w=.go (G fr1 cs1) w1 es):step P (lone fr cs w)=.next (lone fr1 cs1 w1):=by
 rw [step,stepT,lone_single,move_single rfl];simp only [runT_single,h];rfl
theorem runN_end {m1 m2:Machine}:∀ {k:Nat} {m:Machine},runN P k m=.next m1->step P m1=.next m2->runN P (k+1) m=.next m2
 | 0,m,h,hs=>by cases h;simp only [runN,hs]
 | k+1,m,h,hs=>by
  simp only [runN] at h
  cases hm:step P m with
  | next m3 =>
   rw [hm] at h;have:=runN_end (k:=k) h hs;rw [runN,hm];exact this
  | ended o w=>rw [hm] at h;cases h
def LReach (P:Program) (seg:Bool) (fr:Frame) (ex:List Frame) (w:World) (Z:Frame->World->Prop):Prop :=
 ∃ n fr2 w2,runN P n (lone fr (ex ++ [bottom]) w)=.next (lone fr2 [bottom] w2)/\At seg fr2/\Z fr2 w2
theorem shift_reach (hP:ProgOk P):∀ (n:Nat) {fr fr2:Frame} {ex:List Frame} {w w2:World} {t t2:Tape} {d d2:Nat},StackOk P fr ex->Whole P w->(∀ j q,t (d+j) q=t2 (d2+j) q) ->
 runN P n (lone fr (ex ++ [bottom]) (w.on t d))=.next (lone fr2 [bottom] w2)->At seg fr2->∃ d3,runN P n (lone fr (ex ++ [bottom]) (w.on t2 d2))=.next (lone fr2 [bottom] (w2.on t2 d3)):=by
 intro n
 induction n with
 | zero =>
  intro fr fr2 ex w w2 t t2 d d2 hst hw ha h hat;simp only [runN] at h;obtain ⟨rfl,h2,rfl⟩:=lone_inj (Stepped.next.inj h);exact ⟨d2,by simp only [runN,h2];rfl⟩
 | succ n ih =>
  intro fr fr2 ex w w2 t t2 d d2 hst hw ha h hat;by_cases hd:Door seg fr ex
  ·exact absurd h (door_ends hP hst (w':=w.on t d) hw hd hat)
  obtain ⟨fr1,ex1,wl,es,hs,hst1,hw1,h1⟩:=lone_next hP hst hd (w':=w.on t d) hw h;obtain ⟨es2,hle,htp,hs2⟩:=lone_shift hP hst hd hw hs fun j q _=>ha j q;have e1:wl=wl.on t (d+(wl.drawn - d)):=by
   have:d+(wl.drawn - d)=wl.drawn:=by omega
   rw [this];obtain ⟨hp,tp,dr,os,out⟩:=wl;simp only at htp;subst htp;rfl
  rw [e1] at h1;obtain ⟨d3,h3⟩:=ih (w:=wl) (t:=t) (t2:=t2) (d:=d+(wl.drawn - d)) (d2:=d2+(wl.drawn - d)) hst1 hw1 (fun j q=>by rw [Nat.add_assoc,Nat.add_assoc];exact ha _ q) h1 hat;exact ⟨d3,by simp only [runN,step_of_go hs2];exact h3⟩
inductive Bar (P:Program) (seg:Bool) (kb:List Item) (cs:List Frame) (Z:Frame->World->Prop):Frame->List Frame->World->Prop
 | door {fr:Frame} {w:World} (hd:At seg fr) (hz:Z fr w):Bar P seg kb cs Z fr [] w
 | step {fr:Frame} {ex:List Frame} {w:World} (F:Nat->Frame) (X:Nat->List Frame) (W:Nat->World) (V:Nat->Array Event)
  (hs:∀ d,stepG P true (Gk kb fr ex cs) (w.at d)=.go (Gk kb (F d) (X d) cs) (W d) (V d)/\(∀ e∈V d,EvOk (W d).heap.size e)/\w.heap.size<=(W d).heap.size)
  (hb:∀ d,Bar P seg kb cs Z (F d) (X d) (W d)):Bar P seg kb cs Z fr ex w
structure Inv (P:Program) (seg:Bool) (kb:List Item) (S:Mute) (cs:List Frame) (Z Z0:Frame->World->Prop) (s:Frame × List Frame × World × World):Prop where
 stack:StackOk P s.1 s.2.1
 like:Like P S s.2.2.1 s.2.2.2
 reach:∀ t,LReach P seg s.1 s.2.1 (s.2.2.2.on t 0) fun fr w=>∃ t d,Z0 fr (w.on t d)
 bar:¬ Bar P seg kb cs Z s.1 s.2.1 s.2.2.1
def Linked (P:Program) (s s1:Frame × List Frame × World × World) (t:Tape) (m:Nat):Prop :=
 ∀ (t2:Tape) (d2:Nat),(∀ j < m,∀ q,t2 (d2+j) q=t j q)->∃ es,stepG P true (G s.1 (s.2.1 ++ [bottom])) (s.2.2.2.on t2 d2)=.go (G s1.1 (s1.2.1 ++ [bottom])) (s1.2.2.2.on t2 (d2+m)) es
theorem door_of {fr:Frame} (h:At seg fr):(seg=true/\fr.mode=.run/\fr.todo=[])\/(fr.mode≠.run/\fr.defers=[]):=by
 cases seg with
 | true=>exact .inl ⟨rfl,h.1,h.2⟩
 | false=>exact .inr h
theorem path_step (hP:ProgOk P) {kb:List Item} (hk:seg=false->kb=[]) {S:Mute} {cs:List Frame} {Z Z0:Frame->World->Prop} (hZ:∀ fr w w',Like P S w w'->(∃ t d,Z0 fr (w'.on t d))->Z fr w) {s:Frame × List Frame × World × World} (h:Inv P seg kb S cs Z Z0 s) :
 ¬ Door seg s.1 s.2.1/\∃ s1 t m,Inv P seg kb S cs Z Z0 s1/\Linked P s s1 t m:=by
 obtain ⟨fr,ex,w,w'⟩:=s;obtain ⟨hst,hl,hr,hb⟩:=h;simp only at hst hl hr hb;have hw:Whole P w':=hl.heapOk;have hnd:¬ Door seg fr ex:=fun hd=>by
  obtain ⟨n,fr2,w2,hn,hd2,hz⟩:=hr w.tape
  cases n with
  | zero =>
   simp only [runN] at hn;obtain ⟨rfl,h2,rfl⟩:=lone_inj (Stepped.next.inj hn);obtain ⟨rfl,_⟩:=id hd;obtain ⟨t,d,hz⟩:=hz;exact hb (.door hd2 (hZ fr w w' hl ⟨t,d,hz⟩))
  | succ n=>exact door_ends hP hst (w':=w'.on w.tape 0) hw hd hd2 hn
 refine ⟨hnd,?_⟩;have hex:∃ d,¬ ∃ fr1 ex1 w1 es,stepG P true (Gk kb fr ex cs) (w.at d)=.go (Gk kb fr1 ex1 cs) w1 es/\(∀ e∈es,EvOk w1.heap.size e)/\w.heap.size<=w1.heap.size/\Bar P seg kb cs Z fr1 ex1 w1:=by
  apply Classical.byContradiction;intro hno;have hall:∀ d,∃ x:Frame × List Frame × World × Array Event,stepG P true (Gk kb fr ex cs) (w.at d)=.go (Gk kb x.1 x.2.1 cs) x.2.2.1 x.2.2.2/\(∀ e∈x.2.2.2,EvOk x.2.2.1.heap.size e)/\w.heap.size<=x.2.2.1.heap.size/\Bar P seg kb cs Z x.1 x.2.1 x.2.2.1:=fun d=>by
   have:=Classical.not_not.1 (not_exists.1 hno d);obtain ⟨fr1,ex1,w1,es,h⟩:=this;exact ⟨(fr1,ex1,w1,es),h⟩
  obtain ⟨f,hf⟩:=Classical.axiomOfChoice hall;exact hb (.step (fun d=>(f d).1) (fun d=>(f d).2.1) (fun d=>(f d).2.2.1) (fun d=>(f d).2.2.2) (fun d=>⟨(hf d).1,(hf d).2.1,(hf d).2.2.1⟩) fun d=>(hf d).2.2.2)
 obtain ⟨d,hd⟩:=hex;have first:∀ t,∃ n fr2 w2,runN P (n+1) (lone fr (ex ++ [bottom]) (w'.on t 0))=.next (lone fr2 [bottom] w2)/\At seg fr2/\∃ t d,Z0 fr2 (w2.on t d):=fun t=>by
  obtain ⟨n,fr2,w2,hn,hd2,hz⟩:=hr t
  cases n with
  | zero =>
   simp only [runN] at hn;obtain ⟨rfl,h2,rfl⟩:=lone_inj (Stepped.next.inj hn);have:ex=[]:=by
    cases ex with
    | nil=>rfl
    | cons a b=>simp at h2
   subst this;exact absurd ⟨rfl,door_of hd2⟩ hnd
  | succ n=>exact ⟨n,fr2,w2,hn,hd2,hz⟩
 obtain ⟨n,fr2,w2,hn,hd2,hz⟩:=first (fun j q=>w.tape (d+j) q)
 obtain ⟨fr1,ex1,wl,es,hs,hst1,hw1,h1⟩:=lone_next hP hst hnd (w':=w'.on (fun j q=>w.tape (d+j) q) 0) hw hn;have hm:=mirror_step (kb:=kb) (cs0:=[bottom]) (cs:=cs) (c:=⟨wl.drawn,w.tape,fun j q=>w.tape (d+j) q,d,0,fun j q _=>by simp⟩) hP hst hk hnd (hl.sim _) (Nat.le_of_eq (by show (stepG P true (G fr (ex ++ [bottom])) (w'.on (fun j q=>w.tape (d+j) q) 0)).world.drawn=_;rw [hs];rfl));change Mirror P _ _ _ _ _ _ (stepG P true (G fr (ex ++ [bottom])) (w'.on (fun j q=>w.tape (d+j) q) 0)) (stepG P true (Gk kb fr ex cs) (w.on w.tape d)) at hm;rw [hs] at hm;rcases hm with ⟨_,y,hy,_⟩ | ⟨fr1',ex1',w1,es1,hg,hs1,hev,hsim,hle,_⟩
 ·cases hy
 have e1:fr1=fr1':=congrArg Goroutine.frame hg;have e3:ex1=ex1':=List.append_cancel_right (congrArg Goroutine.callers hg:ex1 ++ [bottom]=ex1' ++ [bottom]);subst e1 e3;have link:Linked P (fr,ex,w,w') (fr1,ex1,w1,wl) (fun j q=>w.tape (d+j) q) wl.drawn:=fun t2 d2 ha=>by
  obtain ⟨es2,_,_,hs2⟩:=lone_shift hP hst hnd hw hs (t2:=t2) (d2:=d2) fun j q hj=>by
   have:=ha j (by omega) q;simp only [Nat.zero_add];exact this.symm
  exact ⟨es2,by simpa using hs2⟩
 refine ⟨(fr1,ex1,w1,wl),_,wl.drawn,⟨hst1,hsim.like,fun τ=>?_,fun hbar=>hd ⟨fr1,ex1,w1,es1,hs1,hev,hle,hbar⟩⟩,link⟩;obtain ⟨n',fr3,w3,hn',hd3,hz3⟩:=first (fun i q=>if i < wl.drawn then w.tape (d+i) q else τ (i - wl.drawn) q)
 obtain ⟨es3,hs3⟩:=link (fun i q=>if i < wl.drawn then w.tape (d+i) q else τ (i - wl.drawn) q) 0 fun j hj q=>by simp [hj]
 rw [runN,step_of_go hs3] at hn';simp only at hn';obtain ⟨d3,h3⟩:=shift_reach hP n' (w:=wl) (t2:=τ) (d2:=0) hst1 hw1 (fun j q=>by
  have:¬ (0+wl.drawn+j < wl.drawn):=by omega
  simp only [this,if_false]
  congr 1
  omega) hn' hd3
 obtain ⟨t4,d4,hz4⟩:=hz3;exact ⟨n',fr3,w3.on τ d3,h3,hd3,t4,d4,hz4⟩
open Classical in
theorem bar_of_reach (hP:ProgOk P) {kb:List Item} (hk:seg=false->kb=[]) {S:Mute} {cs:List Frame} {Z Z0:Frame->World->Prop} (hZ:∀ fr w w',Like P S w w'->(∃ t d,Z0 fr (w'.on t d))->Z fr w)
 {fr:Frame} {ex:List Frame} {w w':World} (hst:StackOk P fr ex) (hl:Like P S w w') (hr:∀ t,LReach P seg fr ex (w'.on t 0) Z0):Bar P seg kb cs Z fr ex w:=by
 apply Classical.byContradiction;intro hb
 let St:={ s:Frame × List Frame × World × World // Inv P seg kb S cs Z Z0 s }
 have h0:Inv P seg kb S cs Z Z0 (fr,ex,w,w'):=⟨hst,hl,fun t=>by
  obtain ⟨n,fr2,w2,a,b,c⟩:=hr t
  exact ⟨n,fr2,w2,a,b,w2.tape,w2.drawn,c⟩,hb⟩
 have hall:∀ s:St,∃ y:St × Tape × Nat,Linked P s.1 y.1.1 y.2.1 y.2.2:=fun s=>by
  obtain ⟨_,s1,t,m,h1,h2⟩:=path_step hP hk hZ s.2;exact ⟨(⟨s1,h1⟩,t,m),h2⟩
 obtain ⟨f,hf⟩:=Classical.axiomOfChoice hall
 let seq:Nat->St:=fun k=>Nat.rec ⟨_,h0⟩ (fun _ s=>(f s).1) k
 let M:Nat->Nat:=fun k=>(f (seq k)).2.2
 let E:Nat->Nat:=fun k=>Nat.rec 0 (fun i e=>e+M i) k
 have hE:∀ k,E (k+1)=E k+M k:=fun k=>rfl;have hmono:∀ k l,k<=l->E k<=E l:=fun k l h=>by
  induction l with
  | zero=>obtain rfl:k=0:=by omega
          exact Nat.le_refl _
  | succ l ih =>
   rcases Nat.lt_or_ge l k with hlt | hge
   ·obtain rfl:k=l+1:=by omega
    exact Nat.le_refl _
   ·rw [hE];exact Nat.le_trans (ih hge) (Nat.le_add_right _ _)
 let τ:Tape:=fun n q=>if h:∃ k,E k<=n/\n < E (k+1) then (f (seq (Classical.choose h))).2.1 (n - E (Classical.choose h)) q else 0
 have hτ:∀ k j q,j < M k->τ (E k+j) q=(f (seq k)).2.1 j q:=fun k j q hj=>by
  have hk:∃ k',E k'<=E k+j/\E k+j < E (k'+1):=⟨k,by omega,by rw [hE];omega⟩;have hs:=Classical.choose_spec hk;have hu:Classical.choose hk=k:=by
   rcases Nat.lt_trichotomy (Classical.choose hk) k with h | h | h
   ·have:=hmono (Classical.choose hk+1) k h;omega
   ·exact h
   ·have:=hmono (k+1) (Classical.choose hk) h;rw [hE] at this;omega
  show (if h:∃ k',E k'<=E k+j/\E k+j < E (k'+1) then (f (seq (Classical.choose h))).2.1 (E k+j - E (Classical.choose h)) q else 0)=_;rw [dif_pos hk,hu,Nat.add_sub_cancel_left]
 have hrun:∀ k,runN P k (lone fr (ex ++ [bottom]) (w'.on τ 0))=.next (lone (seq k).1.1 ((seq k).1.2.1 ++ [bottom]) ((seq k).1.2.2.2.on τ (E k))):=fun k=>by
  induction k with
  | zero=>rfl
  | succ k ih =>
   obtain ⟨es,hs⟩:=hf (seq k) τ (E k) fun j hj q=>hτ k j q hj;exact runN_end ih (step_of_go hs)
 obtain ⟨n,fr2,w2,hn,hd2,_⟩:=hr τ;rw [hrun n] at hn;obtain ⟨h1,h2,_⟩:=lone_inj (Stepped.next.inj hn);have hnd:=(path_step hP hk hZ (seq n).2).1;apply hnd;have h3:(seq n).1.2.1=[]:=by
  cases hx:(seq n).1.2.1 with
  | nil=>rfl
  | cons a b=>rw [hx] at h2;simp at h2
 rw [h1,h3];exact ⟨rfl,door_of hd2⟩
end
end Mt
namespace Mt
open Go Go.Conc
open Go.ConcN (sumTo upd sumTo_upd upd_ne upd_same)
def NS:Loc->Prop:=fun _=>False
structure Co (P:Program) (gs:Array Goroutine) (w:World) (t:Trace) (q:Nat->Nat) (fr:Frame) (cs:List Frame):Prop where
 at0:gs[0]? = some (G fr cs)
 leav:Leavers P t gs q
 past:Past NS w.heap.size t
theorem EvOk.evL {B:Nat} {e:Event} (h:EvOk B e):EvL NS B e:=by
 obtain ⟨loc,wr,sy⟩:=e;refine ⟨fun x _ hs=>hs.elim,?_,?_,?_⟩
 ·rintro rfl;rcases h with h | ⟨f,h⟩ <;> cases h
 ·rintro rfl;rcases h with h | ⟨f,h⟩ <;> cases h
 ·cases loc with
  | cell a=>exact h
  | obj r=>cases wr <;> cases sy <;> exact h
  | output=>exact h.elim
  | goroutines=>exact h.elim
  | mark m =>
   rcases h with rfl | ⟨f,rfl⟩
   ·trivial
   ·trivial
section
variable {P:Program} {gs:Array Goroutine} {w:World} {t:Trace} {q:Nat->Nat} {fr:Frame} {cs:List Frame}
theorem Co.awake (h:Co P gs w t q fr cs):∀ g∈gs,awake g:=by
 intro g hg;obtain ⟨i,hi,rfl⟩:=Array.mem_iff_getElem.1 hg;rcases Nat.eq_zero_or_pos i with rfl | hpos
 ·have:gs[0]=G fr cs:=by simpa [Array.getElem?_eq_getElem hi] using h.at0
  rw [this];exact awake_of (.inl rfl)
 ·exact awake_of ((h.leav.old i _ hpos (Array.getElem?_eq_getElem hi)).status.elim .inl fun x=>.inr (.inr x))
theorem Co.own (h:Co P gs w t q fr cs) {fr1:Frame} {cs1:List Frame} {w1:World} {es:Array Event} (hev:∀ e∈es,EvOk w1.heap.size e) (hle:w.heap.size<=w1.heap.size) :
 Co P ((gs.map (woken P (G fr cs) (G fr1 cs1) w1)).setIfInBounds 0 (G fr1 cs1)) w1 (t ++ MemOp.ofEvents 0 (G fr cs).frame.fn (G fr cs).frame.place es) q fr1 cs1:=by
 have hlt:0 < gs.size:=(Array.getElem?_eq_some_iff.1 h.at0).1;refine ⟨by simp [hlt],⟨fun j x hj hx=>?_,fun j hj=>?_⟩,(h.past.mono hle).own fun e he=>(hev e he).evL⟩
 ·have hne:0≠j:=by omega
  rw [Array.getElem?_setIfInBounds_ne hne,Array.getElem?_map] at hx;obtain ⟨y,hy,rfl⟩:=Option.map_eq_some_iff.1 hx;have hq:=h.leav.old j y hj hy;rw [woken_quitsD hq,Deaf_other t (by omega) _ (fun op hop=>by obtain ⟨e,_,rfl⟩:=Go.Conc.mem_ofEvents hop;rfl)];exact hq
 ·rw [Deaf_other t (g':=0) (by simp at hj;omega) _ (fun op hop=>by obtain ⟨e,_,rfl⟩:=Go.Conc.mem_ofEvents hop;rfl)];exact h.leav.above j (by simpa using hj)
theorem Co.slip (h:Co P gs w t q fr cs) {i:Nat} {g:Goroutine} {d:Nat} {sl:Option (Nat × Nat)} (hi:gs[i]? = some g) (hpos:0 < i) (hg:g.status=.running) :
 ∃ gs' t' q',runT P (crowd gs (w.at d) sl) i=(.next (crowd gs' (w.at d) sl),t')/\gs'.size=gs.size/\sumTo gs.size q' < sumTo gs.size q/\Co P gs' (w.at d) (t ++ t') q' fr cs:=by
 have hq:=h.leav.old i g hpos hi;have hi0:(i == 0)=false:=by simp;omega
 have hlt:i < gs.size:=(Array.getElem?_eq_some_iff.1 hi).1
 cases hqi:q i with
 | zero=>rw [hqi] at hq;rw [hq.1] at hg;cases hg
 | succ k =>
  rw [hqi] at hq;rcases hq with ⟨hf,_⟩ | ⟨_,g',es,hm,hstp,hq'⟩
  ·rw [hf] at hg;cases hg
  have hrunT:=runT_crowd_go (P:=P) (sl:=sl) (i:=i) hi (by rw [hi0];exact hstp (w.at d));have hsum:sumTo gs.size (upd q i k)+(k+1)=sumTo gs.size q+k:=by
   have:=sumTo_upd q k id hlt;simpa [hqi] using this
  refine ⟨(gs.map (woken P g g' (w.at d))).setIfInBounds i g',MemOp.ofEvents i g.frame.fn g.frame.place es,upd q i k,hrunT,by simp,by omega,?_,⟨fun j x hj hx=>?_,fun j hj=>?_⟩,h.past.mute (by omega) hm⟩
  ·have hne:i≠0:=by omega
   rw [Array.getElem?_setIfInBounds_ne hne,Array.getElem?_map,h.at0];simp [woken_run (show (G fr cs).status=.running from rfl)]
  ·by_cases hji:i=j
   ·subst hji;rw [Array.getElem?_setIfInBounds_self_of_lt (by simpa using hlt)] at hx;obtain rfl:=Option.some.inj hx;rw [upd_same,Deaf_own];exact hq'
   ·rw [Array.getElem?_setIfInBounds_ne hji,Array.getElem?_map] at hx;obtain ⟨y,hy,rfl⟩:=Option.map_eq_some_iff.1 hx;have hqj:=h.leav.old j y hj hy;rw [woken_quitsD hqj,upd_ne q k (Ne.symm hji),Deaf_other t hji _ (fun op hop=>by obtain ⟨e,_,rfl⟩:=Go.Conc.mem_ofEvents hop;rfl)];exact hqj
  ·rw [Deaf_other t (g':=i) (by simp at hj;omega) _ (fun op hop=>by obtain ⟨e,_,rfl⟩:=Go.Conc.mem_ofEvents hop;rfl)];exact h.leav.above j (by simpa using hj)
def Leads (P:Program) (K:Frame->List Frame->World->Prop) (fr:Frame) (cs:List Frame) (w:World):Prop :=
 ∀ gs sl t q,Co P gs w t q fr cs->∃ N gs' w' sl' t' q' fr' cs',runNT P N (crowd gs w sl) t=(.next (crowd gs' w' sl'),t')/\Co P gs' w' t' q' fr' cs'/\K fr' cs' w'
theorem Leads.done {K:Frame->List Frame->World->Prop} (h:K fr cs w):Leads P K fr cs w:=fun gs sl t q hc=>⟨0,gs,w,sl,t,q,fr,cs,rfl,hc,h⟩
theorem runNT_trans {P:Program} {m1:Machine} {t1:Trace} {r:Stepped × Trace}:∀ {a b:Nat} {m:Machine} {t:Trace},runNT P a m t=(.next m1,t1)->runNT P b m1 t1=r->runNT P (a+b) m t=r
 | 0,b,m,t,h,h2=>by
  simp only [runNT] at h;cases h;rw [Nat.zero_add];exact h2
 | a+1,b,m,t,h,h2=>by
  rw [show a+1+b=(a+b)+1 by omega];simp only [runNT] at h ⊢
  cases hs:stepT P m with
  | mk s ops =>
   rw [hs] at h
   cases s with
   | next m2=>exact runNT_trans (a:=a) h h2
   | ended o w=>cases h
theorem Leads.trans {K K':Frame->List Frame->World->Prop} (h:Leads P K fr cs w) (hk:∀ fr cs w,K fr cs w->Leads P K' fr cs w):Leads P K' fr cs w:=fun gs sl t q hc=>by
 obtain ⟨N,gs',w',sl',t',q',fr',cs',h1,h2,h3⟩:=h gs sl t q hc;obtain ⟨N2,gs2,w2,sl2,t2,q2,fr2,cs2,h4,h5,h6⟩:=hk fr' cs' w' h3 gs' sl' t' q' h2;exact ⟨N+N2,gs2,w2,sl2,t2,q2,fr2,cs2,runNT_trans h1 h4,h5,h6⟩
theorem Leads.mono {K K':Frame->List Frame->World->Prop} (h:Leads P K fr cs w) (hk:∀ fr cs w,K fr cs w->K' fr cs w):Leads P K' fr cs w:=h.trans fun fr cs w x=>.done (hk fr cs w x)
theorem Leads.step {K:Frame->List Frame->World->Prop} (h:∀ d,∃ fr1 cs1 w1 es,stepG P true (G fr cs) (w.at d)=.go (G fr1 cs1) w1 es/\(∀ e∈es,EvOk w1.heap.size e)/\w.heap.size<=w1.heap.size/\Leads P K fr1 cs1 w1):Leads P K fr cs w:=by
 have key:∀ M d gs sl t q,sumTo gs.size q<=M->Co P gs (w.at d) t q fr cs->∃ N gs' w' sl' t' q' fr' cs',runNT P N (crowd gs (w.at d) sl) t=(.next (crowd gs' w' sl'),t')/\Co P gs' w' t' q' fr' cs'/\K fr' cs' w':=by
  intro M
  induction M with
  | zero =>
   intro d gs sl t q hM hc;obtain ⟨i,g,d',sl',hi,hg,hst⟩:=crowd_pick (P:=P) (w:=w.at d) (sl:=sl) hc.awake ⟨0,_,hc.at0,rfl⟩;rcases Nat.eq_zero_or_pos i with rfl | hpos
   ·obtain rfl:g=G fr cs:=by rw [hc.at0] at hi;exact (Option.some.inj hi).symm
    obtain ⟨fr1,cs1,w1,es,hs,hev,hle,hL⟩:=h d';have hrunT:=runT_crowd_go (P:=P) (sl:=sl') (i:=0) hi (show stepG P (0 == 0) (G fr cs) ((w.at d).at d')=_ from hs);have hc':=hc.own (fr1:=fr1) (cs1:=cs1) (w1:=w1) hev hle;obtain ⟨N,gs',w',sl2,t',q',fr',cs',h1,h2,h3⟩:=hL _ sl' _ _ hc';exact ⟨N+1,gs',w',sl2,t',q',fr',cs',by simp only [runNT,hst,hrunT];exact h1,h2,h3⟩
   ·obtain ⟨gs',t',q',_,_,hlt,_⟩:=hc.slip (d:=d') (sl:=sl') hi hpos hg;omega
  | succ M ih =>
   intro d gs sl t q hM hc;obtain ⟨i,g,d',sl',hi,hg,hst⟩:=crowd_pick (P:=P) (w:=w.at d) (sl:=sl) hc.awake ⟨0,_,hc.at0,rfl⟩;rcases Nat.eq_zero_or_pos i with rfl | hpos
   ·obtain rfl:g=G fr cs:=by rw [hc.at0] at hi;exact (Option.some.inj hi).symm
    obtain ⟨fr1,cs1,w1,es,hs,hev,hle,hL⟩:=h d';have hrunT:=runT_crowd_go (P:=P) (sl:=sl') (i:=0) hi (show stepG P (0 == 0) (G fr cs) ((w.at d).at d')=_ from hs);have hc':=hc.own (fr1:=fr1) (cs1:=cs1) (w1:=w1) hev hle;obtain ⟨N,gs',w',sl2,t',q',fr',cs',h1,h2,h3⟩:=hL _ sl' _ _ hc';exact ⟨N+1,gs',w',sl2,t',q',fr',cs',by simp only [runNT,hst,hrunT];exact h1,h2,h3⟩
   ·obtain ⟨gs',t',q',hr,hsz,hlt,hc'⟩:=hc.slip (d:=d') (sl:=sl') hi hpos hg;obtain ⟨N,gs2,w2,sl2,t2,q2,fr2,cs2,h1,h2,h3⟩:=ih d' gs' sl' (t ++ t') q' (by rw [hsz];omega) hc';have h1':runNT P N (crowd gs' ((w.at d).at d') sl') (t ++ t')=(.next (crowd gs2 w2 sl2),t2):=h1;exact ⟨N+1,gs2,w2,sl2,t2,q2,fr2,cs2,by simp only [runNT,hst,hr];exact h1',h2,h3⟩
 intro gs sl t q hc;exact key _ w.drawn gs sl t q (Nat.le_refl _) hc
theorem Bar.leads {seg:Bool} {kb:List Item} {cs0:List Frame} {Z:Frame->World->Prop} {ex:List Frame} (h:Bar P seg kb cs0 Z fr ex w):Leads P (fun fr' cs' w'=>∃ fr2,fr'=upF kb fr2/\cs'=cs0/\At seg fr2/\Z fr2 w') (upF (kOf kb ex) fr) (ups kb ex ++ cs0) w:=by
 induction h with
 | @door fr w hd hz=>exact .done ⟨fr,rfl,rfl,hd,hz⟩
 | step F X W V hs hb ih=>exact .step fun d=>⟨_,_,W d,V d,(hs d).1,(hs d).2.1,(hs d).2.2,ih d⟩
end
def muteObj (o:Obj):Obj:=if bad o then .coro none else o
def muted (w:World):World:={ w with heap:=w.heap.map muteObj }
def muteOf (w:World):Mute:=⟨fun r=>∃ o,w.heap[r]? = some o/\bad o=true,fun r=>w.heap[r]?⟩
theorem muted_like (P:Program) (w:World):Like P (muteOf w) w (muted w):=by
 refine ⟨⟨rfl,rfl,0,rfl,rfl⟩,rfl,rfl,by simp [muted],fun r hr=>?_,fun r hr=>?_,fun r o ho=>?_⟩
 ·show (w.heap.map muteObj)[r]? = w.heap[r]?;rw [Array.getElem?_map]
  cases hc:w.heap[r]? with
  | none=>rfl
  | some o =>
   have:bad o=false:=by
    cases hb:bad o with
    | false=>rfl
    | true=>exact absurd ⟨o,hc,hb⟩ hr
   simp [muteObj,this]
 ·obtain ⟨o,ho,hb⟩:=hr;refine ⟨⟨o,ho,hb,ho⟩,?_⟩;show (w.heap.map muteObj)[r]? = _;rw [Array.getElem?_map,ho];simp [muteObj,hb]
 ·have ho:(w.heap.map muteObj)[r]? = some o:=ho;rw [Array.getElem?_map] at ho;obtain ⟨o',ho',rfl⟩:=Option.map_eq_some_iff.1 ho;unfold muteObj;split
  ·trivial
  ·rename_i hb
   cases o' <;> first | trivial | exact absurd rfl hb
section
variable {P:Program} {b:Frame} {a:Act} {w w':World} {k:List Item} {cs:List Frame} {S:Mute}
def MarksOnly (ds:List Deferred):Prop:=∀ d∈ds,∃ r,d.target=.collected r
theorem wp_leads (hP:ProgOk P) {c:Code} (hl:Like P S w w') (hc:codeOk P c=true) (hb:b.kind=.normal) (hd:MarksOnly a.defers) {Z:Act->World->Prop}
 (h:∀ t,c.wp P (fun e a' w2=>e=.normal/\∃ t d,Z a' (w2.on t d)) a (w'.on t 0)) :
 Leads P (fun fr' cs' w1=>∃ a' w1',fr'=b.at a' k/\cs'=cs/\Like P S w1 w1'/\∃ t d,Z a' (w1'.on t d)) (b.at a (.code c::k)) cs w:=by
 have hst:StackOk P (b.at a [.code c]) []:=⟨⟨fun it hit=>by
  simp only [Frame.at,List.mem_singleton] at hit
  subst hit
  exact hc,hb,hd⟩,fun _ x=>(by cases x),fun _ x=>(by cases x),rfl⟩
 have hbar:=bar_of_reach (seg:=true) (kb:=k) (cs:=cs) (Z:=fun fr w1=>∃ a' w1',fr=b.at a' []/\Like P S w1 w1'/\∃ t d,Z a' (w1'.on t d)) (Z0:=fun fr w2=>∃ a',fr=b.at a' []/\∃ t d,Z a' (w2.on t d)) hP (fun x=>by cases x)
  (fun fr w1 w1' hl1 ⟨t,d,a',e,t2,d2,hz⟩=>⟨a',w1',e,hl1,t2,d2,hz⟩) hst hl fun t=>by
    obtain ⟨e,a',w2,⟨rfl,hz⟩,n,hn⟩:=h t b [] [bottom];exact ⟨n,b.at a' [],w2,hn,⟨rfl,rfl⟩,a',rfl,hz⟩
 refine (hbar.leads).mono fun fr' cs' w1 ⟨fr2,e1,e2,_,a',w1',e3,hl1,hz⟩=>⟨a',w1',?_,e2,hl1,hz⟩;rw [e1,e3];rfl
theorem leads_go {K:Frame->List Frame->World->Prop} {fr fr1:Frame} {cs1:List Frame} (h:∀ d,stepG P true (G fr cs) (w.at d)=.go (G fr1 cs1) (w.at d)) (hk:∀ d,Leads P K fr1 cs1 (w.at d)):Leads P K fr cs w :=
 .step fun d=>⟨fr1,cs1,w.at d,#[],h d,by simp,Nat.le_refl _,hk d⟩
theorem leads_seq {K:Frame->List Frame->World->Prop} {x y:Code} (h:∀ d,Leads P K (b.at a (.code x::.code y::k)) cs (w.at d)):Leads P K (b.at a (.code (.seq x y)::k)) cs w:=leads_go (fun d=>rfl) h
theorem leads_skip {K:Frame->List Frame->World->Prop} (h:∀ d,Leads P K (b.at a k) cs (w.at d)):Leads P K (b.at a (.code .skip::k)) cs w:=leads_go (fun d=>rfl) h
theorem leads_block {K:Frame->List Frame->World->Prop} {id:Nat} {x:Code} (h:∀ d,Leads P K (b.at a (.code x::.inBlock id::k)) cs (w.at d)):Leads P K (b.at a (.code (.block id x)::k)) cs w:=leads_go (fun d=>rfl) h
theorem leads_cond {K:Frame->List Frame->World->Prop} {x:Operand} {y z:Code} {t:Bool} (hx:a.eval x=.bool t) (h:∀ d,Leads P K (b.at a (.code (if t then y else z)::k)) cs (w.at d)):Leads P K (b.at a (.code (.cond x y z)::k)) cs w :=
 leads_go (fun d=>by
  have:=Frame.eval_at b a (.code (.cond x y z)::k) x
  simp only [Frame.at] at this
  simp [G,stepG,stepG.exec,Frame.at,this,hx]) h
theorem leads_ret {K:Frame->List Frame->World->Prop} (h:∀ d,Leads P K { b.at a (.code .ret::k) with mode:=.returning } cs (w.at d)):Leads P K (b.at a (.code .ret::k)) cs w:=leads_go (fun d=>rfl) h
end
end Mt
namespace Mt
open Go Go.Conc
section
variable {P:Program}
def Leaving0 (P:Program) (Post:Value->World->Prop) (fr:Frame) (cs:List Frame) (w:World):Prop :=
 cs=[]/\fr.mode=.returning/\fr.kind=.normal/\fr.defers=[]/\P.inits.idxOf? fr.fn=none /\
  ∃ v fn,P.funcs[fr.fn]? = some fn/\∀ d,Post v (w.at d)/\∃ es,(results fn fr.tmps).runT P (w.at d) #[]=(.ok v (w.at d),es)/\∀ e∈es,EvOk w.heap.size e
theorem runN_trans {m1:Machine} {r:Stepped}:∀ {a b:Nat} {m:Machine},runN P a m=.next m1->runN P b m1=r->runN P (a+b) m=r
 | 0,b,m,h,h2=>by
  simp only [runN] at h;cases h;rw [Nat.zero_add];exact h2
 | a+1,b,m,h,h2=>by
  rw [show a+1+b=(a+b)+1 by omega];simp only [runN] at h ⊢
  cases hs:step P m with
  | next m2=>rw [hs] at h;exact runN_trans (a:=a) h h2
  | ended o w=>rw [hs] at h;cases h
theorem ends_good {Post:Value->World->Prop} {f:FuncId} {args:Array Value} {W:World} (h:Leads P (Leaving0 P Post) (Frame.enter P f args .normal) [] W) :
 ∃ M last o w' t',runNT P (M+1) (solo (G (Frame.enter P f args .normal) []) W) #[]=(.ended o w',t')/\runN P M (solo (G (Frame.enter P f args .normal) []) W)=.next last/\step P last=.ended o w'/\Good P Post last o w' t':=by
 obtain ⟨N,gs,w,sl,t,q,fr,cs,hr,hc,rfl,hm,hk,hdf,hi,v,fn,hf,hd⟩:=h #[G (Frame.enter P f args .normal) []] none #[] (fun _=>0)
  ⟨rfl,leavers_one P _,past_nil.mono (Nat.zero_le _)⟩
 have hG:Goes P true AtRel (fun _ _ _=>False) (AtEnd P NS w.heap.size Post) 0 (G fr []) w:=by
  rintro w1 ⟨d,rfl⟩;obtain ⟨hp,es,hr2,hev⟩:=hd d;refine ⟨rfl,v,seen P fr.fn es ++ #[],?_,fun e he=>(hev e (seen_mem (by simpa using he))).evL,hp⟩;obtain ⟨fn0,tmps,td,dfs,md,kd,ro⟩:=fr;simp only at hk hm hdf hf hi hr2;subst hk hm hdf;show unwind P true ⟨fn0,tmps,td,[],.returning,.normal,ro⟩ [] none (w.at d)=_;unfold unwind;simp only [hf];rw [hr2];simp only [doReturn,hi];rfl
 obtain ⟨N2,last,o,w',t',h1,h2,h3,h4⟩:=beside_ends (sl:=sl) (fun _ _ _ x=>x.elim) hc.at0 hc.leav hc.past hG;refine ⟨N+N2,last,o,w',t',?_,?_,h3,h4⟩
 ·rw [Nat.add_assoc];exact runNT_trans hr h1
 ·refine runN_trans ?_ h2;rw [<- runNT_fst P N _ #[]];exact congrArg Prod.fst hr
end
abbrev Hold:=Nat->Option Obj
def Holds (w:World) (F:Hold):Prop:=∀ r o,F r=some o->w.heap[r]? = some o
def keyOf (F:Hold) (r:Nat):Prop:=∃ o,F r=some o
def Hold.set (F:Hold) (r:Nat) (o:Obj):Hold:=fun x=>if x=r then some o else F x
theorem Hold.set_same (F:Hold) (r:Nat) (o:Obj):F.set r o r=some o:=by simp [Hold.set]
theorem Hold.set_ne (F:Hold) {r x:Nat} (o:Obj) (h:x≠r):F.set r o x=F x:=by simp [Hold.set,h]
structure Meets (w:World) (own ro:Hold):Prop where
 mine:Holds w own
 shared:Holds w ro
 apart:∀ r o,own r=some o->ro r=none
theorem Holds.lt {w:World} {F:Hold} (h:Holds w F) {r:Nat} (hr:keyOf F r):r < w.heap.size:=by
 obtain ⟨o,hx⟩:=hr;exact (Array.getElem?_eq_some_iff.1 (h r o hx)).1
def EvOwn (own ro:Hold) (e:Event):Prop :=
 match e.loc with
 | .cell a=>e.sync=false/\(keyOf own a.block\/(e.write=false/\keyOf ro a.block))
 | .mark m=>m=.noRoom\/∃ f,m=.extern f
 | _=>False
structure Turn (ro own own':Hold) (w w':World) (es:Array Event):Prop where
 holds:Meets w' own' ro
 size:w.heap.size<=w'.heap.size
 kept:∀ r,r < w.heap.size->¬ keyOf own r->w'.heap[r]? = w.heap[r]?
 rest:w'.os=w.os/\w'.tape=w.tape/\w'.output=w.output
 keys:∀ r,keyOf own' r->keyOf own r\/w.heap.size<=r
 evs:∀ e∈es,EvOwn own' ro e
theorem Turn.idle {ro own:Hold} {w:World} (h:Meets w own ro):Turn ro own own w w #[] :=
 ⟨h,Nat.le_refl _,fun _ _ _=>rfl,⟨rfl,rfl,rfl⟩,fun _ h=>.inl h,by simp⟩
def Walk (P:Program) (main:Bool) (ro:Hold) (Stop:Goroutine->Hold->Prop):Nat->Goroutine->Hold->Prop
 | 0,g,own=>Stop g own
 | n+1,g,own=>Stop g own\/(g.status=.running/\∀ w,Meets w own ro->∃ g' w' es own',stepG P main g w=.go g' w' es/\Turn ro own own' w w' es/\Walk P main ro Stop n g' own')
section
variable {P:Program} {main:Bool} {ro:Hold} {Stop:Goroutine->Hold->Prop}
theorem Walk.more {n:Nat} {g:Goroutine} {own:Hold} (h:Walk P main ro Stop n g own):Walk P main ro Stop (n+1) g own:=by
 induction n generalizing g own with
 | zero=>exact .inl h
 | succ n ih =>
  rcases h with h | ⟨hr,h⟩
  ·exact .inl h
  ·refine .inr ⟨hr,fun w hw=>?_⟩;obtain ⟨g',w',es,own',h1,h2,h3⟩:=h w hw;exact ⟨g',w',es,own',h1,h2,ih h3⟩
theorem Walk.mono {n n':Nat} {g:Goroutine} {own:Hold} (h:Walk P main ro Stop n g own) (hn:n<=n'):Walk P main ro Stop n' g own:=by
 induction hn with
 | refl=>exact h
 | step _ ih=>exact ih.more
theorem Walk.ctl {n:Nat} {fr fr':Frame} {cs cs':List Frame} {own:Hold} (h:∀ w,stepG P main (G fr cs) w=.go (G fr' cs') w) (hk:Walk P main ro Stop n (G fr' cs') own):Walk P main ro Stop (n+1) (G fr cs) own :=
 .inr ⟨rfl,fun w hw=>⟨_,w,#[],own,h w,.idle hw,hk⟩⟩
def AfterW (P:Program) (main:Bool) (ro:Hold) (Stop:Goroutine->Hold->Prop) (m:Nat) (b:Frame) (k:List Item) (cs:List Frame):Exit->Act->Hold->Prop
 | .normal,a,own=>Walk P main ro Stop m (G (b.at a k) cs) own
 | .exit id,a,own=>∃ k',exitTo id k=some k'/\Walk P main ro Stop m (G (b.at a k') cs) own
 | _,_,_=>False
theorem AfterW.mono {m m':Nat} {b:Frame} {k:List Item} {cs:List Frame} {e:Exit} {a:Act} {own:Hold} (h:AfterW P main ro Stop m b k cs e a own) (hm:m<=m'):AfterW P main ro Stop m' b k cs e a own:=by
 cases e with
 | normal=>exact Walk.mono h hm
 | exit id=>obtain ⟨k',hk,hg⟩:=h;exact ⟨k',hk,hg.mono hm⟩
 | _=>exact h
theorem AfterW.push {m:Nat} {b:Frame} {x:Item} {k:List Item} {cs:List Frame} {e:Exit} {a:Act} {own:Hold} (hx:x.plain=true) (he:e≠.normal)
 (h:AfterW P main ro Stop m b k cs e a own):AfterW P main ro Stop m b (x::k) cs e a own:=by
 cases e with
 | normal=>exact absurd rfl he
 | exit id=>obtain ⟨k',hk,hg⟩:=h;exact ⟨k',by cases x <;> simp_all [exitTo,Item.plain],hg⟩
 | _=>exact h
end
def WC (P:Program) (main:Bool) (ro:Hold) (c:Code) (n:Nat) (Q:Exit->Act->Hold->Prop) (a:Act) (own:Hold):Prop :=
 ∀ (b:Frame) (k:List Item) (cs:List Frame) (Stop:Goroutine->Hold->Prop) (m:Nat),b.kind≠.early->(∀ e a' own',Q e a' own'->AfterW P main ro Stop m b k cs e a' own')->Walk P main ro Stop (m+n) (G (b.at a (.code c::k)) cs) own
def WO (P:Program) (main:Bool) (ro:Hold) (ops:Array Oper) (todo:List Nat) (n:Nat) (Q:Act->Hold->Prop) (a:Act) (own:Hold):Prop :=
 ∀ (b:Frame) (k:List Item) (cs:List Frame) (Stop:Goroutine->Hold->Prop) (m:Nat),b.kind≠.early->(∀ a' own',Q a' own'->Walk P main ro Stop m (G (b.at a' k) cs) own')->Walk P main ro Stop (m+n) (G (b.at a (.inRegion ops todo::k)) cs) own
section
variable {P:Program} {main:Bool} {ro own:Hold} {Q:Exit->Act->Hold->Prop} {a:Act}
theorem wc_more {c:Code} {n n':Nat} (h:WC P main ro c n Q a own) (hn:n<=n'):WC P main ro c n' Q a own:=fun b k cs Stop m hb hk=>(h b k cs Stop m hb hk).mono (by omega)
theorem wc_mono {c:Code} {n:Nat} {Q':Exit->Act->Hold->Prop} (h:WC P main ro c n Q a own) (hq:∀ e a own,Q e a own->Q' e a own):WC P main ro c n Q' a own :=
 fun b k cs Stop m hb hk=>h b k cs Stop m hb fun e a' o q=>hk e a' o (hq e a' o q)
theorem wc_skip (h:Q .normal a own):WC P main ro .skip 1 Q a own:=fun b k cs Stop m hb hk=>Walk.ctl (fun w=>stepG_skip) (hk _ _ _ h)
theorem wc_exit {id:Nat} (h:Q (.exit id) a own):WC P main ro (.exit id) 1 Q a own:=fun b k cs Stop m hb hk=>by
 obtain ⟨k',h1,h2⟩:=hk _ _ _ h;exact Walk.ctl (fun w=>stepG_exit h1) h2
def ThenW (next:Act->Hold->Prop) (Q:Exit->Act->Hold->Prop):Exit->Act->Hold->Prop
 | .normal,a,own=>next a own
 | e,a,own=>Q e a own
theorem wc_seq {x y:Code} {n1 n2:Nat} (h:WC P main ro x n1 (ThenW (fun a' o'=>WC P main ro y n2 Q a' o') Q) a own):WC P main ro (.seq x y) (n1+n2+1) Q a own:=by
 intro b k cs Stop m hb hk;have hx:Walk P main ro Stop (m+n2+n1) (G (b.at a (.code x::.code y::k)) cs) own:=by
  refine h b (.code y::k) cs Stop (m+n2) hb fun e a' o' q=>?_
  cases e with
  | normal=>exact q b k cs Stop m hb hk
  | exit id=>exact ((hk _ _ _ q).mono (Nat.le_add_right _ _)).push rfl (by simp)
  | ret=>exact hk _ _ _ q
  | goto l=>exact hk _ _ _ q
  | panic ch=>exact hk _ _ _ q
  | outgrown=>exact hk _ _ _ q
 rw [show m+(n1+n2+1)=(m+n2+n1)+1 by omega];exact Walk.ctl (fun w=>stepG_seq) hx
theorem wc_cond {c:Operand} {x y:Code} {t:Bool} {n:Nat} (hc:a.eval c=.bool t) (h:WC P main ro (if t then x else y) n Q a own):WC P main ro (.cond c x y) (n+1) Q a own :=
 fun b k cs Stop m hb hk=>Walk.ctl (fun w=>stepG_cond hc) (h b k cs Stop m hb hk)
def BlockW (id:Nat) (Q:Exit->Act->Hold->Prop):Exit->Act->Hold->Prop
 | .exit id',a,own=>if id'=id then Q .normal a own else Q (.exit id') a own
 | e,a,own=>Q e a own
theorem wc_block {id:Nat} {c:Code} {n:Nat} (h:WC P main ro c n (BlockW id Q) a own):WC P main ro (.block id c) (n+2) Q a own:=by
 intro b k cs Stop m hb hk;have hx:Walk P main ro Stop (m+1+n) (G (b.at a (.code c::.inBlock id::k)) cs) own:=by
  refine h b (.inBlock id::k) cs Stop (m+1) hb fun e a' o' q=>?_
  cases e with
  | normal=>exact Walk.ctl (fun w=>stepG_inBlock) (hk _ _ _ q)
  | exit id' =>
   by_cases hid:id'=id
   ·simp only [BlockW,hid,if_true] at q;exact ⟨k,by simp [exitTo,hid],Walk.more (hk _ _ _ q)⟩
   ·simp only [BlockW,hid,if_false] at q;obtain ⟨k',hk',hg⟩:=hk _ _ _ q;have:(id == id')=false:=by simp;exact fun h=>hid h.symm
    exact ⟨k',by simp [exitTo,this,hk'],hg.more⟩
  | _=>exact hk _ _ _ q
 rw [show m+(n+2)=(m+1+n)+1 by omega];exact Walk.ctl (fun w=>stepG_block) hx
theorem wc_loop {c:Code} (I:Nat->Act->Hold->Prop) (r N:Nat) (h0:I N a own)
 (round:∀ n a own,I n a own->WC P main ro c r (ThenW (fun a' o'=>∃ n',n=n'+1/\I n' a' o') Q) a own):WC P main ro (.loop c) ((N+1) * (r+1)+1) Q a own:=by
 intro b k cs Stop m hb hk;have key:∀ N a own,I N a own->Walk P main ro Stop (m+(N+1) * (r+1)) (G (b.at a (.code c::.inLoop c::k)) cs) own:=by
  intro N
  induction N with
  | zero =>
   intro a own hI;have:=round 0 a own hI b (.inLoop c::k) cs Stop (m+1) hb fun e a' o' q=>by
    cases e with
    | normal=>obtain ⟨n',h,_⟩:=q;omega
    | exit id=>exact ((hk _ _ _ q).mono (by omega)).push rfl (by simp)
    | _=>exact hk _ _ _ q
   exact this.mono (by simp;omega)
  | succ N ih =>
   intro a own hI;have:=round (N+1) a own hI b (.inLoop c::k) cs Stop (m+(N+1) * (r+1)+1) hb fun e a' o' q=>by
    cases e with
    | normal =>
     obtain ⟨n',h,hI'⟩:=q;obtain rfl:N=n':=by omega
     exact Walk.ctl (fun w=>stepG_inLoop) (ih a' o' hI')
    | exit id=>exact ((hk _ _ _ q).mono (by omega)).push rfl (by simp)
    | _=>exact hk _ _ _ q
   refine this.mono ?_;have:(N+1+1) * (r+1)=(N+1) * (r+1)+(r+1):=by rw [Nat.succ_mul]
   omega
 rw [show m+((N+1) * (r+1)+1)=(m+(N+1) * (r+1))+1 by omega];exact Walk.ctl (fun w=>stepG_loop) (key N a own h0)
theorem wc_region {id:Nat} {ops:Array Oper} {n:Nat} (h:WO P main ro ops (List.range ops.size) n (fun a' o'=>Q .normal a' o') a own):WC P main ro (.region id ops false) (n+1) Q a own :=
 fun b k cs Stop m hb hk=>Walk.ctl (fun w=>stepG_region) (h b k cs Stop m hb fun a' o' q=>hk _ _ _ q)
theorem wo_nil {Q:Act->Hold->Prop} {ops:Array Oper} (h:Q a own):WO P main ro ops [] 1 Q a own:=fun b k cs Stop m hb hk=>Walk.ctl (fun w=>stepG_region_end) (hk _ _ h)
theorem wo_cons {Q:Act->Hold->Prop} {ops:Array Oper} {i:Nat} {rest:List Nat} {o:Oper} {n:Nat} (ho:ops[i]? = some o) (hw:Region.wanted o (yielded ops a.tmps)=true)
 (h:∀ w,Meets w own ro->∃ v w' own',((execOp a.eval o).run P w=.ok (.value v) w'\/(v=undef/\(execOp a.eval o).run P w=.ok .skip w'))/\Turn ro own own' w w' ((execOp a.eval o).events P w #[])/\WO P main ro ops rest n Q (a.put o.dst v) own') :
 WO P main ro ops (i::rest) (n+1) Q a own:=by
 intro b k cs Stop m hb hk;refine .inr ⟨rfl,fun w hH=>?_⟩;obtain ⟨v,w',own',hr,ht,hn⟩:=h w hH;refine ⟨G (b.at (a.put o.dst v) (.inRegion ops rest::k)) cs,w',listed P b.fn a o w,own',?_,⟨ht.holds,ht.size,ht.kept,ht.rest,ht.keys,fun e he=>ht.evs e (seen_mem he)⟩,hn b k cs Stop m hb hk⟩;rcases hr with hr | ⟨rfl,hr⟩
 ·exact stepG_value ho hw hb hr
 ·exact stepG_none ho hw hb hr
end
section
variable {P:Program} {main:Bool} {ro own:Hold} {Q:Act->Hold->Prop} {a:Act} {ops:Array Oper} {i:Nat} {rest:List Nat} {o:Oper} {n:Nat}
end
end Mt
end Go.Proofs.YtdjnkplgllakcaaGreatDoor
