/- the fault laws -/
import Derived.Test.YtgkajecjbflbbaaGreatDoorGB04
import Derived.Conc.MuSpec
set_option maxHeartbeats 16000000
set_option maxRecDepth 100000
set_option linter.all false
namespace Go.Proofs.YtgkajecjbflbbaaGreatDoor
namespace Mob
open Go.ConcN (sumTo upd sumTo_upd upd_ne upd_same sumTo_congr le_sumTo sumTo_le)
structure Wd where
 L:Bool
 W:Bool
 S:Bool
 c:Nat
 deriving DecidableEq
inductive Pc where
 | ld | l0 | r0 | sq | c1 | r1 | c2 | r3 | t1 | s1 | t2 | r2 | a1 | le | la | rl | ur | ud | u0 | uc | uo | us | ux | ue | wr | wk | d1 | d2 | d3 | d4 | quit
 deriving DecidableEq
structure Th where
 pc:Pc
 old:Wd:=⟨false,false,false,0⟩
 aw:Bool:=false
 sv:Bool:=false
 it:Nat:=0
 ws:Bool:=false
 deriving DecidableEq
structure Sh where
 mu:Wd
 ms:Nat
 v:Nat
 wt:Bool
 ws:Nat
 deriving DecidableEq
def hd (T:Th):Th:=if T.old.L && !T.old.S then { T with pc:=.sq } else { T with pc:=.c2 }
def nw (T:Th):Wd:=⟨T.old.L || !T.old.S,T.old.W && !T.aw,T.old.S || (T.sv && T.old.L),T.old.c+(T.old.L || T.old.S).toNat⟩
def uh (T:Th):Th:=if T.old.c=0\/T.old.L=true\/T.old.W=true\/T.old.S=true then { T with pc:=.ue } else { T with pc:=.uc }
def at_ (p:Pc):Th:={ pc:=p }
def mv (T:Th) (s:Sh):List (Th × Sh) :=
 match T.pc with
 | .ld=>[(at_ .l0,s)]
 | .l0=>if s.mu=⟨false,false,false,0⟩ then [(at_ .le,{ s with mu:=⟨true,false,false,0⟩ })] else [(at_ .r0,s)]
 | .r0=>[(hd { pc:=.r0,old:=s.mu },s)]
 | .sq=>({ T with pc:=.c2 },s)::(if T.it < 4 then [({ T with pc:=if T.aw=false/\T.old.W=false/\T.old.c≠0 then .c1 else .r1 },s)] else [])
 | .c1=>if s.mu=T.old then [({ T with pc:=.r1,aw:=true },{ s with mu:=⟨s.mu.L,true,s.mu.S,s.mu.c⟩ })] else [({ T with pc:=.r1 },s)]
 | .r1=>[(hd { T with old:=s.mu,it:=T.it+1 },s)]
 | .c2=>if s.mu=T.old then (if T.old.L=false/\T.old.S=false then [(at_ .le,{ s with mu:=nw T })] else [({ T with pc:=if T.ws then .s1 else .t1 },{ s with mu:=nw T })]) else [({ T with pc:=.r3 },s)]
 | .r3=>[(hd { T with old:=s.mu },s)]
 | .t1=>[({ T with pc:=.s1,ws:=true },s),({ T with pc:=.s1,ws:=false },s)]
 | .s1=>if s.ms=0 then [] else [({ T with pc:=if T.sv then .r2 else .t2 },{ s with ms:=s.ms - 1 })]
 | .t2=>[({ T with pc:=.r2 },s),({ T with pc:=.r2,sv:=true },s)]
 | .r2=>if s.mu.S then [({ T with pc:=.a1,old:=s.mu },s)] else [(hd { T with old:=s.mu,aw:=true,it:=0 },s)]
 | .a1=>[(at_ .le,{ s with mu:=⟨true,s.mu.W,T.sv && !decide (T.old.c=1),s.mu.c - 1⟩ })]
 | .le=>[(at_ .la,s)]
 | .la=>[(at_ .rl,s)]
 | .rl=>[(at_ .ur,s)]
 | .ur=>[(at_ .ud,s)]
 | .ud=>[(at_ .u0,s)]
 | .u0=>[((if s.mu.S then at_ .ux else uh { pc:=.uo,old:=⟨false,s.mu.W,s.mu.S,s.mu.c⟩ }),{ s with mu:=⟨false,s.mu.W,s.mu.S,s.mu.c⟩ })]
 | .uc=>if s.mu=T.old then [(at_ .us,{ s with mu:=⟨s.mu.L,true,s.mu.S,s.mu.c - 1⟩ })] else [({ T with pc:=.uo },s)]
 | .uo=>[(uh { pc:=.uo,old:=s.mu },s)]
 | .us=>[(at_ .ue,{ s with ms:=s.ms+1 })]
 | .ux=>[(at_ .ue,{ s with ms:=s.ms+1 })]
 | .ue=>[(at_ .wr,s)]
 | .wr=>[(at_ .wk,s)]
 | .wk=>[(at_ .d1,s)]
 | .d1=>[((if s.v=1/\s.wt=true then at_ .d2 else at_ .quit),{ s with v:=s.v - 1 })]
 | .d2=>[(at_ .d3,s)]
 | .d3=>[(at_ .d4,{ s with v:=0,wt:=false })]
 | .d4=>[(at_ .quit,{ s with ws:=s.ws+1 })]
 | .quit=>[]
def fH (T:Th):Nat:=match T.pc with | .le | .la | .rl | .ur | .ud | .u0=>1 | _=>0
def fQ (T:Th):Nat:=match T.pc with | .t1 | .s1=>1 | _=>0
def fT (T:Th):Nat:=match T.pc with | .t2 | .r2=>1 | _=>0
def fA (T:Th):Nat:=match T.pc with | .a1=>1 | _=>0
def fL (T:Th):Nat:=match T.pc with | .sq | .c1 | .r1 | .c2 | .r3=>T.aw.toNat | _=>0
def fU (T:Th):Nat:=match T.pc with | .us=>1 | _=>0
def fX (T:Th):Nat:=match T.pc with | .ux=>1 | _=>0
def fC (T:Th):Nat:=match T.pc with | .uc | .uo=>1 | _=>0
def fP (T:Th):Nat:=match T.pc with | .d2 | .d3 | .d4 | .quit=>0 | _=>1
def fD (T:Th):Nat:=match T.pc with | .d2 | .d3=>1 | _=>0
def fE (T:Th):Nat:=match T.pc with | .d4=>1 | _=>0
def cnt (f:Th->Nat) (m:Nat) (th:Nat->Th):Nat:=sumTo m fun i=>f (th i)
structure TOk (T:Th):Prop where
 sq:T.pc=.sq->T.old.L=true/\T.old.S=false
 c1:T.pc=.c1->T.old.L=true/\T.old.S=false/\T.old.W=false/\T.aw=false/\T.old.c≠0/\T.it < 4
 r1:T.pc=.r1->T.it < 4
 aw:T.pc=.sq\/T.pc=.c2->T.aw=true->T.old.W=true/\T.old.S=false
 sv:T.pc=.sq\/T.pc=.c1\/T.pc=.r1\/T.pc=.c2\/T.pc=.r3->T.sv=true->T.aw=true
 uc:T.pc=.uc->T.old.L=false/\T.old.W=false/\T.old.S=false/\1<=T.old.c
 a1:T.pc=.a1->T.old.L=false/\T.old.W=false/\T.old.S=true/\1<=T.old.c
structure InvL (m:Nat) (th:Nat->Th) (mu:Wd) (ms:Nat):Prop where
 held:cnt fH m th=mu.L.toNat
 calm:mu.S=false->cnt fU m th+ms+cnt fT m th+cnt fL m th=mu.W.toNat/\cnt fX m th=0/\cnt fA m th=0/\mu.c+cnt fU m th+ms=cnt fQ m th
 starve:mu.S=true->mu.W=false/\cnt fL m th=0/\cnt fU m th=0/\cnt fX m th+ms+cnt fT m th+cnt fA m th+mu.L.toNat=1/\mu.c=cnt fQ m th+cnt fT m th+cnt fA m th
 wake:mu.S=false->mu.L=false->mu.W=false->0 < mu.c->1<=cnt fC m th
inductive MPc where
 | kd | ad | kr | ke | go | wd | w1 | w2 | wm | w3 | w4 | we | aq | fin
 deriving DecidableEq
structure MTh where
 pc:MPc
 vo:Nat:=0
 deriving DecidableEq
def mat (p:MPc):MTh:={ pc:=p }
def mvM (T:MTh) (s:Sh):List (MTh × Sh) :=
 match T.pc with
 | .kd=>[(mat .ad,s)]
 | .ad=>[((if s.v=0 then mat .kr else mat .ke),{ s with v:=s.v+1 })]
 | .kr=>[(mat .ke,s)]
 | .ke=>[(mat .go,s)]
 | .go=>[]
 | .wd=>[(mat .w1,s)]
 | .w1=>if s.v=0 then [(mat .we,s)] else [({ pc:=.w2,vo:=s.v },s)]
 | .w2=>if s.v=T.vo then [(mat .wm,{ s with wt:=true })] else [(mat .w1,s)]
 | .wm=>[(mat .w3,s)]
 | .w3=>if s.ws=0 then [] else [(mat .w4,{ s with ws:=s.ws - 1 })]
 | .w4=>[(mat .we,s)]
 | .we=>[(mat .aq,s)]
 | .aq=>[(mat .fin,s)]
 | .fin=>[]
def InvW (n m:Nat) (th:Nat->Th) (s:Sh) (M:MTh):Prop :=
 match M.pc with
 | .kd | .ad=>m < n/\s.v=cnt fP m th/\s.wt=false/\s.ws=0/\cnt fD m th=0/\cnt fE m th=0
 | .kr | .ke | .go=>m < n/\s.v=cnt fP m th+1/\s.wt=false/\s.ws=0/\cnt fD m th=0/\cnt fE m th=0
 | .wd | .w1=>m=n/\s.v=cnt fP m th/\s.wt=false/\s.ws=0/\cnt fD m th=0/\cnt fE m th=0
 | .w2=>m=n/\s.v=cnt fP m th/\s.wt=false/\s.ws=0/\cnt fD m th=0/\cnt fE m th=0/\M.vo≠0
 | .wm | .w3=>m=n/\s.v=cnt fP m th/\((1<=s.v/\s.wt=true/\s.ws=0/\cnt fD m th=0/\cnt fE m th=0)\/(s.v=0/\s.wt=true/\s.ws=0/\cnt fD m th=1/\cnt fE m th=0)\/(s.v=0/\s.wt=false/\cnt fD m th=0/\cnt fE m th+s.ws=1))
 | .w4 | .we | .aq | .fin=>m=n/\s.v=0/\cnt fP m th=0/\s.wt=false/\s.ws=0/\cnt fD m th=0/\cnt fE m th=0
structure Inv (n m:Nat) (th:Nat->Th) (s:Sh) (M:MTh):Prop where
 lock:InvL m th s.mu s.ms
 group:InvW n m th s M
 ok:∀ i,i < m->TOk (th i)
section
variable {n m i:Nat} {th:Nat->Th} {s s':Sh} {T T':Th} {M M':MTh} {mu:Wd} {ms:Nat}
theorem cnt_upd (f:Th->Nat) (th:Nat->Th) (T':Th) (hi:i < m):cnt f m (upd th i T')+f (th i)=cnt f m th+f T':=sumTo_upd th T' f hi
theorem le_cnt (f:Th->Nat) (th:Nat->Th) (hi:i < m):f (th i)<=cnt f m th:=le_sumTo (f:=fun i=>f (th i)) hi
theorem cnt_le {f:Th->Nat} (h:∀ T,f T<=1) (th:Nat->Th):cnt f m th<=m:=by
 have:=sumTo_le (f:=fun i=>f (th i)) (c:=1) (j:=m) fun i _=>h _;unfold cnt;omega
theorem fP_le (T:Th):fP T<=1:=by unfold fP;split <;> omega
theorem cnt_zero {f:Th->Nat} (h:cnt f m th=0) (hi:i < m):f (th i)=0:=by have:=le_cnt f th hi;omega
theorem cnt_all {f:Th->Nat} (h:∀ i,i < m->f (th i)=0):cnt f m th=0:=by
 have:=sumTo_le (f:=fun i=>f (th i)) (c:=0) (j:=m) fun i hi=>by rw [h i hi];exact Nat.le_refl _
 unfold cnt;omega
end
set_option linter.unusedSimpArgs false
section
variable {n m i:Nat} {th:Nat->Th} {s s':Sh} {T T':Th} {M M':MTh} {mu:Wd} {ms:Nat}
theorem hd_two (T:Th):(T.old.L=true/\T.old.S=false/\hd T={ T with pc:=.sq })\/(¬ (T.old.L=true/\T.old.S=false)/\hd T={ T with pc:=.c2 }):=by
 unfold hd;by_cases h:(T.old.L && !T.old.S)=true
 ·rw [if_pos h];simp at h;exact .inl ⟨h.1,h.2,rfl⟩
 ·rw [if_neg h];simp at h;exact .inr ⟨fun x=>(by have:=h x.1;rw [x.2] at this;cases this),rfl⟩
theorem uh_two (T:Th):((T.old.c=0\/T.old.L=true\/T.old.W=true\/T.old.S=true)/\uh T={ T with pc:=.ue })\/(1<=T.old.c/\T.old.L=false/\T.old.W=false/\T.old.S=false/\uh T={ T with pc:=.uc }):=by
 unfold uh;by_cases h:T.old.c=0\/T.old.L=true\/T.old.W=true\/T.old.S=true
 ·rw [if_pos h];exact .inl ⟨h,rfl⟩
 ·rw [if_neg h];simp only [not_or,Bool.not_eq_true] at h;exact .inr ⟨by omega,h.2.1,h.2.2.1,h.2.2.2,rfl⟩
theorem tok_at (p:Pc) (h:p≠.sq/\p≠.c1/\p≠.r1/\p≠.c2/\p≠.uc/\p≠.a1):TOk (at_ p):=by
 obtain ⟨h1,h2,h3,h4,h5,h6⟩:=h;exact ⟨fun e=>absurd e h1,fun e=>absurd e h2,fun e=>absurd e h3,fun e=>absurd (e.elim id fun e=>absurd e h4) h1,fun _ e=>(by cases e),fun e=>absurd e h5,fun e=>absurd e h6⟩
theorem InvL.see (h:InvL m th s.mu s.ms) (hi:i < m) (hpc:fL (th i)=1):s.mu.S=false/\s.mu.W=true:=by
 have h1:=le_cnt fL th hi;have hS:s.mu.S=false:=by
  cases hS:s.mu.S with
  | false=>rfl
  | true=>have:=(h.starve hS).2.1;omega
 have h2:=(h.calm hS).1;refine ⟨hS,?_⟩
 cases hW:s.mu.W with
 | true=>rfl
 | false=>rw [hW] at h2;simp at h2;omega
theorem step_ok (h:InvL m th s.mu s.ms) (hi:i < m) (hT:TOk (th i)) (hm:(T',s')∈mv (th i) s):TOk T':=by
 have hsee:=h.see hi;have hcalm:=h.calm;have hst:=h.starve;have hle:=le_cnt fT th hi;generalize th i=T at hT hm hsee hle;obtain ⟨a1,a2,a3,a4,a5,a6,a7⟩:=hT;obtain ⟨pc,old,aw,sv,it,ws⟩:=T;cases pc <;> simp only [mv] at hm
 case sq =>
  obtain ⟨e1,e2⟩:=a1 rfl;have e3:=a4 (.inl rfl);have e4:=a5 (.inl rfl);simp only at e1 e2 e3 e4;by_cases hit:it < 4
  ·simp only [hit,if_true,List.mem_cons,List.not_mem_nil,or_false,Prod.mk.injEq] at hm;rcases hm with ⟨rfl,-⟩ | ⟨rfl,-⟩
   ·exact ⟨by simp,by simp,by simp,fun _=>e3,fun _=>e4,by simp,by simp⟩
   ·by_cases hc:aw=false/\old.W=false/\old.c≠0
    ·simp only [hc,if_true,ne_eq,not_false_iff,and_self];refine ⟨by simp,fun _=>⟨e1,e2,hc.2.1,rfl,hc.2.2,hit⟩,by simp,by simp,fun _=>by have:=e4;simp_all,by simp,by simp⟩
    ·simp only [hc,if_false];exact ⟨by simp,by simp,fun _=>hit,by simp,fun _=>e4,by simp,by simp⟩
  ·simp only [hit,if_false,List.mem_cons,List.not_mem_nil,or_false,Prod.mk.injEq] at hm;obtain ⟨rfl,-⟩:=hm;exact ⟨by simp,by simp,by simp,fun _=>e3,fun _=>e4,by simp,by simp⟩
 case c1 =>
  obtain ⟨e1,e2,e3,e4,e5,e6⟩:=a2 rfl;have e7:=a5 (.inr (.inl rfl));simp only at e1 e2 e3 e4 e5 e6 e7;split at hm <;> (simp only [List.mem_singleton,Prod.mk.injEq] at hm;obtain ⟨rfl,-⟩:=hm)
  ·exact ⟨by simp,by simp,fun _=>e6,by simp,fun _ _=>rfl,by simp,by simp⟩
  ·exact ⟨by simp,by simp,fun _=>e6,by simp,fun _=>e7,by simp,by simp⟩
 case r1 =>
  have e7:=a5 (.inr (.inr (.inl rfl)));simp only [List.mem_singleton,Prod.mk.injEq] at hm;obtain ⟨rfl,-⟩:=hm;rcases hd_two { pc:=.r1,old:=s.mu,aw:=aw,sv:=sv,it:=it+1,ws:=ws } with ⟨q1,q2,q3⟩ | ⟨q1,q3⟩
  all_goals
   rw [q3];refine ⟨?_,by simp,by simp,fun _ ha=>?_,fun _=>e7,by simp,by simp⟩
   ·first | exact fun _=>⟨q1,q2⟩ | simp
   ·have:=hsee (by simp only at ha;simp [fL,ha]);exact ⟨this.2,this.1⟩
 case r3 =>
  have e7:=a5 (.inr (.inr (.inr (.inr rfl))));simp only [List.mem_singleton,Prod.mk.injEq] at hm;obtain ⟨rfl,-⟩:=hm;rcases hd_two { pc:=.r3,old:=s.mu,aw:=aw,sv:=sv,it:=it,ws:=ws } with ⟨q1,q2,q3⟩ | ⟨q1,q3⟩
  all_goals
   rw [q3];refine ⟨?_,by simp,by simp,fun _ ha=>?_,fun _=>e7,by simp,by simp⟩
   ·first | exact fun _=>⟨q1,q2⟩ | simp
   ·have:=hsee (by simp only at ha;simp [fL,ha]);exact ⟨this.2,this.1⟩
 case r0 =>
  simp only [List.mem_singleton,Prod.mk.injEq] at hm;obtain ⟨rfl,-⟩:=hm;rcases hd_two { pc:=.r0,old:=s.mu } with ⟨q1,q2,q3⟩ | ⟨q1,q3⟩
  all_goals
   rw [q3];refine ⟨?_,by simp,by simp,fun _ ha=>by simp at ha,fun _ ha=>by simp at ha,by simp,by simp⟩
   first | exact fun _=>⟨q1,q2⟩ | simp
 case c2 =>
  split at hm
  ·split at hm <;> (simp only [List.mem_singleton,Prod.mk.injEq] at hm;obtain ⟨rfl,-⟩:=hm)
   ·exact tok_at _ (by simp)
   ·cases ws <;> exact ⟨by simp,by simp,by simp,by simp,by simp,by simp,by simp⟩
  ·simp only [List.mem_singleton,Prod.mk.injEq] at hm;obtain ⟨rfl,-⟩:=hm;exact ⟨by simp,by simp,by simp,by simp,fun _=>a5 (.inr (.inr (.inr (.inl rfl)))),by simp,by simp⟩
 case r2 =>
  split at hm <;> (simp only [List.mem_singleton,Prod.mk.injEq] at hm;obtain ⟨rfl,-⟩:=hm)
  ·rename_i hS
   obtain ⟨b1,b2,b3,b4,b5⟩:=hst hS;simp only [fT] at hle;have hL:s.mu.L=false:=by
    cases hL:s.mu.L with
    | false=>rfl
    | true=>rw [hL] at b4;simp at b4;omega
   exact ⟨by simp,by simp,by simp,by simp,by simp,by simp,fun _=>⟨hL,b1,hS,by simp only;omega⟩⟩
  ·rename_i hS
   simp only [Bool.not_eq_true] at hS;have b1:=(hcalm hS).1;simp only [fT] at hle;have hW:s.mu.W=true:=by
    cases hW:s.mu.W with
    | true=>rfl
    | false=>rw [hW] at b1;simp at b1;omega
   rcases hd_two { pc:=.r2,old:=s.mu,aw:=true,sv:=sv,it:=0,ws:=ws } with ⟨q1,q2,q3⟩ | ⟨q1,q3⟩
   all_goals
    rw [q3];refine ⟨?_,by simp,by simp,fun _ _=>⟨hW,hS⟩,fun _ _=>rfl,by simp,by simp⟩
    first | exact fun _=>⟨q1,q2⟩ | simp
 case u0 =>
  simp only [List.mem_singleton,Prod.mk.injEq] at hm;obtain ⟨rfl,-⟩:=hm;split
  ·exact tok_at _ (by simp)
  ·rcases uh_two { pc:=.uo,old:=⟨false,s.mu.W,s.mu.S,s.mu.c⟩ } with ⟨q1,q3⟩ | ⟨q1,q2,q4,q5,q3⟩
   ·rw [q3];exact ⟨by simp,by simp,by simp,by simp,by simp,by simp,by simp⟩
   ·rw [q3];exact ⟨by simp,by simp,by simp,by simp,by simp,fun _=>⟨q2,q4,q5,q1⟩,by simp⟩
 case uo =>
  simp only [List.mem_singleton,Prod.mk.injEq] at hm;obtain ⟨rfl,-⟩:=hm;rcases uh_two { pc:=.uo,old:=s.mu } with ⟨q1,q3⟩ | ⟨q1,q2,q4,q5,q3⟩
  ·rw [q3];exact ⟨by simp,by simp,by simp,by simp,by simp,by simp,by simp⟩
  ·rw [q3];exact ⟨by simp,by simp,by simp,by simp,by simp,fun _=>⟨q2,q4,q5,q1⟩,by simp⟩
 case s1 =>
  split at hm
  ·cases hm
  ·simp only [List.mem_singleton,Prod.mk.injEq] at hm;obtain ⟨rfl,-⟩:=hm;cases sv <;> exact ⟨by simp,by simp,by simp,by simp,by simp,by simp,by simp⟩
 case d1 =>
  simp only [List.mem_singleton,Prod.mk.injEq] at hm;obtain ⟨rfl,-⟩:=hm;split <;> exact tok_at _ (by simp)
 case quit=>cases hm
 all_goals
  first
   | (simp only [List.mem_singleton,Prod.mk.injEq] at hm;obtain ⟨rfl,-⟩:=hm;first | exact tok_at _ (by simp) | exact ⟨by simp,by simp,by simp,by simp,by simp,by simp,by simp⟩)
   | (simp only [List.mem_cons,List.not_mem_nil,or_false,Prod.mk.injEq] at hm;rcases hm with ⟨rfl,-⟩ | ⟨rfl,-⟩ <;> exact ⟨by simp,by simp,by simp,by simp,by simp,by simp,by simp⟩)
   | (split at hm <;> (simp only [List.mem_singleton,Prod.mk.injEq] at hm;obtain ⟨rfl,-⟩:=hm;first | exact tok_at _ (by simp) | exact ⟨by simp,by simp,by simp,by simp,by simp,by simp,by simp⟩))
end
set_option linter.unusedSimpArgs false
def LW (H Q K A L U X C:Nat) (mu:Wd) (ms:Nat):Prop :=
 H=mu.L.toNat/\(mu.S=false->U+ms+K+L=mu.W.toNat/\X=0/\A=0/\mu.c+U+ms=Q)/\(mu.S=true->mu.W=false/\L=0/\U=0/\X+ms+K+A+mu.L.toNat=1/\mu.c=Q+K+A)/\(mu.S=false->mu.L=false->mu.W=false->0 < mu.c->1<=C)
section
variable {n m i:Nat} {th:Nat->Th} {s s':Sh} {T T':Th} {M M':MTh} {mu:Wd} {ms:Nat}
theorem lw_of (h:InvL m th mu ms):LW (cnt fH m th) (cnt fQ m th) (cnt fT m th) (cnt fA m th) (cnt fL m th) (cnt fU m th) (cnt fX m th) (cnt fC m th) mu ms:=⟨h.held,h.calm,h.starve,h.wake⟩
theorem of_lw (h:LW (cnt fH m th) (cnt fQ m th) (cnt fT m th) (cnt fA m th) (cnt fL m th) (cnt fU m th) (cnt fX m th) (cnt fC m th) mu ms):InvL m th mu ms:=⟨h.1,h.2.1,h.2.2.1,h.2.2.2⟩
theorem step_lw {H Q K A L U X C H' Q' K' A' L' U' X' C':Nat} (hT:TOk T) (hm:(T',s')∈mv T s) (h:LW H Q K A L U X C s.mu s.ms)
 (eH:H'+fH T=H+fH T') (eQ:Q'+fQ T=Q+fQ T') (eK:K'+fT T=K+fT T') (eA:A'+fA T=A+fA T') (eL:L'+fL T=L+fL T') (eU:U'+fU T=U+fU T') (eX:X'+fX T=X+fX T') (eC:C'+fC T=C+fC T')
 (bH:fH T<=H) (bQ:fQ T<=Q) (bK:fT T<=K) (bA:fA T<=A) (bL:fL T<=L) (bU:fU T<=U) (bX:fX T<=X) (bC:fC T<=C):LW H' Q' K' A' L' U' X' C' s'.mu s'.ms:=by
 obtain ⟨a1,a2,a3,a4,a5,a6,a7⟩:=hT;obtain ⟨pc,old,aw,sv,it,ws⟩:=T;obtain ⟨⟨l,w,st,c⟩,ms,v,wt,ws2⟩:=s;obtain ⟨ol,ow,os,oc⟩:=old;cases pc <;> simp only [mv] at hm
 case l0 =>
  split at hm <;> (simp only [List.mem_singleton,Prod.mk.injEq] at hm;obtain ⟨rfl,rfl⟩:=hm)
  ·rename_i e
   simp only [Wd.mk.injEq] at e;obtain ⟨rfl,rfl,rfl,rfl⟩:=e;simp only [fH,fQ,fT,fA,fL,fU,fX,fC,at_,LW] at *
   try simp at *
   omega
  ·simp only [fH,fQ,fT,fA,fL,fU,fX,fC,at_,LW] at *;cases l <;> cases w <;> cases st <;> (try simp at *) <;> omega
 case r0 =>
  simp only [List.mem_singleton,Prod.mk.injEq] at hm;obtain ⟨rfl,rfl⟩:=hm;rcases hd_two { pc:=.r0,old:=⟨l,w,st,c⟩ } with ⟨q1,q2,q3⟩ | ⟨q1,q3⟩ <;> rw [q3] at eH eQ eK eA eL eU eX eC <;> simp only [fH,fQ,fT,fA,fL,fU,fX,fC,at_,LW] at * <;> cases l <;> cases w <;> cases st <;> (try simp at *) <;> omega
 case r1 =>
  simp only [List.mem_singleton,Prod.mk.injEq] at hm;obtain ⟨rfl,rfl⟩:=hm;rcases hd_two { pc:=.r1,old:=⟨l,w,st,c⟩,aw:=aw,sv:=sv,it:=it+1,ws:=ws } with ⟨q1,q2,q3⟩ | ⟨q1,q3⟩ <;> rw [q3] at eH eQ eK eA eL eU eX eC <;> simp only [fH,fQ,fT,fA,fL,fU,fX,fC,at_,LW] at * <;> cases l <;> cases w <;> cases st <;> (try simp at *) <;> omega
 case r3 =>
  simp only [List.mem_singleton,Prod.mk.injEq] at hm;obtain ⟨rfl,rfl⟩:=hm;rcases hd_two { pc:=.r3,old:=⟨l,w,st,c⟩,aw:=aw,sv:=sv,it:=it,ws:=ws } with ⟨q1,q2,q3⟩ | ⟨q1,q3⟩ <;> rw [q3] at eH eQ eK eA eL eU eX eC <;> simp only [fH,fQ,fT,fA,fL,fU,fX,fC,at_,LW] at * <;> cases l <;> cases w <;> cases st <;> (try simp at *) <;> omega
 case sq =>
  split at hm
  ·simp only [List.mem_cons,List.not_mem_nil,or_false,Prod.mk.injEq] at hm;rcases hm with ⟨rfl,rfl⟩ | ⟨rfl,rfl⟩
   ·simp only [fH,fQ,fT,fA,fL,fU,fX,fC,at_,LW] at *;cases l <;> cases w <;> cases st <;> (try simp at *) <;> omega
   ·split at eH <;> rename_i hc <;> simp only [hc,if_true,if_false,ne_eq,not_false_iff,and_self] at eQ eK eA eL eU eX eC <;> simp only [fH,fQ,fT,fA,fL,fU,fX,fC,at_,LW] at * <;> cases l <;> cases w <;> cases st <;> (try simp at *) <;> omega
  ·simp only [List.mem_cons,List.not_mem_nil,or_false,Prod.mk.injEq] at hm;obtain ⟨rfl,rfl⟩:=hm;simp only [fH,fQ,fT,fA,fL,fU,fX,fC,at_,LW] at *;cases l <;> cases w <;> cases st <;> (try simp at *) <;> omega
 case c1 =>
  obtain ⟨e1,e2,e3,e4,e5,e6⟩:=a2 rfl;simp only at e1 e2 e3 e4 e5;subst e1 e2 e3 e4;split at hm <;> (simp only [List.mem_singleton,Prod.mk.injEq] at hm;obtain ⟨rfl,rfl⟩:=hm)
  ·rename_i e
   simp only [Wd.mk.injEq] at e;obtain ⟨rfl,rfl,rfl,rfl⟩:=e;simp only [fH,fQ,fT,fA,fL,fU,fX,fC,at_,LW] at *
   try simp at *
   omega
  ·simp only [fH,fQ,fT,fA,fL,fU,fX,fC,at_,LW] at *;cases l <;> cases w <;> cases st <;> (try simp at *) <;> omega
 case c2 =>
  have e3:=a4 (.inr rfl);have e4:=a5 (.inr (.inr (.inr (.inl rfl))));simp only at e3 e4;split at hm
  ·rename_i e
   simp only [Wd.mk.injEq] at e;obtain ⟨rfl,rfl,rfl,rfl⟩:=e;split at hm <;> (simp only [List.mem_singleton,Prod.mk.injEq] at hm;obtain ⟨rfl,rfl⟩:=hm)
   ·rename_i hf
    obtain ⟨f1,f2⟩:=hf
    try simp only at f1 f2
    subst f1 f2;simp only [fH,fQ,fT,fA,fL,fU,fX,fC,at_,LW,nw] at *;cases aw <;> cases w <;> (try simp at *) <;> omega
   ·rename_i hf
    cases ws <;> simp only [fH,fQ,fT,fA,fL,fU,fX,fC,at_,LW,nw] at * <;> cases aw <;> cases sv <;> cases l <;> cases w <;> cases st <;> (try simp at *) <;> omega
  ·simp only [List.mem_singleton,Prod.mk.injEq] at hm;obtain ⟨rfl,rfl⟩:=hm;simp only [fH,fQ,fT,fA,fL,fU,fX,fC,at_,LW] at *;cases l <;> cases w <;> cases st <;> (try simp at *) <;> omega
 case s1 =>
  split at hm
  ·cases hm
  ·simp only [List.mem_singleton,Prod.mk.injEq] at hm;obtain ⟨rfl,rfl⟩:=hm;cases sv <;> simp only [fH,fQ,fT,fA,fL,fU,fX,fC,at_,LW] at * <;> cases l <;> cases w <;> cases st <;> (try simp at *) <;> omega
 case r2 =>
  split at hm <;> (simp only [List.mem_singleton,Prod.mk.injEq] at hm;obtain ⟨rfl,rfl⟩:=hm) <;> rename_i hS <;> try simp only at hS
  ·subst hS;simp only [fH,fQ,fT,fA,fL,fU,fX,fC,at_,LW] at *;cases l <;> cases w <;> (try simp at *) <;> omega
  ·rcases hd_two { pc:=.r2,old:=⟨l,w,st,c⟩,aw:=true,sv:=sv,it:=0,ws:=ws } with ⟨q1,q2,q3⟩ | ⟨q1,q3⟩ <;> rw [q3] at eH eQ eK eA eL eU eX eC <;> simp only [fH,fQ,fT,fA,fL,fU,fX,fC,at_,LW] at * <;> cases l <;> cases w <;> cases st <;> (try simp at *) <;> omega
 case a1 =>
  simp only [List.mem_singleton,Prod.mk.injEq] at hm;obtain ⟨rfl,rfl⟩:=hm;simp only [fH,fQ,fT,fA,fL,fU,fX,fC,at_,LW] at *;generalize decide (oc=1)=z at *;cases sv <;> cases z <;> cases l <;> cases w <;> cases st <;> (try simp at *) <;> omega
 case u0 =>
  simp only [List.mem_singleton,Prod.mk.injEq] at hm;obtain ⟨rfl,rfl⟩:=hm;cases st
  ·rcases uh_two { pc:=.uo,old:=⟨false,w,false,c⟩ } with ⟨q1,q3⟩ | ⟨q1,q2,q4,q5,q3⟩ <;> simp only [Bool.false_eq_true,if_false,q3] at eH eQ eK eA eL eU eX eC <;> simp only [fH,fQ,fT,fA,fL,fU,fX,fC,at_,LW] at * <;> cases l <;> cases w <;> (try simp at *) <;> omega
  ·simp only [if_true] at eH eQ eK eA eL eU eX eC;simp only [fH,fQ,fT,fA,fL,fU,fX,fC,at_,LW] at *;cases l <;> cases w <;> (try simp at *) <;> omega
 case uo =>
  simp only [List.mem_singleton,Prod.mk.injEq] at hm;obtain ⟨rfl,rfl⟩:=hm;rcases uh_two { pc:=.uo,old:=⟨l,w,st,c⟩ } with ⟨q1,q3⟩ | ⟨q1,q2,q4,q5,q3⟩ <;> rw [q3] at eH eQ eK eA eL eU eX eC <;> simp only [fH,fQ,fT,fA,fL,fU,fX,fC,at_,LW] at * <;> cases l <;> cases w <;> cases st <;> (try simp at *) <;> omega
 case uc =>
  obtain ⟨e1,e2,e3,e4⟩:=a6 rfl;simp only at e1 e2 e3 e4;subst e1 e2 e3;split at hm <;> (simp only [List.mem_singleton,Prod.mk.injEq] at hm;obtain ⟨rfl,rfl⟩:=hm)
  ·rename_i e
   simp only [Wd.mk.injEq] at e;obtain ⟨rfl,rfl,rfl,rfl⟩:=e;simp only [fH,fQ,fT,fA,fL,fU,fX,fC,at_,LW] at *
   try simp at *
   omega
  ·simp only [fH,fQ,fT,fA,fL,fU,fX,fC,at_,LW] at *;cases l <;> cases w <;> cases st <;> (try simp at *) <;> omega
 case d1 =>
  simp only [List.mem_singleton,Prod.mk.injEq] at hm;obtain ⟨rfl,rfl⟩:=hm;split at eH <;> rename_i hc <;> simp only [hc,if_true,if_false,and_self] at eQ eK eA eL eU eX eC <;> simp only [fH,fQ,fT,fA,fL,fU,fX,fC,at_,LW] at * <;> cases l <;> cases w <;> cases st <;> (try simp at *) <;> omega
 case quit=>cases hm
 all_goals
  first
   | (simp only [List.mem_singleton,Prod.mk.injEq] at hm
      obtain ⟨rfl,rfl⟩:=hm
      simp only [fH,fQ,fT,fA,fL,fU,fX,fC,at_,LW] at *
      cases l <;> cases w <;> cases st <;> (try simp at *) <;> omega)
   | (simp only [List.mem_cons,List.not_mem_nil,or_false,Prod.mk.injEq] at hm
      rcases hm with ⟨rfl,rfl⟩ | ⟨rfl,rfl⟩ <;> simp only [fH,fQ,fT,fA,fL,fU,fX,fC,at_,LW] at * <;> cases l <;> cases w <;> cases st <;> (try simp at *) <;> omega)
theorem step_lock (h:InvL m th s.mu s.ms) (hi:i < m) (hT:TOk (th i)) (hm:(T',s')∈mv (th i) s):InvL m (upd th i T') s'.mu s'.ms :=
 of_lw (step_lw hT hm (lw_of h) (cnt_upd _ th T' hi) (cnt_upd _ th T' hi) (cnt_upd _ th T' hi) (cnt_upd _ th T' hi) (cnt_upd _ th T' hi) (cnt_upd _ th T' hi) (cnt_upd _ th T' hi) (cnt_upd _ th T' hi)
  (le_cnt _ th hi) (le_cnt _ th hi) (le_cnt _ th hi) (le_cnt _ th hi) (le_cnt _ th hi) (le_cnt _ th hi) (le_cnt _ th hi) (le_cnt _ th hi))
end
set_option linter.unusedSimpArgs false
section
variable {n m i:Nat} {th:Nat->Th} {s s':Sh} {T T':Th} {M M':MTh} {mu:Wd} {ms:Nat}
def GWay (T T':Th) (s s':Sh):Prop :=
 (fP T'=fP T/\fD T'=fD T/\fE T'=fE T/\s'.v=s.v/\s'.wt=s.wt/\s'.ws=s.ws) \/
 (fP T=1/\fP T'=0/\fD T=0/\fE T=0/\fE T'=0/\s'.v=s.v - 1/\s'.wt=s.wt/\s'.ws=s.ws/\((s.v=1/\s.wt=true/\fD T'=1)\/(¬ (s.v=1/\s.wt=true)/\fD T'=0))) \/
 (fP T=0/\fP T'=0/\fD T=1/\fD T'=0/\fE T=0/\fE T'=1/\s'.v=0/\s'.wt=false/\s'.ws=s.ws) \/
 (fP T=0/\fP T'=0/\fD T=0/\fD T'=0/\fE T=1/\fE T'=0/\s'.v=s.v/\s'.wt=s.wt/\s'.ws=s.ws+1)
theorem hd_group (T:Th):fP (hd T)=1/\fD (hd T)=0/\fE (hd T)=0:=by
 rcases hd_two T with ⟨_,_,h⟩ | ⟨_,h⟩ <;> rw [h] <;> simp [fP,fD,fE]
theorem uh_group (T:Th):fP (uh T)=1/\fD (uh T)=0/\fE (uh T)=0:=by
 rcases uh_two T with ⟨_,h⟩ | ⟨_,_,_,_,h⟩ <;> rw [h] <;> simp [fP,fD,fE]
theorem gway (hm:(T',s')∈mv T s):GWay T T' s s':=by
 obtain ⟨pc,old,aw,sv,it,ws⟩:=T;cases pc <;> simp only [mv] at hm
 case d1 =>
  simp only [List.mem_singleton,Prod.mk.injEq] at hm;obtain ⟨rfl,rfl⟩:=hm;right;left;by_cases h:s.v=1/\s.wt=true
  ·simp [h,fP,fD,fE,at_]
  ·simp only [h,if_false];simp [fP,fD,fE,at_]
 case d3 =>
  simp only [List.mem_singleton,Prod.mk.injEq] at hm;obtain ⟨rfl,rfl⟩:=hm;right;right;left;simp [fP,fD,fE,at_]
 case d4 =>
  simp only [List.mem_singleton,Prod.mk.injEq] at hm;obtain ⟨rfl,rfl⟩:=hm;right;right;right;simp [fP,fD,fE,at_]
 case quit=>cases hm
 all_goals left
 case sq =>
  split at hm <;> simp only [List.mem_cons,List.not_mem_nil,or_false,Prod.mk.injEq] at hm
  ·rcases hm with ⟨rfl,rfl⟩ | ⟨rfl,rfl⟩
   ·simp [fP,fD,fE]
   ·split <;> simp [fP,fD,fE]
  ·obtain ⟨rfl,rfl⟩:=hm;simp [fP,fD,fE]
 case c2 =>
  split at hm
  ·split at hm <;> (simp only [List.mem_singleton,Prod.mk.injEq] at hm;obtain ⟨rfl,rfl⟩:=hm)
   ·simp [fP,fD,fE,at_]
   ·cases ws <;> simp [fP,fD,fE]
  ·simp only [List.mem_singleton,Prod.mk.injEq] at hm;obtain ⟨rfl,rfl⟩:=hm;simp [fP,fD,fE]
 case s1 =>
  split at hm
  ·cases hm
  ·simp only [List.mem_singleton,Prod.mk.injEq] at hm;obtain ⟨rfl,rfl⟩:=hm;cases sv <;> simp [fP,fD,fE]
 case u0 =>
  simp only [List.mem_singleton,Prod.mk.injEq] at hm;obtain ⟨rfl,rfl⟩:=hm;split
  ·simp [fP,fD,fE,at_]
  ·have:=uh_group { pc:=.uo,old:=⟨false,s.mu.W,s.mu.S,s.mu.c⟩ };simp [fP,fD,fE] at this ⊢;exact this
 all_goals
  first
   | (simp only [List.mem_singleton,Prod.mk.injEq] at hm;obtain ⟨rfl,rfl⟩:=hm;first | (simp [fP,fD,fE,at_];done) | exact ⟨(hd_group _).1,(hd_group _).2.1,(hd_group _).2.2,rfl,rfl,rfl⟩ | exact ⟨(uh_group _).1,(uh_group _).2.1,(uh_group _).2.2,rfl,rfl,rfl⟩)
   | (simp only [List.mem_cons,List.not_mem_nil,or_false,Prod.mk.injEq] at hm;rcases hm with ⟨rfl,rfl⟩ | ⟨rfl,rfl⟩ <;> simp [fP,fD,fE,at_])
   | (split at hm <;> (simp only [List.mem_singleton,Prod.mk.injEq] at hm;obtain ⟨rfl,rfl⟩:=hm;first | (simp [fP,fD,fE,at_];done) | exact ⟨(hd_group _).1,(hd_group _).2.1,(hd_group _).2.2,rfl,rfl,rfl⟩))
theorem step_group (h:InvW n m th s M) (hi:i < m) (hm:(T',s')∈mv (th i) s):InvW n m (upd th i T') s' M:=by
 have hg:=gway hm;have eP:=cnt_upd fP th T' hi;have eD:=cnt_upd fD th T' hi;have eE:=cnt_upd fE th T' hi;have bP:=le_cnt fP th hi;have bD:=le_cnt fD th hi;have bE:=le_cnt fE th hi;unfold InvW at h ⊢;unfold GWay at hg;generalize cnt fP m (upd th i T')=P' at *;generalize cnt fD m (upd th i T')=D' at *;generalize cnt fE m (upd th i T')=E' at *;generalize cnt fP m th=P at *;generalize cnt fD m th=D at *;generalize cnt fE m th=E at *;obtain ⟨mu,ms,v,wt,ws⟩:=s;obtain ⟨mu',ms',v',wt',ws'⟩:=s';obtain ⟨pc,vo⟩:=M;cases pc <;> cases wt <;> cases wt' <;> simp at h hg ⊢ <;> omega
theorem step_main (h:InvW n m th s M) (hm:(M',s')∈mvM M s):InvW n m th s' M'/\s'.mu=s.mu/\s'.ms=s.ms:=by
 obtain ⟨pc,vo⟩:=M;obtain ⟨mu,ms,v,wt,ws⟩:=s;cases pc <;> simp only [mvM] at hm
 case go=>cases hm
 case fin=>cases hm
 case ad =>
  simp only [List.mem_singleton,Prod.mk.injEq] at hm;obtain ⟨rfl,rfl⟩:=hm;by_cases h0:v=0 <;> simp only [h0,if_true,if_false,InvW,mat] at h ⊢ <;> cases wt <;> simp at * <;> omega
 case w1 =>
  simp only [InvW] at h;obtain ⟨h1,h2,h3,h4,h5,h6⟩:=h
  try simp only at h2 h3 h4
  split at hm <;> (simp only [List.mem_singleton,Prod.mk.injEq] at hm;obtain ⟨rfl,rfl⟩:=hm) <;> rename_i hz
  ·exact ⟨⟨h1,hz,by omega,h3,h4,h5,h6⟩,rfl,rfl⟩
  ·exact ⟨⟨h1,h2,h3,h4,h5,h6,hz⟩,rfl,rfl⟩
 case w2 =>
  simp only [InvW] at h;obtain ⟨h1,h2,h3,h4,h5,h6,h7⟩:=h
  try simp only at h2 h3 h4 h7
  split at hm <;> (simp only [List.mem_singleton,Prod.mk.injEq] at hm;obtain ⟨rfl,rfl⟩:=hm) <;> rename_i hz
  ·exact ⟨⟨h1,h2,.inl ⟨by simp only at hz ⊢;omega,rfl,h4,h5,h6⟩⟩,rfl,rfl⟩
  ·exact ⟨⟨h1,h2,h3,h4,h5,h6⟩,rfl,rfl⟩
 case w3 =>
  split at hm
  ·cases hm
  ·simp only [List.mem_singleton,Prod.mk.injEq] at hm;obtain ⟨rfl,rfl⟩:=hm;simp only [InvW,mat] at h ⊢;cases wt <;> simp at * <;> omega
 all_goals
  simp only [List.mem_singleton,Prod.mk.injEq] at hm;obtain ⟨rfl,rfl⟩:=hm;simp only [InvW,mat] at h ⊢;cases wt <;> simp at * <;> omega
theorem cnt_push (f:Th->Nat) (th:Nat->Th) (T:Th):cnt f (m+1) (upd th m T)=cnt f m th+f T:=by
 unfold cnt;simp only [sumTo,upd_same];rw [sumTo_congr (g:=fun i=>f (th i)) fun i hi=>by rw [upd_ne _ _ (by omega)]]
def behindGo (n m:Nat):MTh:=mat (if m+1 < n then .kd else .wd)
theorem Inv.spawn (h:Inv n m th s M) (hM:M.pc=.go):Inv n (m+1) (upd th m (at_ .ld)) s (behindGo n m):=by
 obtain ⟨⟨h1,h2,h3,h4⟩,hw,hok⟩:=h;obtain ⟨pc,vo⟩:=M;simp only at hM;subst hM;refine ⟨⟨?_,fun hs=>?_,fun hs=>?_,fun a b c d=>?_⟩,?_,fun i hi=>?_⟩
 ·rw [cnt_push];simpa [fH,at_] using h1
 ·simp only [cnt_push];simpa [fU,fT,fL,fX,fA,fQ,at_] using h2 hs
 ·simp only [cnt_push];simpa [fU,fT,fL,fX,fA,fQ,at_] using h3 hs
 ·rw [cnt_push];have:=h4 a b c d;omega
 ·simp only [InvW] at hw;unfold behindGo;by_cases hlt:m+1 < n
  ·rw [if_pos hlt];refine ⟨hlt,?_,hw.2.2.1,hw.2.2.2.1,?_,?_⟩ <;> rw [cnt_push]
   ·rw [hw.2.1];rfl
   ·rw [hw.2.2.2.2.1];rfl
   ·rw [hw.2.2.2.2.2];rfl
  ·rw [if_neg hlt];refine ⟨by omega,?_,hw.2.2.1,hw.2.2.2.1,?_,?_⟩ <;> rw [cnt_push]
   ·rw [hw.2.1];rfl
   ·rw [hw.2.2.2.2.1];rfl
   ·rw [hw.2.2.2.2.2];rfl
 ·by_cases e:i=m
  ·subst e;rw [upd_same];exact tok_at _ (by simp)
  ·rw [upd_ne _ _ e];exact hok i (by omega)
theorem Inv.step (h:Inv n m th s M) (hi:i < m) (hm:(T',s')∈mv (th i) s):Inv n m (upd th i T') s' M :=
 ⟨step_lock h.lock hi (h.ok i hi) hm,step_group h.group hi hm,fun j hj=>by
   by_cases e:j=i
   ·subst e;rw [upd_same];exact step_ok h.lock hi (h.ok j hi) hm
   ·rw [upd_ne _ _ e];exact h.ok j hj⟩
theorem Inv.main (h:Inv n m th s M) (hm:(M',s')∈mvM M s):Inv n m th s' M':=by
 obtain ⟨h1,h2,h3⟩:=step_main h.group hm;exact ⟨by rw [h2,h3];exact h.lock,h1,h.ok⟩
def sh0:Sh:=⟨⟨false,false,false,0⟩,0,0,false,0⟩
theorem Inv.start (n:Nat) (th:Nat->Th):Inv n 0 th sh0 (mat (if 0 < n then .kd else .wd)):=by
 refine ⟨⟨rfl,fun _=>⟨rfl,rfl,rfl,rfl⟩,fun h=>(by cases h),fun _ _ _ h=>absurd h (Nat.lt_irrefl _)⟩,?_,fun i hi=>absurd hi (Nat.not_lt_zero _)⟩;by_cases h:0 < n
 ·simp [InvW,mat,h,sh0,cnt,sumTo]
 ·simp [InvW,mat,h,sh0,cnt,sumTo];omega
theorem Inv.alive (h:Inv n m th s M) (hall:∀ i,i < m->(th i).pc=.quit\/((th i).pc=.s1/\s.ms=0)) (hM:M.pc=.w3):s.ws≠0:=by
 obtain ⟨⟨h1,h2,h3,h4⟩,hw,hok⟩:=h;have z:∀ f:Th->Nat,(∀ T:Th,T.pc=.quit\/T.pc=.s1->f T=0)->cnt f m th=0:=fun f hf=>cnt_all fun i hi=>hf _ ((hall i hi).imp id And.left);have zH:=z fH (by rintro ⟨pc,_,_,_,_,_⟩ (h | h) <;> simp only at h <;> subst h <;> rfl);have zT:=z fT (by rintro ⟨pc,_,_,_,_,_⟩ (h | h) <;> simp only at h <;> subst h <;> rfl);have zA:=z fA (by rintro ⟨pc,_,_,_,_,_⟩ (h | h) <;> simp only at h <;> subst h <;> rfl);have zL:=z fL (by rintro ⟨pc,_,_,_,_,_⟩ (h | h) <;> simp only at h <;> subst h <;> rfl);have zU:=z fU (by rintro ⟨pc,_,_,_,_,_⟩ (h | h) <;> simp only at h <;> subst h <;> rfl);have zX:=z fX (by rintro ⟨pc,_,_,_,_,_⟩ (h | h) <;> simp only at h <;> subst h <;> rfl);have zC:=z fC (by rintro ⟨pc,_,_,_,_,_⟩ (h | h) <;> simp only at h <;> subst h <;> rfl);have zD:=z fD (by rintro ⟨pc,_,_,_,_,_⟩ (h | h) <;> simp only at h <;> subst h <;> rfl);have zE:=z fE (by rintro ⟨pc,_,_,_,_,_⟩ (h | h) <;> simp only at h <;> subst h <;> rfl);obtain ⟨pc,vo⟩:=M;simp only at hM;subst hM;simp only [InvW] at hw;obtain ⟨_,hv,hw⟩:=hw;by_cases hq:∀ i,i < m->(th i).pc=.quit
 ·have zP:cnt fP m th=0:=cnt_all fun i hi=>by simp only [fP,hq i hi]
  omega
 ·have hL:s.mu.L=false:=by
   cases hL:s.mu.L with
   | false=>rfl
   | true=>rw [hL,zH] at h1;simp at h1
  obtain ⟨i,hi,hne⟩:∃ i,i < m/\(th i).pc≠.quit:=Classical.byContradiction fun hx=>hq fun i hi=>Classical.byContradiction fun he=>hx ⟨i,hi,he⟩;obtain ⟨hp,hms⟩:=(hall i hi).resolve_left hne;have hQ:=le_cnt fQ th hi;simp only [fQ,hp] at hQ
  cases hS:s.mu.S with
  | true =>
   have:=(h3 hS).2.2.2.1;rw [hL] at this;simp at this;omega
  | false =>
   obtain ⟨b1,b2,b3,b4⟩:=h2 hS;have hW:s.mu.W=false:=by
    cases hW:s.mu.W with
    | false=>rfl
    | true=>rw [hW] at b1;simp at b1;omega
   have:=h4 hS hL hW (by omega);omega
end
set_option linter.unusedSimpArgs false
def wt1 (T:Th):Nat:=match T.pc with
 | .ld | .l0 | .r0=>12
 | .sq | .c1 | .r1 | .c2 | .r3=>if T.aw then 11 else 12
 | .t1 | .s1=>10
 | .t2 | .r2 | .a1=>11
 | .le | .la | .rl | .ur | .ud | .u0=>10
 | .uc | .uo=>9
 | .us | .ux=>8
 | .ue | .wr | .wk | .d1=>5
 | .d2=>4
 | .d3=>3
 | .d4=>2
 | .quit=>0
def rank (mu:Wd) (T:Th):Nat:=match T.pc with
 | .ld=>96 | .l0=>95 | .r0=>90
 | .sq=>if mu=T.old then 12+3 * (5 - T.it) else 72
 | .c1=>if mu=T.old then 11+3 * (5 - T.it) else 71
 | .r1=>10+3 * (5 - T.it)
 | .c2=>if mu=T.old then 5 else 70
 | .r3=>60
 | .t1=>3 | .s1=>2 | .t2=>31 | .r2=>30 | .a1=>1
 | .le=>10 | .la=>9 | .rl=>8 | .ur=>7 | .ud=>6 | .u0=>5
 | .uc=>if mu=T.old then 10 else 12
 | .uo=>11
 | .us=>1 | .ux=>1
 | .ue=>9 | .wr=>8 | .wk=>7 | .d1=>6 | .d2=>5 | .d3=>4 | .d4=>3 | .quit=>0
def mw (n m:Nat) (M:MTh):Nat:=match M.pc with
 | .kd | .ad=>20 * (n - m)+2
 | .kr | .ke | .go=>20 * (n - m)+1
 | .wd | .w1 | .w2=>1
 | _=>0
def rankM (v:Nat) (M:MTh):Nat:=match M.pc with
 | .kd=>23 | .ad=>22 | .kr=>21 | .ke=>20 | .go=>19
 | .wd=>18 | .w1=>11
 | .w2=>if v=M.vo then 10 else 12
 | .wm=>9 | .w3=>8 | .w4=>7 | .we=>6 | .aq=>5 | .fin=>0
def pot (n m:Nat) (th:Nat->Th) (s:Sh) (M:MTh):Nat:=cnt wt1 m th+2 * s.ms+s.ws+mw n m M
def mea (n m:Nat) (th:Nat->Th) (s:Sh) (M:MTh):Nat:=pot n m th s M * (101 * (n+1))+(cnt (rank s.mu) m th+rankM s.v M)
section
variable {n m i:Nat} {th:Nat->Th} {s s':Sh} {T T':Th} {M M':MTh} {mu:Wd} {ms:Nat}
theorem rank_le (mu:Wd) (T:Th):rank mu T<=100:=by
 unfold rank;split <;> (try split) <;> omega
theorem rankM_le (v:Nat) (M:MTh):rankM v M<=100:=by
 unfold rankM;split <;> (try split) <;> omega
theorem ranks_le (h:m<=n):cnt (rank mu) m th+rankM s.v M < 101 * (n+1):=by
 have h1:=sumTo_le (f:=fun i=>rank mu (th i)) (c:=100) (j:=m) fun i _=>rank_le _ _;have h2:=rankM_le s.v M;have h3:cnt (rank mu) m th=sumTo m fun i=>rank mu (th i):=rfl;have h4:100 * m<=100 * n:=Nat.mul_le_mul_left _ h;omega
theorem hd_low (T:Th) (h:T.old=mu) (ha:T.pc=.r0/\T.aw=false\/T.pc=.r2/\T.aw=true/\T.it=0\/T.pc=.r3\/T.pc=.r1/\1<=T.it/\T.it<=4):wt1 (hd T)<=wt1 T/\rank mu (hd T) < (if T.pc=.r1 then 13+3 * (5 - T.it) else rank mu T):=by
 subst h;rcases hd_two T with ⟨_,_,h⟩ | ⟨_,h⟩ <;> rw [h] <;> obtain ⟨pc,old,aw,sv,it,ws⟩:=T <;> simp only at ha ⊢ <;> rcases ha with ⟨rfl,rfl⟩ | ⟨rfl,rfl,rfl⟩ | rfl | ⟨rfl,h1,h2⟩ <;> simp [wt1,rank] <;> omega
theorem uh_low (T:Th) (h:T.old=mu) (ha:T.pc=.uo):wt1 (uh T)<=wt1 T/\rank mu (uh T) < rank mu T:=by
 subst h;rcases uh_two T with ⟨_,h⟩ | ⟨_,_,_,_,h⟩ <;> rw [h] <;> simp [wt1,rank,ha]
theorem mv_low (hT:TOk T) (hm:(T',s')∈mv T s):wt1 T'+2 * s'.ms+s'.ws < wt1 T+2 * s.ms+s.ws\/(s'=s/\wt1 T'<=wt1 T/\rank s.mu T' < rank s.mu T):=by
 obtain ⟨a1,a2,a3,a4,a5,a6,a7⟩:=hT;obtain ⟨pc,old,aw,sv,it,ws⟩:=T;cases pc <;> simp only [mv] at hm
 case sq =>
  split at hm <;> simp only [List.mem_cons,List.not_mem_nil,or_false,Prod.mk.injEq] at hm
  ·rcases hm with ⟨rfl,rfl⟩ | ⟨rfl,rfl⟩
   ·right;refine ⟨rfl,by simp [wt1],?_⟩;simp only [rank];split <;> omega
   ·right;refine ⟨rfl,by split <;> simp [wt1],?_⟩;split <;> simp only [rank] <;> split <;> omega
  ·obtain ⟨rfl,rfl⟩:=hm;right;refine ⟨rfl,by simp [wt1],?_⟩;simp only [rank];split <;> omega
 case c1 =>
  obtain ⟨e1,e2,e3,e4,e5,e6⟩:=a2 rfl;simp only at e4 e6;subst e4;split at hm <;> (simp only [List.mem_singleton,Prod.mk.injEq] at hm;obtain ⟨rfl,rfl⟩:=hm)
  ·left;simp [wt1]
  ·rename_i hne
   right;refine ⟨rfl,by simp [wt1],?_⟩;simp only [rank];rw [if_neg hne];omega
 case r1 =>
  have e6:=a3 rfl;simp only at e6;simp only [List.mem_singleton,Prod.mk.injEq] at hm;obtain ⟨rfl,rfl⟩:=hm;right;obtain ⟨h1,h2⟩:=hd_low (mu:=s'.mu) { pc:=.r1,old:=s'.mu,aw:=aw,sv:=sv,it:=it+1,ws:=ws } rfl (.inr (.inr (.inr ⟨rfl,by simp only;omega,by simp only;omega⟩)));refine ⟨rfl,?_,?_⟩
  ·refine Nat.le_trans h1 ?_;simp [wt1]
  ·simp only [if_true] at h2;simp only [rank] at h2 ⊢;omega
 case r0 =>
  simp only [List.mem_singleton,Prod.mk.injEq] at hm;obtain ⟨rfl,rfl⟩:=hm;right;obtain ⟨h1,h2⟩:=hd_low (mu:=s'.mu) { pc:=.r0,old:=s'.mu } rfl (.inl ⟨rfl,rfl⟩);simp only [reduceCtorEq,if_false] at h2;exact ⟨rfl,by refine Nat.le_trans h1 ?_;simp [wt1],by simp only [rank] at h2 ⊢;exact h2⟩
 case r3 =>
  simp only [List.mem_singleton,Prod.mk.injEq] at hm;obtain ⟨rfl,rfl⟩:=hm;right;obtain ⟨h1,h2⟩:=hd_low (mu:=s'.mu) { pc:=.r3,old:=s'.mu,aw:=aw,sv:=sv,it:=it,ws:=ws } rfl (.inr (.inr (.inl rfl)));simp only [reduceCtorEq,if_false] at h2;exact ⟨rfl,by refine Nat.le_trans h1 ?_;simp [wt1],by simp only [rank] at h2 ⊢;exact h2⟩
 case r2 =>
  split at hm <;> (simp only [List.mem_singleton,Prod.mk.injEq] at hm;obtain ⟨rfl,rfl⟩:=hm)
  ·right;exact ⟨rfl,by simp [wt1],by simp [rank]⟩
  ·right;obtain ⟨h1,h2⟩:=hd_low (mu:=s'.mu) { pc:=.r2,old:=s'.mu,aw:=true,sv:=sv,it:=0,ws:=ws } rfl (.inr (.inl ⟨rfl,rfl,rfl⟩));simp only [reduceCtorEq,if_false] at h2;exact ⟨rfl,by refine Nat.le_trans h1 ?_;simp [wt1],by simp only [rank] at h2 ⊢;exact h2⟩
 case c2 =>
  split at hm
  ·split at hm <;> (simp only [List.mem_singleton,Prod.mk.injEq] at hm;obtain ⟨rfl,rfl⟩:=hm)
   ·left;simp only [wt1,at_];split <;> omega
   ·left;cases ws <;> cases aw <;> simp [wt1]
  ·rename_i hne
   simp only [List.mem_singleton,Prod.mk.injEq] at hm;obtain ⟨rfl,rfl⟩:=hm;right;refine ⟨rfl,by simp [wt1],?_⟩;simp only [rank];rw [if_neg hne];omega
 case s1 =>
  split at hm
  ·cases hm
  ·simp only [List.mem_singleton,Prod.mk.injEq] at hm;obtain ⟨rfl,rfl⟩:=hm;left;cases sv <;> simp [wt1] <;> omega
 case u0 =>
  simp only [List.mem_singleton,Prod.mk.injEq] at hm;obtain ⟨rfl,rfl⟩:=hm;left;split
  ·simp [wt1,at_]
  ·rcases uh_two { pc:=.uo,old:=⟨false,s.mu.W,s.mu.S,s.mu.c⟩ } with ⟨_,h⟩ | ⟨_,_,_,_,h⟩ <;> rw [h] <;> simp [wt1]
 case uo =>
  simp only [List.mem_singleton,Prod.mk.injEq] at hm;obtain ⟨rfl,rfl⟩:=hm;right;obtain ⟨h1,h2⟩:=uh_low (mu:=s'.mu) { pc:=.uo,old:=s'.mu } rfl rfl;exact ⟨rfl,by refine Nat.le_trans h1 ?_;simp [wt1],by simp only [rank] at h2 ⊢;exact h2⟩
 case uc =>
  split at hm <;> (simp only [List.mem_singleton,Prod.mk.injEq] at hm;obtain ⟨rfl,rfl⟩:=hm)
  ·left;simp [wt1,at_]
  ·rename_i hne
   right;refine ⟨rfl,by simp [wt1],?_⟩;simp only [rank];rw [if_neg hne];omega
 case d1 =>
  simp only [List.mem_singleton,Prod.mk.injEq] at hm;obtain ⟨rfl,rfl⟩:=hm;left;split <;> simp [wt1,at_]
 case quit=>cases hm
 all_goals
  first
   | (simp only [List.mem_singleton,Prod.mk.injEq] at hm;obtain ⟨rfl,rfl⟩:=hm;first | (left;simp [wt1,at_];done) | (left;simp [wt1,at_];omega) | (right;exact ⟨rfl,by simp [wt1,at_],by simp [rank,at_]⟩))
   | (simp only [List.mem_cons,List.not_mem_nil,or_false,Prod.mk.injEq] at hm;rcases hm with ⟨rfl,rfl⟩ | ⟨rfl,rfl⟩ <;> (right;exact ⟨rfl,by simp [wt1,at_],by simp [rank,at_]⟩))
   | (split at hm <;> (simp only [List.mem_singleton,Prod.mk.injEq] at hm;obtain ⟨rfl,rfl⟩:=hm;first | (left;simp [wt1,at_];done) | (right;exact ⟨rfl,by simp [wt1,at_],by simp [rank,at_]⟩)))
theorem low_of {a b r r' C:Nat} (h:a < b) (hr:r' < C):a * C+r' < b * C+r:=by
 have:(a+1) * C<=b * C:=Nat.mul_le_mul_right _ h;rw [Nat.succ_mul] at this;omega
theorem Inv.le (h:Inv n m th s M):m<=n:=by
 have:=h.group;unfold InvW at this;split at this <;> omega
theorem step_mea (h:Inv n m th s M) (hi:i < m) (hm:(T',s')∈mv (th i) s):mea n m (upd th i T') s' M < mea n m th s M:=by
 have e1:=cnt_upd wt1 th T' hi;have hmn:=h.le;rcases mv_low (h.ok i hi) hm with hl | ⟨rfl,h1,h2⟩
 ·refine low_of ?_ (ranks_le hmn);unfold pot;omega
 ·have e2:=cnt_upd (rank s'.mu) th T' hi;have hp:pot n m (upd th i T') s' M<=pot n m th s' M:=by unfold pot;omega
  have:=Nat.mul_le_mul_right (101 * (n+1)) hp;unfold mea;omega
theorem main_mea (h:Inv n m th s M) (hm:(M',s')∈mvM M s):mea n m th s' M' < mea n m th s M:=by
 have hmn:=h.le;have hgr:=h.group;have key:pot n m th s' M' < pot n m th s M\/(s'=s/\pot n m th s' M'<=pot n m th s M/\rankM s.v M' < rankM s.v M):=by
  obtain ⟨pc,vo⟩:=M;cases pc <;> simp only [mvM] at hm
  case go=>cases hm
  case fin=>cases hm
  case ad =>
   simp only [List.mem_singleton,Prod.mk.injEq] at hm;obtain ⟨rfl,rfl⟩:=hm;left;by_cases h0:s.v=0 <;> simp [pot,mw,mat,h0]
  case w1 =>
   split at hm <;> (simp only [List.mem_singleton,Prod.mk.injEq] at hm;obtain ⟨rfl,rfl⟩:=hm)
   ·left;simp [pot,mw,mat]
   ·right;exact ⟨rfl,by simp [pot,mw],by simp [rankM]⟩
  case w2 =>
   split at hm <;> (simp only [List.mem_singleton,Prod.mk.injEq] at hm;obtain ⟨rfl,rfl⟩:=hm)
   ·left;simp [pot,mw,mat]
   ·rename_i hne
    right;refine ⟨rfl,by simp [pot,mw,mat],?_⟩;simp only [rankM,mat];rw [if_neg hne];omega
  case w3 =>
   split at hm
   ·cases hm
   ·simp only [List.mem_singleton,Prod.mk.injEq] at hm;obtain ⟨rfl,rfl⟩:=hm;left;simp only [pot,mw,mat];omega
  all_goals
   simp only [List.mem_singleton,Prod.mk.injEq] at hm;obtain ⟨rfl,rfl⟩:=hm
   first | (left;simp [pot,mw,mat];done) | (right;exact ⟨rfl,by simp [pot,mw,mat],by simp [rankM,mat]⟩)
 rcases key with hl | ⟨rfl,h1,h2⟩
 ·exact low_of hl (ranks_le hmn)
 ·have:=Nat.mul_le_mul_right (101 * (n+1)) h1;unfold mea;omega
theorem spawn_mea (h:Inv n m th s M) (hM:M.pc=.go):mea n (m+1) (upd th m (at_ .ld)) s (behindGo n m) < mea n m th s M:=by
 have hg:=h.group;have hlt:m < n:=by unfold InvW at hg;rw [hM] at hg;exact hg.1
 refine low_of ?_ (ranks_le (by omega));unfold pot behindGo;rw [cnt_push];have e:mw n m M=20 * (n - m)+1:=by unfold mw;rw [hM]
 rw [e];by_cases h1:m+1 < n
 ·simp only [h1,if_true,mw,mat,wt1,at_];omega
 ·simp only [h1,if_false,mw,mat,wt1,at_];omega
end
structure Fit (n:Nat) (T:Th) (s:Sh):Prop where
 ok:TOk T
 old:T.old.c<=n
 muc:s.mu.c<=n
 ms:s.ms<=1
 ws:s.ws<=1
 v:s.v<=n+1
 lock:T.pc=.u0->s.mu.L=true
 r2:T.pc=.r2->s.mu.S=true->s.mu.L=false/\s.mu.W=false/\1<=s.mu.c
 a1:T.pc=.a1->s.mu.S=true/\s.mu.L=false/\s.mu.W=false/\1<=s.mu.c
 d1:T.pc=.d1->1<=s.v
 d2:T.pc=.d2->s.v=0/\s.wt=true
 nx:∀ r,r∈mv T s->TOk r.1
structure FitM (n:Nat) (M:MTh) (s:Sh):Prop where
 v:s.v<=n+1
 ws:s.ws<=1
 vo:M.vo<=n+1
 ad:M.pc=.ad->s.wt=false/\s.v<=n
 w1:M.pc=.w1->s.wt=false
 w2:M.pc=.w2->s.wt=false/\M.vo≠0
 w4:M.pc=.w4->s.v=0/\s.wt=false
section
variable {n m i:Nat} {th:Nat->Th} {s s':Sh} {T T':Th} {M M':MTh} {mu:Wd} {ms:Nat}
theorem cnt_three {f g h:Th->Nat} (hle:∀ T,f T+g T+h T<=1):∀ (m:Nat) (th:Nat->Th),cnt f m th+cnt g m th+cnt h m th<=m
 | 0,_=>by simp [cnt,sumTo]
 | m+1,th=>by
  have:=cnt_three hle m th;have:=hle (th m);simp only [cnt,sumTo] at *;omega
theorem fQTA (T:Th):fQ T+fT T+fA T<=1:=by unfold fQ fT fA;cases T.pc <;> simp
theorem InvL.c_le (h:InvL m th mu ms):mu.c<=m:=by
 have h3:=cnt_three fQTA m th
 cases hS:mu.S with
 | false=>have:=(h.calm hS).2.2.2;omega
 | true=>have:=(h.starve hS).2.2.2.2;omega
theorem InvL.ms_le (h:InvL m th mu ms):ms<=1:=by
 cases hS:mu.S with
 | false =>
  have:=(h.calm hS).1;have:mu.W.toNat<=1:=by cases mu.W <;> simp
  omega
 | true=>have:=(h.starve hS).2.2.2.1;omega
theorem InvW.v_le (h:InvW n m th s M):s.v<=n+1/\s.ws<=1:=by
 have hp:=cnt_le fP_le th (m:=m);unfold InvW at h;split at h <;> omega
theorem Inv.fit (h:Inv n m th s M) (hi:i < m) (ho:(th i).old.c<=n):Fit n (th i) s:=by
 have hn:m<=n:=by
  have:=h.group;unfold InvW at this;split at this <;> omega
 have hc:=h.lock.c_le;have hv:=InvW.v_le h.group;refine ⟨h.ok i hi,ho,by omega,h.lock.ms_le,hv.2,hv.1,fun e=>?_,fun e hS=>?_,fun e=>?_,fun e=>?_,fun e=>?_,fun r hr=>step_ok h.lock hi (h.ok i hi) (T':=r.1) (s':=r.2) hr⟩
 ·have h1:=le_cnt fH th hi;have h2:fH (th i)=1:=by simp [fH,e]
  have h3:=h.lock.held
  cases hL:s.mu.L with
  | true=>rfl
  | false=>rw [hL] at h3;simp at h3;omega
 ·have h1:=le_cnt fT th hi;have h2:fT (th i)=1:=by simp [fT,e]
  obtain ⟨hW,_,_,h3,h4⟩:=h.lock.starve hS;refine ⟨?_,hW,by omega⟩
  cases hL:s.mu.L with
  | false=>rfl
  | true=>rw [hL] at h3;simp at h3;omega
 ·have h1:=le_cnt fA th hi;have h2:fA (th i)=1:=by simp [fA,e]
  have hS:s.mu.S=true:=by
   cases hS:s.mu.S with
   | true=>rfl
   | false=>have:=(h.lock.calm hS).2.2.1;omega
  obtain ⟨hW,_,_,h3,h4⟩:=h.lock.starve hS;refine ⟨hS,?_,hW,by omega⟩
  cases hL:s.mu.L with
  | false=>rfl
  | true=>rw [hL] at h3;simp at h3;omega
 ·have h1:=le_cnt fP th hi;have h2:fP (th i)=1:=by simp [fP,e]
  have:=h.group;unfold InvW at this;split at this <;> omega
 ·have h1:=le_cnt fD th hi;have h2:fD (th i)=1:=by simp [fD,e]
  have:=h.group;unfold InvW at this;split at this <;> first | omega | (obtain ⟨_,_,h5 | h5 | h5⟩:=this <;> first | omega | exact ⟨h5.1,h5.2.1⟩)
theorem Inv.fitM (h:Inv n m th s M) (ho:M.vo<=n+1):FitM n M s:=by
 have hv:=InvW.v_le h.group;have hp:=cnt_le fP_le th (m:=m);refine ⟨hv.1,hv.2,ho,fun e=>?_,fun e=>?_,fun e=>?_,fun e=>?_⟩ <;> have:=h.group <;> unfold InvW at this <;> rw [e] at this <;> simp only at this
 ·exact ⟨this.2.2.1,by omega⟩
 ·exact this.2.2.1
 ·exact ⟨this.2.2.1,this.2.2.2.2.2.2⟩
 ·exact ⟨this.2.1,this.2.2.2.1⟩
theorem hd_old (T:Th):(hd T).old=T.old:=by unfold hd;split <;> rfl
theorem uh_old (T:Th):(uh T).old=T.old:=by unfold uh;split <;> rfl
theorem old_step (hm:(T',s')∈mv T s) (h1:T.old.c<=n) (h2:s.mu.c<=n):T'.old.c<=n:=by
 obtain ⟨pc,old,aw,sv,it,ws⟩:=T;have z:(⟨false,false,false,0⟩:Wd).c<=n:=Nat.zero_le _;cases pc <;> simp only [mv] at hm
 all_goals (repeat' split at hm)
 all_goals simp only [List.mem_cons,List.mem_singleton,List.not_mem_nil,or_false,Prod.mk.injEq,List.append_nil,List.mem_append] at hm
 all_goals first
  | exact hm.elim
  | (rcases hm with ⟨rfl,rfl⟩ | ⟨rfl,rfl⟩ <;> first | exact h1 | exact z | (rw [hd_old];exact h2))
  | (obtain ⟨rfl,rfl⟩:=hm;first | exact h1 | exact z | (rw [hd_old];exact h2) | (rw [hd_old];exact h1) | (rw [uh_old];exact h2) | exact h2)
theorem main_vo (hm:(M',s')∈mvM M s) (h1:M.vo<=n+1) (h2:s.v<=n+1):M'.vo<=n+1:=by
 obtain ⟨pc,vo⟩:=M;have z:(0:Nat)<=n+1:=Nat.zero_le _;cases pc <;> simp only [mvM] at hm
 all_goals (repeat' split at hm)
 all_goals simp only [List.mem_singleton,List.not_mem_nil,Prod.mk.injEq] at hm
 all_goals first
  | exact hm.elim
  | (obtain ⟨rfl,rfl⟩:=hm;first | exact h1 | exact z | exact h2)
theorem held_one (h:InvL m th mu ms) {j:Nat} (hi:i < m) (hj:j < m) (hne:j≠i) (h1:fH (th i)=1):fH (th j)=0:=by
 have e:=cnt_upd fH th (at_ .ld) hi;have e2:=le_cnt fH (upd th i (at_ .ld)) hj;rw [upd_ne _ _ hne] at e2;have e3:=h.held;have e4:fH (at_ .ld)=0:=rfl;have e5:mu.L.toNat<=1:=by cases mu.L <;> simp
 omega
def holds (T:Th):Bool:=match T.pc with | .rl | .ur=>true | _=>false
theorem holds_fH {T:Th} (h:holds T=true):fH T=1:=by
 unfold holds at h;unfold fH;split at h <;> simp_all
def past (T:Th):Bool:=match T.pc with | .ud | .u0 | .uc | .uo | .us | .ux | .ue | .wr | .wk | .d1 | .d2 | .d3 | .d4 | .quit=>true | _=>false
def mute (T:Th):Bool:=match T.pc with | .wk | .d1 | .d2 | .d3 | .d4 | .quit=>true | _=>false
def deaf (T:Th):Nat:=match T.pc with | .ld | .la | .rl | .ur | .ud | .wr | .wk=>0 | _=>1
def deafM (M:MTh):Nat:=match M.pc with | .kd | .go | .wd | .aq | .fin=>0 | _=>1
end
end Mob
namespace Mt
open Go Go.Conc Mob
open Go.ConcN (sumTo upd sumTo_upd upd_ne upd_same)
def Tos (t:Tape) (o:Os) (w:World):Prop:=w.tape=t/\ConcM.OsLater o w.os
theorem Tos.refl (w:World):Tos w.tape w.os w:=⟨rfl,ConcM.OsLater.refl _⟩
theorem Tos.trans {t:Tape} {o:Os} {w w':World} (h:Tos w.tape w.os w') (k:Tos t o w):Tos t o w':=⟨h.1.trans k.1,k.2.trans h.2⟩
theorem Tos.same {w w':World} (h:w'.tape=w.tape) (ho:w'.os=w.os):Tos w.tape w.os w':=⟨h,ho ▸ ConcM.OsLater.refl _⟩
theorem Tos.view {w w2 v v2:World} (h1:v.tape=w.tape) (h2:v.os=w.os) (h:Tos w.tape w.os w2) (h3:v2.tape=w2.tape) (h4:v2.os=w2.os):Tos v.tape v.os v2:=by
 rw [h1,h2];exact ⟨h3.trans h.1,h4 ▸ h.2⟩
structure Mill where
 P:Program
 ro:Hold
 Mu:Nat
 Wg:Nat
 C:Nat
 tM:TypeId
 tW:TypeId
 n:Nat
 KI:(Nat->Bool)->Obj->Prop
 tape:Tape
 os:Os
 out:Array (Nat × ByteArray)
 lo:Nat
 b:Nat
 D:Nat->Prop
 T0:Nat
 keep:Hold
def muI (w:Wd):Int:=((w.L.toNat+2 * w.W.toNat+4 * w.S.toNat+8 * w.c:Nat):Int)
def wgI (v:Nat) (wt:Bool):Int:=((v * 4294967296+wt.toNat:Nat):Int)
def muObj (t:TypeId) (w:Wd) (ms:Nat):Obj:=.cells #[.int .i32 (muI w),.int .u32 (ms:Int)] t
def wgObj (t:TypeId) (v:Nat) (wt:Bool) (ws:Nat):Obj:=.cells #[.int .u64 (wgI v wt),.int .u32 (ws:Int)] t
def SWalk (P:Program) (E:World->Prop) (Stop:Goroutine->Prop):Nat->Goroutine->Prop
 | 0,g=>Stop g
 | n+1,g=>Stop g\/(g.status=.running/\∀ w,E w->∃ g',stepG P false g w=.go g' w #[]/\SWalk P E Stop n g')
structure Eff (Mu Wg:Nat) (w w':World):Prop where
 tape:Tos w.tape w.os w'
 output:w'.output=w.output
 size:w'.heap.size=w.heap.size
 block:∀ k,k≠Mu->k≠Wg->w'.heap[k]? = w.heap[k]?
theorem Eff.refl {Mu Wg:Nat} (w:World):Eff Mu Wg w w:=⟨Tos.refl w,rfl,rfl,fun _ _ _=>rfl⟩
def none_:Hold:=fun _=>none
variable (F:Mill)
def Mill.Sh (w:World) (s:Mob.Sh):Prop:=w.heap[F.Mu]? = some (muObj F.tM s.mu s.ms)/\w.heap[F.Wg]? = some (wgObj F.tW s.v s.wt s.ws)
def Mill.E (w:World):Prop:=∃ s,F.Sh w s
def EvStop (T T':Th) (es:Array Event):Prop :=
 match T.pc with
 | .la=>es=#[⟨.mark (.acquire (at0 F.Mu)),false,true⟩]
 | .ur=>es=#[⟨.mark (.releaseMerge (at0 F.Mu)),false,true⟩]
 | .wr=>es=#[⟨.mark (.releaseMerge (at0 F.Wg)),false,true⟩]
 | _=>(∀ e∈es,Bk F.Mu F.Wg false e)/\deafBehind (deaf T) es=deaf T' /\
  (mute T=true->(∀ e∈es,Bk F.Wg F.Wg false e)/\∀ j e,es[j]? = some e->(MemAct.ofEvent e).touch? = none\/0 < deafBehind (deaf T) (es.extract 0 j))
def EvStopM (M M':MTh) (es:Array Event):Prop :=
 match M.pc with
 | .aq=>es=#[⟨.mark (.acquire (at0 F.Wg)),false,true⟩]
 | _=>(∀ e∈es,Bk F.Mu F.Wg true e)/\deafBehind (deafM M) es=deafM M'
def Cont (Nx:Th->(Nat->Bool)->Goroutine->Hold->Prop) (T':Th) (σ:Nat->Bool) (g':Goroutine) (own':Hold):Prop :=
 if T'.pc=.quit then ∃ q,QuitsD F.P q 1 g'
 else if mute T'=true then ∃ k,SWalk F.P F.E (fun g=>Nx T' σ g none_) k g'
 else ∃ k,Walk F.P false F.ro F.E (Nx T' σ) k g' own'
def After (Nx:Th->(Nat->Bool)->Goroutine->Hold->Prop) (j:Nat) (T T':Th) (σ:Nat->Bool) (w:World) (g':Goroutine) (own:Hold):Prop :=
 match T.pc with
 | .la=>∀ σ' o,σ' j=false->w.heap[F.C]? = some o->F.KI σ' o->Cont F Nx T' σ' g' (own.set F.C o)
 | .ur=>Cont F Nx T' σ g' (own.del F.C)
 | .wr=>Cont F Nx T' σ g' none_
 | _=>Cont F Nx T' σ g' own
structure Stp1 (Nx:Th->(Nat->Bool)->Goroutine->Hold->Prop) (j:Nat) (T:Th) (σ:Nat->Bool) (g:Goroutine) (own:Hold):Prop where
 run:g.status=.running
 off:g.offers=none
 wake:T.pc=.us\/T.pc=.ux\/T.pc=.d4->mayWake F.P g=true
 put:T.pc=.ur->∃ o,own F.C=some o/\F.KI (upd σ j true) o
 blk:∀ w s,Meets w own (if mute T then none_ else F.ro)->F.Sh w s->Fit F.n T s->mv T s=[]->stepG F.P false g w=.go { g with status:=.blocked } w #[]
 go:∀ w s,Meets w own (if mute T then none_ else F.ro)->F.Sh w s->Fit F.n T s->mv T s≠[]->∃ r∈mv T s,∃ g' w' es,stepG F.P false g w=.go g' w' es/\F.Sh w' r.2/\Eff F.Mu F.Wg w w'/\EvStop F T r.1 es/\After F Nx j T r.1 σ w g' own
def AtD:Nat->Nat->Th->(Nat->Bool)->Goroutine->Hold->Prop
 | 0,_,_,_,_,_=>True
 | d+1,j,T,σ,g,own=>Stp1 F (AtD d j) j T σ g own
variable (Fin:Goroutine->Hold->Prop)
def ContM (Nx:MTh->Goroutine->Hold->Prop) (M M':MTh) (w:World) (g':Goroutine) (own:Hold):Prop :=
 match M.pc with
 | .aq=>∀ o,w.heap[F.C]? = some o->F.KI (fun j=>decide (j < F.n)) o->Fin g' (own.set F.C o)
 | _=>∃ k,Walk F.P true F.ro F.E (Nx M') k g' own
structure StpM (Nx:Nat->MTh->Goroutine->Hold->Prop) (d m:Nat) (M:MTh) (g:Goroutine) (own:Hold):Prop where
 run:g.status=.running
 off:g.offers=none
 blk:M.pc≠.go->∀ w s,Meets w own F.ro->F.Sh w s->FitM F.n M s->mvM M s=[]->stepG F.P true g w=.go { g with status:=.blocked } w #[]
 go:M.pc≠.go->∀ w s,Meets w own F.ro->F.Sh w s->FitM F.n M s->mvM M s≠[]->∃ r∈mvM M s,∃ g' w' es,stepG F.P true g w=.go g' w' es/\F.Sh w' r.2/\Eff F.Mu F.Wg w w'/\EvStopM F M r.1 es/\ContM F Fin (Nx m) M r.1 w g' own
 spawn:M.pc=.go->m < F.n->∀ w s,Meets w own F.ro->F.Sh w s->∃ g' child es own' H,stepG F.P true g w=.spawn g' child w es/\(∀ e∈es,EvOwn own F.ro e)/\(∀ r o,own' r=some o->own r=some o)/\(∀ r o,H r=some o->own r=some o)/\(∀ r,keyOf own' r->¬ keyOf H r) /\
  (∃ k,Walk F.P false F.ro F.E (AtD F d m (at_ .ld) (fun _=>false)) k child H)/\∃ k,Walk F.P true F.ro F.E (Nx (m+1) (behindGo F.n m)) k g' own'
def AtM:Nat->Nat->MTh->Goroutine->Hold->Prop
 | 0,_,_,_,_=>True
 | d+1,m,M,g,own=>StpM F Fin (AtM d) d m M g own
end Mt
end Go.Proofs.YtgkajecjbflbbaaGreatDoor
