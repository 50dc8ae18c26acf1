/- StoreLoaded -/
import Derived.Test.YtdjnkplgllakcaaGreatDoorSL07
import Derived.Deep.OwnRows
set_option maxHeartbeats 6000000
set_option maxRecDepth 100000
set_option linter.all false
namespace Go.Proofs.YtdjnkplgllakcaaGreatDoor
section
open Go.RowKit Go.Maps Sp
def tries (n:Nat) (ld:Int):List Int:=if ld=0 then [(-1:Int)] else (List.range n).map fun (k:Nat)=>(k:Int)
def restP (loads pre:List Int) (ks rest:List Int) (j:Nat):List (List Int × List Int):=(ks.drop j).flatMap fun k=>plansFrom loads (pre ++ [k]) rest
theorem plansFrom_cons (loads pre:List Int) (ld:Int) (rest:List Int):plansFrom loads pre (ld::rest)=restP loads pre (tries loads.length ld) rest 0:=rfl
theorem restP_succ (loads pre ks rest:List Int) {j:Nat} (h:j < ks.length):restP loads pre ks rest j=plansFrom loads (pre ++ [ks[j]]) rest ++ restP loads pre ks rest (j+1):=by
 unfold restP;rw [List.drop_eq_getElem_cons h,List.flatMap_cons]
theorem restP_end (loads pre ks rest:List Int) {j:Nat} (h:ks.length<=j):restP loads pre ks rest j=[]:=by
 unfold restP;rw [List.drop_of_length_le h];rfl
section
variable {vr vg vm vs vc:Value} {LB lc n:Nat} {loads:List Int}
theorem plan_next (hlb:∀ x∈loads,0<=x/\x<=1000) (hn:loads.length=n) (hn50:n<=50) {s l:Nat}
 {J Jx:List (List Int × List Int)->World->Prop} (hJ:∀ pre A B,J pre A->KS (fun k=>¬ (k=s+1+1)) A B->J pre B)
 {p:Nat->Prop} (hp0:p LB) (hps:∀ k,s<=k->k<=s+1+1+1+1->p k) {xs:List (List Int × List Int)}
 (hY:∀ done x args A,(∃ suf,xs=done ++ x::suf)->encPl s n x args A->J done A->YieldAt Fence.wide 0 Tryz.prog l args A fun e B=>(e=.returned (.bool true)/\J (done ++ [x]) B/\KS p A B)\/(e=.returned (.bool false)/\Jx (done ++ [x]) B)) :
 ∀ (m i:Nat),i+m=n->∀ (A:World) (cl:List Int) (done suf:List (List Int × List Int)),PSt LB loads vr vg vm vs vc lc n s l A cl->J done A->xs=done ++ plansFrom loads (cl.take i) (loads.drop i) ++ suf ->
  CallsIn Fence.wide 0 Tryz.prog 75 (planArgs i s) A (PlanOut LB loads vr vg vm vs vc lc n s l i cl J Jx (done ++ plansFrom loads (cl.take i) (loads.drop i)))
 | 0,i,hi,A,cl,done,suf,hA,hj,hx=>by
  obtain rfl:i=n:=by omega
  rw [List.drop_of_length_le (by omega),List.take_of_length_le (by rw [hA.len];omega),plansFrom] at hx ⊢
  cases hp:planOk loads cl with
  | none =>
   simp only [hp,List.append_nil] at hx ⊢;exact plan_leaf_no hlb hn hn50 hA hJ hj hp
  | some t =>
   simp only [hp] at hx ⊢;exact plan_leaf_yes hlb hn hn50 hA hJ hj hp hp0 hps fun args A' he hj'=>hY done (cl,t) args A' ⟨suf,by simpa using hx⟩ he hj'
 | m+1,i,hi,A,cl,done,suf,hA,hj,hx=>by
  have ih:=plan_next hlb hn hn50 hJ hp0 hps hY m (i+1) (by omega);have hin:i < n:=by omega
  have hil:i < loads.length:=by omega
  have dl:=hA.ldi.cells i hil;rw [Nat.zero_add,show loads.getD i 0=loads[i] by simp [List.getD,List.getElem?_eq_getElem hil]] at dl;rw [List.drop_eq_getElem_cons hil,plansFrom_cons,hn] at hx ⊢;generalize hld:loads[i]=ld at *;have hA0:=hA.lt;obtain ⟨f0,f1,f2,f3,f4,f5⟩:=hA.five;have f6:=hA.ld;have hpv:=hA.pv;have ki:=hA.c i hin;have kf:=hA.fz i hin;have hlb2:LB < A.heap.size:=by have:=hA.lbs;have:=hA.lt;omega
  have hA2:s+1+1 < A.heap.size:=by omega
  have hA3:s+1+1+1 < A.heap.size:=by omega
  have hii:(i:Int) < n:=by omega
  have hii0:(0:Int)<=i:=by omega
  have hne:((i:Int) == (n:Int))=false:=by simp;omega
  have hne2:¬ (i:Int)=(n:Int):=by omega
  have hne3:¬ i=n:=by omega
  have e1:IntKind.i64.wrap ((i:Int)+1)=(i:Int)+1:=IntWalk.i64_in _ (by omega);obtain ⟨ks,hks⟩:∃ ks,tries n ld=ks:=⟨_,rfl⟩;rw [hks] at hx ⊢;have HA:=Hh hA;have HJ:=Hh hJ;have HJ0:=Hh hj;have HX:=Hh hx;have IH:=Hh ih;have HP0:=Hh hp0;have HPS:=Hh hps;generalize hci:cl.getD i 0=ci at ki;obtain ⟨f,tt,hf,ht,hkl,hka,hf1,ht1,hft⟩:∃ f tt:Int,f=(if ld=0 then -1 else 0)/\tt=(if ld=0 then 0 else (n:Int))/\ks.length=(tt - f).toNat/\(∀ j (h:j < ks.length),ks[j]=f+j)/\-1<=f/\tt<=n/\f<=tt:=by
   refine ⟨_,_,rfl,rfl,?_,?_,?_,?_,?_⟩
   ·rw [<- hks];unfold tries;split <;> simp
   ·intro j h;subst hks;unfold tries at h ⊢;by_cases h0:ld=0
    ·simp only [h0,if_true] at h ⊢;simp at h;subst h;rfl
    ·simp only [h0,if_false] at h ⊢;simp
   ·split <;> omega
   ·split <;> omega
   ·split <;> omega
  have HKA:=Hh hka;have HKL:=Hh hkl;clear hlb hn hA hJ hj hx ih hp0 hps hY hld hks hci hka hkl;by_cases h0:ld=0
  ·rw [if_pos h0] at hf ht;subst h0 hf ht;unfold planArgs
   (refine callsIn_of_wp Tryz.func75 rfl trivial ?_ rfl;simp only [Tryz.ntmps75,List.size_toArray,List.length_cons,List.length_nil,Nat.reduceAdd,Nat.reduceSub,Array.replicate_succ,Array.replicate_zero,List.push_toArray,List.append_toArray,List.nil_append,List.cons_append])
   gi_wp2
   gi_big_quiet_th (fail)
   gi_wp2
   have hst0:=(HA.out.keep (KS.drewN (fun _=>True) _ nq) trivial (fun _ _ _=>trivial)).set hin (-1);have hks0:KS (fun k=>¬ (k=s+1+1)) A ((A.drewN nq).setCell ⟨s+1+1,i,none⟩ (.int .i64 (-1))):=(KS.drewN _ _ _).trans (KS.setCell (by simp) _ _);have hj0:=HJ.out _ _ _ HJ0.out hks0;have htk0:(cl.set i (-1)).take i=cl.take i:=set_take _;have hg0:(cl.set i (-1)).getD i 0=-1:=by simp [List.getD,HA.out.len,hin]
   have HST0:=Hh hst0;have HJ1:=Hh hj0;have HTK0:=Hh htk0;have HG0:=Hh hg0;have hT0:(-1:Int)<=0:=by omega
   clear hst0 hks0 hj0 htk0 hg0 f0 f1 f2 f3 f4 f5 f6 hpv ki kf dl
   gi_loopw [6] (fun v wr=>∃ (cl':List Int) (j:Nat) (x:Int) (part:List (List Int × List Int)),v=.bool false/\PSt LB loads vr vg vm vs vc lc n s l wr cl'/\cl'.take i=cl.take i/\Hid (cl'.getD i 0=x)/\Hid (x=-1+j)/\-1<=x/\x<=0/\j<=ks.length/\Hid (part ++ restP loads (cl.take i) ks (loads.drop (i+1)) j=restP loads (cl.take i) ks (loads.drop (i+1)) 0)/\J (done ++ part) wr)
    (fun _ wr=>(0 - intOf ((wr.cell? ⟨s+1+1,i,none⟩).getD undef)).toNat)
   case atStart=>exact ⟨_,0,-1,[],rfl,HST0.out,HTK0.out,HG0.out,(by show (-1:Int)=-1+(0:Nat);rfl),by omega,by omega,Nat.zero_le _,rfl,by simpa using HJ1.out⟩
   case round =>
    obtain ⟨cl',j,x,part,rfl,hA',htk,hgi,hxj,hx0,hx1,hjl,hpart,hj'⟩:=hrel;have k':=hA'.c i hin;have kf':=hA'.fz i hin;rw [hgi.out] at k';have hB1:=hA'.lt;have hB2:s+1+1 < wr.heap.size:=by omega
    have hB3:s+1+1+1 < wr.heap.size:=by omega
    have hnx:=hA'.nx;have hpv:=hA'.pv;have hlen':=hA'.len;have e2:IntKind.i64.wrap (x+1)=x+1:=IntWalk.i64_in _ (by omega);have HA':=Hh hA';have HJ':=Hh hj';have HTK:=Hh htk;have HLEN:=Hh hlen';clear hA' hj' htk hlen';by_cases hle:x < 0
    ·have hjlt:j < ks.length:=by have:=hxj.out;have:=HKL.out;omega
     gi_wp2
     have hpart2:=hpart.out;rw [restP_succ _ _ _ _ hjlt,HKA.out j hjlt,<- hxj.out,<- List.append_assoc] at hpart2;have htk1:cl'.take (i+1)=cl.take i ++ [x]:=by rw [take_of_getD (by rw [HLEN.out];omega),HTK.out,hgi.out]
     have ihc:=IH.out wr cl' (done ++ part) (restP loads (cl.take i) ks (loads.drop (i+1)) (j+1) ++ suf) HA'.out HJ'.out (by rw [HX.out,htk1,<- hpart2];simp only [List.append_assoc]);rw [htk1] at ihc;rw [show planArgs (i+1) s=#[.int .i64 ((i:Int)+1),.pointer (some ⟨s+1+1+1,0,none⟩),.pointer (some ⟨s,0,none⟩),.pointer (some ⟨s+1,0,none⟩),.pointer (some ⟨s+1+1+1+1,0,none⟩)] from by simp [planArgs]] at ihc;refine ihc.mono ?_;rintro e B (⟨cl'',rfl,hA'',htk'',hj''⟩ | ⟨rfl,pre,hjx⟩)
     ·have m':=hA''.c i hin;have mf:=hA''.fz i hin;have hgi'':cl''.getD i 0=x:=by rw [getD_of_take htk'' (Nat.lt_succ_self i),hgi.out]
      rw [hgi''] at m';have hC1:=hA''.lt;have hC2:s+1+1 < B.heap.size:=by omega
      have hC3:s+1+1+1 < B.heap.size:=by omega
      have hpv2:=hA''.pv;have HA'':=Hh hA'';have HTK'':=Hh htk'';have HJ'':=Hh hj'';have HPART:=Hh hpart2;have HXJ:=Hh (show x+1=-1+((j+1:Nat):Int) by have:=hxj.out;omega);clear hA'' htk'' hj'' hgi'' ihc htk1 hpart2 hpv hnx
      gi_wp2
      go_roundw
      case rel =>
       refine ⟨cl''.set i (x+1),j+1,x+1,part ++ plansFrom loads (cl.take i ++ [x]) (loads.drop (i+1)),rfl,HA''.out.set hin _,?_,?_,HXJ.out,by omega,by omega,by omega,HPART.out,?_⟩
       ·rw [set_take,<- HTK.out];have:=congrArg (List.take i) HTK''.out;simpa [List.take_take] using this
       ·simp only [Hid,List.getD];rw [List.getElem?_set_self (by rw [HA''.out.len];omega)];simp
       ·rw [<- List.append_assoc];exact HJ.out _ _ _ HJ''.out (KS.setCell (by simp) _ _)
      case measure =>
       rw [World.cell?_setCell_same' _ _ _ (by rw [m'];rfl),k'];simp [intOf];omega
     ·gi_wp2
      go_ret;exact .inr ⟨rfl,pre,hjx⟩
    ·have hpart2:=hpart.out;rw [restP_end _ _ _ _ (by have:=hxj.out;have:=HKL.out;omega),List.append_nil] at hpart2;have HPART:=Hh hpart2;clear hpart2
     gi_wp2
     go_ret;exact .inl ⟨cl',rfl,HA'.out,HTK.out,by rw [<- HPART.out];exact HJ'.out⟩
  ·rw [if_neg h0] at hf ht;have h0':(ld == 0)=false:=by simpa using h0
   subst hf ht;unfold planArgs
   (refine callsIn_of_wp Tryz.func75 rfl trivial ?_ rfl;simp only [Tryz.ntmps75,List.size_toArray,List.length_cons,List.length_nil,Nat.reduceAdd,Nat.reduceSub,Array.replicate_succ,Array.replicate_zero,List.push_toArray,List.append_toArray,List.nil_append,List.cons_append])
   gi_wp2
   gi_big_quiet_th (fail)
   gi_wp2
   have hst0:=(HA.out.keep (KS.drewN (fun _=>True) _ nq) trivial (fun _ _ _=>trivial)).set hin (0);have hks0:KS (fun k=>¬ (k=s+1+1)) A ((A.drewN nq).setCell ⟨s+1+1,i,none⟩ (.int .i64 (0))):=(KS.drewN _ _ _).trans (KS.setCell (by simp) _ _);have hj0:=HJ.out _ _ _ HJ0.out hks0;have htk0:(cl.set i (0)).take i=cl.take i:=set_take _;have hg0:(cl.set i (0)).getD i 0=0:=by simp [List.getD,HA.out.len,hin]
   have HST0:=Hh hst0;have HJ1:=Hh hj0;have HTK0:=Hh htk0;have HG0:=Hh hg0;have hT0:(0:Int)<=(n:Int):=by omega
   clear hst0 hks0 hj0 htk0 hg0 f0 f1 f2 f3 f4 f5 f6 hpv ki kf dl
   gi_loopw [6] (fun v wr=>∃ (cl':List Int) (j:Nat) (x:Int) (part:List (List Int × List Int)),v=.bool false/\PSt LB loads vr vg vm vs vc lc n s l wr cl'/\cl'.take i=cl.take i/\Hid (cl'.getD i 0=x)/\Hid (x=0+j)/\-1<=x/\x<=(n:Int)/\j<=ks.length/\Hid (part ++ restP loads (cl.take i) ks (loads.drop (i+1)) j=restP loads (cl.take i) ks (loads.drop (i+1)) 0)/\J (done ++ part) wr)
    (fun _ wr=>((n:Int) - intOf ((wr.cell? ⟨s+1+1,i,none⟩).getD undef)).toNat)
   case atStart=>exact ⟨_,0,0,[],rfl,HST0.out,HTK0.out,HG0.out,(by show (0:Int)=0+(0:Nat);rfl),by omega,by omega,Nat.zero_le _,rfl,by simpa using HJ1.out⟩
   case round =>
    obtain ⟨cl',j,x,part,rfl,hA',htk,hgi,hxj,hx0,hx1,hjl,hpart,hj'⟩:=hrel;have k':=hA'.c i hin;have kf':=hA'.fz i hin;rw [hgi.out] at k';have hB1:=hA'.lt;have hB2:s+1+1 < wr.heap.size:=by omega
    have hB3:s+1+1+1 < wr.heap.size:=by omega
    have hnx:=hA'.nx;have hpv:=hA'.pv;have hlen':=hA'.len;have e2:IntKind.i64.wrap (x+1)=x+1:=IntWalk.i64_in _ (by omega);have HA':=Hh hA';have HJ':=Hh hj';have HTK:=Hh htk;have HLEN:=Hh hlen';clear hA' hj' htk hlen';by_cases hle:x < (n:Int)
    ·have hjlt:j < ks.length:=by have:=hxj.out;have:=HKL.out;omega
     gi_wp2
     have hpart2:=hpart.out;rw [restP_succ _ _ _ _ hjlt,HKA.out j hjlt,<- hxj.out,<- List.append_assoc] at hpart2;have htk1:cl'.take (i+1)=cl.take i ++ [x]:=by rw [take_of_getD (by rw [HLEN.out];omega),HTK.out,hgi.out]
     have ihc:=IH.out wr cl' (done ++ part) (restP loads (cl.take i) ks (loads.drop (i+1)) (j+1) ++ suf) HA'.out HJ'.out (by rw [HX.out,htk1,<- hpart2];simp only [List.append_assoc]);rw [htk1] at ihc;rw [show planArgs (i+1) s=#[.int .i64 ((i:Int)+1),.pointer (some ⟨s+1+1+1,0,none⟩),.pointer (some ⟨s,0,none⟩),.pointer (some ⟨s+1,0,none⟩),.pointer (some ⟨s+1+1+1+1,0,none⟩)] from by simp [planArgs]] at ihc;refine ihc.mono ?_;rintro e B (⟨cl'',rfl,hA'',htk'',hj''⟩ | ⟨rfl,pre,hjx⟩)
     ·have m':=hA''.c i hin;have mf:=hA''.fz i hin;have hgi'':cl''.getD i 0=x:=by rw [getD_of_take htk'' (Nat.lt_succ_self i),hgi.out]
      rw [hgi''] at m';have hC1:=hA''.lt;have hC2:s+1+1 < B.heap.size:=by omega
      have hC3:s+1+1+1 < B.heap.size:=by omega
      have hpv2:=hA''.pv;have HA'':=Hh hA'';have HTK'':=Hh htk'';have HJ'':=Hh hj'';have HPART:=Hh hpart2;have HXJ:=Hh (show x+1=0+((j+1:Nat):Int) by have:=hxj.out;omega);clear hA'' htk'' hj'' hgi'' ihc htk1 hpart2 hpv hnx
      gi_wp2
      go_roundw
      case rel =>
       refine ⟨cl''.set i (x+1),j+1,x+1,part ++ plansFrom loads (cl.take i ++ [x]) (loads.drop (i+1)),rfl,HA''.out.set hin _,?_,?_,HXJ.out,by omega,by omega,by omega,HPART.out,?_⟩
       ·rw [set_take,<- HTK.out];have:=congrArg (List.take i) HTK''.out;simpa [List.take_take] using this
       ·simp only [Hid,List.getD];rw [List.getElem?_set_self (by rw [HA''.out.len];omega)];simp
       ·rw [<- List.append_assoc];exact HJ.out _ _ _ HJ''.out (KS.setCell (by simp) _ _)
      case measure =>
       rw [World.cell?_setCell_same' _ _ _ (by rw [m'];rfl),k'];simp [intOf];omega
     ·gi_wp2
      go_ret;exact .inr ⟨rfl,pre,hjx⟩
    ·have hpart2:=hpart.out;rw [restP_end _ _ _ _ (by have:=hxj.out;have:=HKL.out;omega),List.append_nil] at hpart2;have HPART:=Hh hpart2;clear hpart2
     gi_wp2
     go_ret;exact .inl ⟨cl',rfl,HA'.out,HTK.out,by rw [<- HPART.out];exact HJ'.out⟩
end
theorem made_cell (w:World) (n:Nat) (t:TypeId) {m k:Nat} (hm:m=w.heap.size) (hk:k < n):(w.alloc (.cells (madeCells #[.int .i64 0] n) t)).cell? ⟨m,k,none⟩=some (.int .i64 0):=by
 rw [World.cell?_alloc_at _ _ _ _ hm];show (madeCells #[.int .i64 0] n)[k]? = _;simp [madeCells,hk,Nat.mod_one]
section
variable {vr vg vm vs vc:Value} {LB lc n:Nat} {loads:List Int}
theorem plans_iter {W:World} (hL:IntsAt W (some ⟨LB,0,none⟩) loads) (hLB:LB < W.heap.size) (hlb:∀ x∈loads,0<=x/\x<=1000) (hn:loads.length=n) (hn50:n<=50)
 {p:Nat->Prop} (hp0:p LB) (hps:∀ k,W.heap.size<=k->k<=W.heap.size+1+1+1+1->p k) :
 Iter Tryz.prog 39 (.agg #[vr,vg,vm,vs,vc,.slice (some ⟨LB,0,none⟩) n lc]) (encPl W.heap.size n) (plansI loads) (fun k=>k=W.heap.size+1+1) p W:=by
 intro l J Jx hJ hJx hY h0;have hnx:=plan_next (vr:=vr) (vg:=vg) (vm:=vm) (vs:=vs) (vc:=vc) (lc:=lc) hlb hn hn50 hJ hp0 hps (xs:=plansI loads) (fun done x args A hs he hj=>hY done x args A hs he hj) n 0 (by omega);have HNX:=Hh hnx;have HJ:=Hh hJ;have H0:=Hh h0;have HL:=Hh hL;have hmk:=run_make_row' (P:=Tryz.prog) 35 3 (.int .i64 0) 8 Tryz.underlying35 intInfo rfl .i64 .i64 n (by omega) (by omega);clear hL hlb hn hJ hJx hY h0 hnx hp0 hps;refine callsIn_wide.2 ?_
 go_enter Tryz.func39,Tryz.ntmps39
 go_wp2_with fail;obtain ⟨W1,hW1⟩:∃ W1,W1=((((W.alloc (.cells #[vr,vg,vm,vs,vc,.slice (some ⟨LB,0,none⟩) n lc] 96)).alloc (.cells #[.func (.yield l) #[] #[]] 81)).alloc (.cells (madeCells #[.int .i64 0] n) 3)).alloc (.cells #[.slice (some ⟨W.heap.size+1+1,0,none⟩) n n] 35)).alloc
  (.cells #[.func (.func 75) #[] #[.pointer (some ⟨W.heap.size+1+1+1,0,none⟩),.pointer (some ⟨W.heap.size,0,none⟩),.pointer (some ⟨W.heap.size+1,0,none⟩),.pointer (some ⟨W.heap.size+1+1+1+1,0,none⟩)]] 133):=⟨_,rfl⟩
 rw [<- hW1];have hb1:Below W.heap.size W W1:=by rw [hW1];(exact bel)
 have h6:∀ k,k < 6->W1.cell? ⟨W.heap.size,k,none⟩=(W.alloc (.cells #[vr,vg,vm,vs,vc,.slice (some ⟨LB,0,none⟩) n lc] 96)).cell? ⟨W.heap.size,k,none⟩:=fun k _=>by
  rw [hW1,World.cell?_alloc_past _ _ _ (by first | (simp;done) | (simp;omega)),World.cell?_alloc_past _ _ _ (by first | (simp;done) | (simp;omega)),World.cell?_alloc_past _ _ _ (by first | (simp;done) | (simp;omega)),World.cell?_alloc_past _ _ _ (by first | (simp;done) | (simp;omega))]
 have hst:PSt LB loads vr vg vm vs vc lc n W.heap.size l W1 (List.replicate n 0):=by
  refine ⟨HL.out.below hb1,hLB,?_,?_,?_,fun k hk=>?_,fun k hk=>?_,?_,?_,by simp,by rw [hW1];simp⟩
  ·exact ⟨(h6 0 (by omega)).trans (by simp),(h6 1 (by omega)).trans (by simp),(h6 2 (by omega)).trans (by simp),(h6 3 (by omega)).trans (by simp),(h6 4 (by omega)).trans (by simp),by rw [hW1];first | (simp;done) | (simp;omega)⟩
  ·exact (h6 5 (by omega)).trans (by simp)
  ·rw [hW1,World.cell?_alloc_past _ _ _ (by first | (simp;done) | (simp;omega)),World.cell?_alloc_past _ _ _ (by first | (simp;done) | (simp;omega)),World.cell?_alloc_past _ _ _ (by simp),World.cell?_alloc_at _ _ _ _ (by simp)];rfl
  ·rw [hW1,World.cell?_alloc_past _ _ _ (by first | (simp;done) | (simp;omega)),World.cell?_alloc_past _ _ _ (by simp),made_cell _ _ _ (by simp) hk];simp [List.getD,List.getElem?_replicate,hk]
  ·rw [hW1,World.frozen?_alloc_past _ _ _ (by first | (simp;done) | (simp;omega)),World.frozen?_alloc_past _ _ _ (by simp),World.frozen?_alloc_at _ _ _ _ (by simp)]
  ·rw [hW1,World.cell?_alloc_past _ _ _ (by simp),World.cell?_alloc_at _ _ _ _ (by simp)];rfl
  ·rw [hW1,World.cell?_alloc_at _ _ _ _ (by simp)];rfl
 have hcall:=callsIn_wide.1 (HNX.out W1 (List.replicate n 0) [] [] hst (HJ.out _ _ _ H0.out (KS.all hb1 _)) (by simp [plansI]));rw [show planArgs 0 W.heap.size=#[.int .i64 0,.pointer (some ⟨W.heap.size+1+1+1,0,none⟩),.pointer (some ⟨W.heap.size,0,none⟩),.pointer (some ⟨W.heap.size+1,0,none⟩),.pointer (some ⟨W.heap.size+1+1+1+1,0,none⟩)] from rfl] at hcall;have HC:=Hh hcall;clear hcall hst hb1 hW1;refine HC.out.mono ?_;rintro e B (⟨cl',rfl,_,_,hj⟩ | ⟨rfl,pre,hjx⟩)
 ·go_wp2
  go_end0
  exact ⟨⟨_,rfl⟩,.inl (by simpa [plansI] using hj)⟩
 ·go_wp2
  go_end0
  exact ⟨⟨_,rfl⟩,.inr ⟨pre,hjx⟩⟩
end
section
variable {w w':World} {a:Option Addr}
theorem flat2:∀ (l:List Prt) (i j:Nat) (_:j < 2) (h:i < l.length),(l.flatMap cellsQ)[i * 2+j]? = (cellsQ l[i])[j]?
 | [],i,j,_,h=>by simp at h
 | x::l,0,j,hj,h=>by
  rw [List.flatMap_cons,List.getElem?_append_left (by simp [cellsQ];omega)];simp
 | x::l,i+1,j,hj,h=>by
  rw [List.flatMap_cons,List.getElem?_append_right (by simp [cellsQ];omega),show (i+1) * 2+j - (cellsQ x).length=i * 2+j by simp [cellsQ];omega,flat2 l i j hj (by simpa using h)];simp
theorem flat2_length:∀ (l:List Prt),(l.flatMap cellsQ).length=l.length * 2
 | []=>rfl
 | x::l=>by rw [List.flatMap_cons,List.length_append,flat2_length l,List.length_cons];simp [cellsQ];omega
theorem parts_of_row {base n c:Nat} {l:List Prt} (h:w.ownsRow base 85 2 (.slice a n c) n (l.flatMap cellsQ)):PartsAt w a l:=fun i hi=>by
 have hlen:=flat2_length l;obtain ⟨g,rfl,_,h2,_⟩:=row_cell h (i * 2) (by omega);have hc:∀ j,j < 2->w.cell? ⟨g,i * 2+j,none⟩=(cellsQ l[i])[j]? := fun j hj=>by
  obtain ⟨g',e,_,_,h3⟩:=row_cell h (i * 2+j) (by omega);cases e;rw [h3,flat2 l i j hj hi]
 refine ⟨g,0,rfl,h2,?_,?_⟩
 ·rw [Nat.zero_add];exact hc 0 (by omega)
 ·rw [Nat.zero_add];exact hc 1 (by omega)
structure RowAt (w:World) (B:Nat) (l:List Int):Prop where
 c:∀ i (h:i < l.length),w.cell? ⟨B,i,none⟩=some (.int .i64 l[i])
 f:∀ i,i < l.length->w.frozen? ⟨B,i,none⟩=false
 lt:B < w.heap.size
theorem RowAt.made (w:World) (n:Nat) (t:TypeId):RowAt (w.alloc (.cells (madeCells #[.int .i64 0] n) t)) w.heap.size (List.replicate n 0) :=
 ⟨fun i h=>by rw [made_cell _ _ _ rfl (by simpa using h)];simp,fun i h=>by rw [World.frozen?_alloc_at _ _ _ _ rfl],by simp⟩
theorem RowAt.below {B n:Nat} {l:List Int} (h:RowAt w B l) (hb:Below n w w') (hn:B < n):RowAt w' B l :=
 ⟨fun i hi=>(hb.cell hn).trans (h.c i hi),fun i hi=>(hb.frozen hn).trans (h.f i hi),Nat.lt_of_lt_of_le h.lt hb.size⟩
theorem RowAt.drew {B:Nat} {l:List Int} (h:RowAt w B l):RowAt w.drew B l:=h.below (Below.drew (Below.refl (B+1) w)) (Nat.lt_succ_self B)
theorem RowAt.ints {B:Nat} {l:List Int} (h:RowAt w B l):IntsAt w (some ⟨B,0,none⟩) l:=fun i hi=>⟨B,0,rfl,h.lt,by rw [Nat.zero_add];exact h.c i hi⟩
theorem RowAt.set {B:Nat} {l:List Int} (h:RowAt w B l) {k:Nat} (hk:k < l.length) (v:Int):RowAt (w.setCell ⟨B,k,none⟩ (.int .i64 v)) B (l.set k v):=by
 refine ⟨fun i hi=>?_,fun i hi=>?_,by simpa [World.setCell] using h.lt⟩
 ·have hi2:i < l.length:=by simpa using hi
  by_cases hik:i=k
  ·subst hik;rw [World.cell?_setCell_same' _ _ _ (by rw [h.c i hi2];rfl)];simp
  ·rw [World.cell?_setCell_other (h:=fun e=>hik (by injection e with _ e _;exact e.symm)),h.c i hi2];simp [List.getElem_set_ne (Ne.symm hik)]
 ·rw [World.frozen?_setCell];exact h.f i (by simpa using hi)
theorem RowAt.ks {B:Nat} {l:List Int} {p:Nat->Prop} (h:RowAt w B l) (hk:KS p w w') (hp:p B):RowAt w' B l :=
 ⟨fun i hi=>(hk.cell (x:=⟨B,i,none⟩) h.lt hp).trans (h.c i hi),fun i hi=>(hk.frozen (x:=⟨B,i,none⟩) h.lt hp).trans (h.f i hi),Nat.lt_of_lt_of_le h.lt hk.size⟩
theorem KS.toBelow {p:Nat->Prop} {n:Nat} (h:KS p w w') (hn:n<=w.heap.size) (hp:∀ k,k < n->p k):Below n w w' :=
 ⟨h.os,h.tape,h.output,h.size,fun k hk=>h.block k (Nat.lt_of_lt_of_le hk hn) (hp k hk)⟩
theorem PartsAt.nil (w:World) (a:Option Addr):PartsAt w a []:=fun i hi=>absurd hi (by simp)
end
def loadsOf (n:Nat) (l:List Prt):List Int:=(List.range n).map fun (i:Nat)=>((l.countP fun p=>decide (p.1=(i:Int)):Nat):Int)
def missI (b:Bk):List Prt:=missL b (pasts b) (partsL b)
def loadsI (b:Bk):List Int:=loadsOf b.ms.length (missI b)
theorem loadsOf_length (n:Nat) (l:List Prt):(loadsOf n l).length=n:=by simp [loadsOf]
theorem loadsOf_nil (n:Nat):loadsOf n []=List.replicate n 0:=by
 apply List.ext_getElem
 ·simp [loadsOf]
 ·intro i h1 h2;simp [loadsOf]
theorem loadsOf_at (n:Nat) (l:List Prt) {i:Nat} (h:i < (loadsOf n l).length):(loadsOf n l)[i]=((l.countP fun p=>decide (p.1=(i:Int)):Nat):Int):=by simp [loadsOf]
theorem loadsOf_snoc (n:Nat) (l:List Prt) (p:Prt) {q:Nat} (hq:p.1=q) (hqn:q < n):loadsOf n (l ++ [p])=(loadsOf n l).set q ((loadsOf n l)[q]'(by rw [loadsOf_length];exact hqn)+1):=by
 apply List.ext_getElem
 ·simp [loadsOf]
 ·intro i h1 h2;rw [loadsOf_at];by_cases hi:q=i
  ·subst hi;rw [List.getElem_set_self,loadsOf_at,List.countP_append];simp [hq]
  ·rw [List.getElem_set_ne hi,loadsOf_at,List.countP_append];have:¬ (q:Int)=(i:Int):=by omega
   simp [hq,this]
theorem loadsOf_bd (n:Nat) (l:List Prt):∀ x∈loadsOf n l,0<=x/\x<=l.length:=fun x hx=>by
 obtain ⟨i,_,rfl⟩:=List.mem_map.1 hx;have:=List.countP_le_length (p:=fun p:Prt=>decide (p.1=(i:Int))) (l:=l);omega
section
variable {b:Bk} {vr vg vm vs vc:Value} {w:World}
theorem nightOf_at (hB:BookAt w b vr vg vm vs vc) (hO:BkOk b) {la:Option Addr} {lc:Nat} {l:List (List Int)} (hL:CamesAt w la l) (hl:∀ x∈l,Came b (pad x)/\(pad x).length=4/\x.length=b.ss.length) (hll:l.length<=2000) :
 Calls Tryz.prog 38 #[.agg #[vr,vg,vm,vs,vc],.slice la l.length lc] w fun e w'=>∃ B c,e=.returned (.agg #[vr,vg,vm,vs,vc,.slice (some ⟨B,0,none⟩) b.ms.length c])/\IntsAt w' (some ⟨B,0,none⟩) (loadsOf b.ms.length (missL b l (partsL b)))/\w.heap.size<=B/\B < w'.heap.size/\Below w.heap.size w w':=by
 have hms:∀ w':World,Below w.heap.size w w'->Calls Tryz.prog 36 #[.agg #[vr,vg,vm,vs,vc],.slice la l.length lc] w' fun e w2=>∃ v,e=.returned v/\w2.ownsRow (w'.heap.size+5) 85 2 v (missL b l (partsL b)).length ((missL b l (partsL b)).flatMap cellsQ)/\Below w'.heap.size w' w2:=fun w' hb=>missing_at (lc:=lc) (hB.below hb) hO (hL.below hb) hl hll;have hml:=hO.ml;have hmb:(missL b l (partsL b)).length<=5000:=Nat.le_trans (List.length_filter_le _ _) (parts_bd hO);have hpt:∀ p∈missL b l (partsL b),isPart b p=true:=fun p hp=>parts_isPart (List.mem_filter.1 hp).1;generalize missL b l (partsL b)=M at hms hmb hpt;have HMS:=Hh hms;have HPT:=Hh hpt;have hmk:=run_make_row' (P:=Tryz.prog) 35 3 (.int .i64 0) 8 Tryz.underlying35 intInfo rfl .i64 .i64 b.ms.length (by omega) (by omega);obtain ⟨rfl,rfl,⟨ma,mc,rfl,_,_⟩,⟨sa,sc,rfl,_,_⟩,ra,rc,rfl,_,_⟩:=id hB;clear hB hO hL hl hms hpt
 go_enter Tryz.func38,Tryz.ntmps38
 go_wp2
 go_region
 ·obtain ⟨W1,hW1⟩:∃ W1,W1=((((w.alloc (.cells #[.int .i64 b.room,.int .i64 b.gap,.slice ma b.ms.length mc,.slice sa b.ss.length sc,.slice ra b.rs.length rc] 88)).alloc (.cells #[.int .i64 0,.int .i64 0,.slice none 0 0,.slice none 0 0,.slice none 0 0,.slice none 0 0] 96)).alloc (.cells (madeCells #[.int .i64 0] b.ms.length) 3)).alloc (.cells #[.int .i64 b.room,.int .i64 b.gap,.slice ma b.ms.length mc,.slice sa b.ss.length sc,.slice ra b.rs.length rc,.slice (some ⟨w.heap.size+1+1,0,none⟩) b.ms.length b.ms.length] 96)).drew:=⟨_,rfl⟩;rw [<- hW1];have hb1:Below w.heap.size w W1:=by rw [hW1];(exact bel)
  have hs1:W1.heap.size=w.heap.size+1+1+1+1:=by rw [hW1];simp
  have hN:∀ k u,(#[.int .i64 b.room,.int .i64 b.gap,.slice ma b.ms.length mc,.slice sa b.ss.length sc,.slice ra b.rs.length rc,.slice (some ⟨w.heap.size+1+1,0,none⟩) b.ms.length b.ms.length]:Array Value)[k]? = some u->W1.cell? ⟨w.heap.size+1+1+1,k,none⟩=some u:=fun k u hk=>by
   rw [hW1];show (World.cell? _ _)=_;rw [World.cell?_drew];rw [World.cell?_alloc_at _ _ _ _ (by first | (simp;done) | (simp;omega))];exact hk
  have hZ:∀ k u,(#[.int .i64 0,.int .i64 0,.slice none 0 0,.slice none 0 0,.slice none 0 0,.slice none 0 0]:Array Value)[k]? = some u->W1.cell? ⟨w.heap.size+1,k,none⟩=some u/\W1.frozen? ⟨w.heap.size+1,k,none⟩=false:=fun k u hk=>by
   rw [hW1];refine ⟨?_,?_⟩
   ·rw [World.cell?_drew,World.cell?_alloc_past _ _ _ (by first | (simp;done) | (simp;omega)),World.cell?_alloc_past _ _ _ (by first | (simp;done) | (simp;omega)),World.cell?_alloc_at _ _ _ _ (by first | (simp;done) | (simp;omega))];exact hk
   ·rw [World.frozen?_drew,World.frozen?_alloc_past _ _ _ (by first | (simp;done) | (simp;omega)),World.frozen?_alloc_past _ _ _ (by first | (simp;done) | (simp;omega)),World.frozen?_alloc_at _ _ _ _ (by first | (simp;done) | (simp;omega))]
  have hR:RowAt W1 (w.heap.size+1+1) (List.replicate b.ms.length 0):=by
   rw [hW1];refine RowAt.drew ?_;exact (RowAt.made ((w.alloc (.cells #[.int .i64 b.room,.int .i64 b.gap,.slice ma b.ms.length mc,.slice sa b.ss.length sc,.slice ra b.rs.length rc] 88)).alloc (.cells #[.int .i64 0,.int .i64 0,.slice none 0 0,.slice none 0 0,.slice none 0 0,.slice none 0 0] 96)) _ _).below (n:=w.heap.size+1+1+1) ((Below.refl _ _).alloc (by simp) _) (by simp) |> fun h=>by simpa using h
  have hF:∀ k u,(#[.int .i64 b.room,.int .i64 b.gap,.slice ma b.ms.length mc,.slice sa b.ss.length sc,.slice ra b.rs.length rc]:Array Value)[k]? = some u->W1.cell? ⟨w.heap.size,k,none⟩=some u:=fun k u hk=>by
   rw [hW1,World.cell?_drew,World.cell?_alloc_past _ _ _ (by first | (simp;done) | (simp;omega)),World.cell?_alloc_past _ _ _ (by first | (simp;done) | (simp;omega)),World.cell?_alloc_past _ _ _ (by first | (simp;done) | (simp;omega)),World.cell?_alloc_at _ _ _ _ rfl];exact hk
  have HF:=Hh hF;have HN:=Hh hN;have HZ:=Hh hZ;clear hW1 hN hZ hF;have hF:∀ k u,(#[.int .i64 b.room,.int .i64 b.gap,.slice ma b.ms.length mc,.slice sa b.ss.length sc,.slice ra b.rs.length rc]:Array Value)[k]? = some u->W1.cell? ⟨w.heap.size,k,none⟩=some u:=fun k u hk=>HF.out k u hk;have f0:=hF 0 _ rfl;have f1:=hF 1 _ rfl;have f2:=hF 2 _ rfl;have f3:=hF 3 _ rfl;have f4:=hF 4 _ rfl;clear hF;go_wp2_with (go_at_call 36;(with_reducible refine (HMS.out _ (bel)).mono ?_);rintro e w2 ⟨v,rfl,hrow,hb2⟩;obtain ⟨pa,pc,rfl⟩:=ownsRow_slice hrow;have HROW:=Hh hrow;clear hrow);have hs2:=hb2.size;clear f0 f1 f2 f3 f4;go_loopw [19] (fun i wr=>∃ (k:Nat),k<=M.length/\i=.int .i64 k/\KS (fun j=>j≠w.heap.size+1+1) w2 wr/\RowAt wr (w.heap.size+1+1) (loadsOf b.ms.length (M.take k))) (fun i _=>M.length - (intOf i).toNat)
  case atStart=>exact ⟨0,Nat.zero_le _,rfl,KS.refl _ _,by rw [List.take_zero,loadsOf_nil];exact hR.below hb2 (by omega)⟩
  case round =>
   obtain ⟨k,hk,rfl,hW,hrw⟩:=hrel;have hWs:=hW.size;have hNw:∀ j u,(#[.int .i64 b.room,.int .i64 b.gap,.slice ma b.ms.length mc,.slice sa b.ss.length sc,.slice ra b.rs.length rc,.slice (some ⟨w.heap.size+1+1,0,none⟩) b.ms.length b.ms.length]:Array Value)[j]? = some u->wr.cell? ⟨w.heap.size+1+1+1,j,none⟩=some u:=fun j u hj =>
    (hW.cell (x:=⟨w.heap.size+1+1+1,j,none⟩) (by simp;omega) (by simp)).trans ((hb2.cell (p:=⟨w.heap.size+1+1+1,j,none⟩) (by simp;omega)).trans (HN.out j u hj))
   have hZw:∀ j u,(#[.int .i64 0,.int .i64 0,.slice none 0 0,.slice none 0 0,.slice none 0 0,.slice none 0 0]:Array Value)[j]? = some u->wr.cell? ⟨w.heap.size+1,j,none⟩=some u/\wr.frozen? ⟨w.heap.size+1,j,none⟩=false:=fun j u hj =>
    ⟨(hW.cell (x:=⟨w.heap.size+1,j,none⟩) (by simp;omega) (by simp)).trans ((hb2.cell (p:=⟨w.heap.size+1,j,none⟩) (by simp;omega)).trans (HZ.out j u hj).1),
      (hW.frozen (x:=⟨w.heap.size+1,j,none⟩) (by simp;omega) (by simp)).trans ((hb2.frozen (p:=⟨w.heap.size+1,j,none⟩) (by simp;omega)).trans (HZ.out j u hj).2)⟩
   have n5:=hNw 5 _ rfl;have hRl:=hrw.lt;have hNl:w.heap.size+1+1+1 < wr.heap.size:=by omega
   have h1l:w.heap.size+1 < wr.heap.size:=by omega
   by_cases hlt:k < M.length
   ·have hrow2:=ownsRow_ks HROW.out hW (fun j hj=>by omega);obtain ⟨pb,po,rfl,hpb,d0,d1⟩:=parts_of_row hrow2 k hlt;have hp:=HPT.out _ (List.getElem_mem hlt);obtain ⟨q,hq,hqn⟩:∃ q:Nat,M[k].1=q/\q < b.ms.length:=by
     unfold isPart inB at hp;simp only [Bool.and_eq_true,decide_eq_true_eq] at hp;exact ⟨M[k].1.toNat,by omega,by omega⟩
    have htk:=List.take_succ_eq_append_getElem hlt;have hsn:=loadsOf_snoc b.ms.length (M.take k) M[k] hq hqn;rw [<- htk] at hsn;have hql:q < (loadsOf b.ms.length (M.take k)).length:=by rw [loadsOf_length];exact hqn
    have hc:=hrw.c q hql;have hf:=hrw.f q hql;have hset:=hrw.set hql ((loadsOf b.ms.length (M.take k))[q]+1);rw [<- hsn] at hset;have hbd:=loadsOf_bd b.ms.length (M.take k) _ (List.getElem_mem hql);have htl:=List.length_take_le k M;generalize (loadsOf b.ms.length (M.take k))[q]=y at hc hset hbd;generalize hx:M[k]=x at d0 d1 hq hset;obtain ⟨x1,x2⟩:=x;simp only at hq d0 d1 hset;subst hq;have HSET:=Hh hset;have hwy:IntKind.i64.wrap (y+1)=y+1:=IntWalk.i64_in _ (by omega);clear hset hrw htk hsn hx hp hrow2 hNw hZw;go_wp2;go_roundw
    case rel=>exact ⟨k+1,by omega,by go_num,(hW.trans (KS.setCell (by simp) _ _)).trans (KS.alloc _ _ _),HSET.out.ks (KS.alloc (fun _=>True) _ _) trivial⟩
    case measure=>simp [intOf];omega
   ·obtain rfl:k=M.length:=by omega
    rw [List.take_length] at hrw;have n0:=hNw 0 _ rfl;have n1:=hNw 1 _ rfl;have n2:=hNw 2 _ rfl;have n3:=hNw 3 _ rfl;have n4:=hNw 4 _ rfl;obtain ⟨z0,y0⟩:=hZw 0 _ rfl;obtain ⟨z1,y1⟩:=hZw 1 _ rfl;obtain ⟨z2,y2⟩:=hZw 2 _ rfl;obtain ⟨z3,y3⟩:=hZw 3 _ rfl;obtain ⟨z4,y4⟩:=hZw 4 _ rfl;obtain ⟨z5,y5⟩:=hZw 5 _ rfl;have HRW:=Hh hrw;clear hNw hZw hrw;go_wp2;have hks:∀ W9,KS (fun j=>j≠w.heap.size+1) wr W9->IntsAt W9 (some ⟨w.heap.size+1+1,0,none⟩) (loadsOf b.ms.length M)/\w.heap.size<=w.heap.size+1+1/\w.heap.size+1+1 < W9.heap.size/\Below w.heap.size w W9:=fun W9 h9=>by
     refine ⟨(HRW.out.ks h9 (by omega)).ints,by omega,(HRW.out.ks h9 (by omega)).lt,?_⟩;have h7:=(KS.toBelow (n:=w.heap.size) hW (by omega) (fun k hk=>by omega));have h8:=(KS.toBelow (n:=w.heap.size) h9 (by omega) (fun k hk=>by omega));exact ((Below.next hb1 hb2).trans h7).trans h8
    exact bodyPost_ret (v:=.agg #[.int .i64 b.room,.int .i64 b.gap,.slice ma b.ms.length mc,.slice sa b.ss.length sc,.slice ra b.rs.length rc,.slice (some ⟨w.heap.size+1+1,0,none⟩) b.ms.length b.ms.length]) (by simp [results,Tryz.results38,go_sem, *]) rfl ⟨_,_,rfl,hks _ (by (repeat (with_reducible refine KS.trans ?_ (KS.setCell (by simp) _ _)));with_reducible exact KS.refl _ _)⟩
 ·obtain ⟨W1,hW1⟩:∃ W1,W1=((((w.alloc (.cells #[.int .i64 b.room,.int .i64 b.gap,.slice ma b.ms.length mc,.slice sa b.ss.length sc,.slice ra b.rs.length rc] 88)).alloc (.cells #[.int .i64 0,.int .i64 0,.slice none 0 0,.slice none 0 0,.slice none 0 0,.slice none 0 0] 96)).alloc (.cells #[.int .i64 b.room,.int .i64 b.gap,.slice ma b.ms.length mc,.slice sa b.ss.length sc,.slice ra b.rs.length rc,.slice (some ⟨w.heap.size+1+1+1,0,none⟩) b.ms.length b.ms.length] 96)).alloc (.cells (madeCells #[.int .i64 0] b.ms.length) 3)).drew:=⟨_,rfl⟩;rw [<- hW1];have hb1:Below w.heap.size w W1:=by rw [hW1];(exact bel)
  have hs1:W1.heap.size=w.heap.size+1+1+1+1:=by rw [hW1];simp
  have hN:∀ k u,(#[.int .i64 b.room,.int .i64 b.gap,.slice ma b.ms.length mc,.slice sa b.ss.length sc,.slice ra b.rs.length rc,.slice (some ⟨w.heap.size+1+1+1,0,none⟩) b.ms.length b.ms.length]:Array Value)[k]? = some u->W1.cell? ⟨w.heap.size+1+1,k,none⟩=some u:=fun k u hk=>by
   rw [hW1];show (World.cell? _ _)=_;rw [World.cell?_drew];rw [World.cell?_alloc_past _ _ _ (by first | (simp;done) | (simp;omega)),World.cell?_alloc_at _ _ _ _ (by first | (simp;done) | (simp;omega))];exact hk
  have hZ:∀ k u,(#[.int .i64 0,.int .i64 0,.slice none 0 0,.slice none 0 0,.slice none 0 0,.slice none 0 0]:Array Value)[k]? = some u->W1.cell? ⟨w.heap.size+1,k,none⟩=some u/\W1.frozen? ⟨w.heap.size+1,k,none⟩=false:=fun k u hk=>by
   rw [hW1];refine ⟨?_,?_⟩
   ·rw [World.cell?_drew,World.cell?_alloc_past _ _ _ (by first | (simp;done) | (simp;omega)),World.cell?_alloc_past _ _ _ (by first | (simp;done) | (simp;omega)),World.cell?_alloc_at _ _ _ _ (by first | (simp;done) | (simp;omega))];exact hk
   ·rw [World.frozen?_drew,World.frozen?_alloc_past _ _ _ (by first | (simp;done) | (simp;omega)),World.frozen?_alloc_past _ _ _ (by first | (simp;done) | (simp;omega)),World.frozen?_alloc_at _ _ _ _ (by first | (simp;done) | (simp;omega))]
  have hR:RowAt W1 (w.heap.size+1+1+1) (List.replicate b.ms.length 0):=by
   rw [hW1];refine RowAt.drew ?_;simpa using RowAt.made (((w.alloc (.cells #[.int .i64 b.room,.int .i64 b.gap,.slice ma b.ms.length mc,.slice sa b.ss.length sc,.slice ra b.rs.length rc] 88)).alloc (.cells #[.int .i64 0,.int .i64 0,.slice none 0 0,.slice none 0 0,.slice none 0 0,.slice none 0 0] 96)).alloc (.cells #[.int .i64 b.room,.int .i64 b.gap,.slice ma b.ms.length mc,.slice sa b.ss.length sc,.slice ra b.rs.length rc,.slice (some ⟨w.heap.size+1+1+1,0,none⟩) b.ms.length b.ms.length] 96)) b.ms.length 3
  have hF:∀ k u,(#[.int .i64 b.room,.int .i64 b.gap,.slice ma b.ms.length mc,.slice sa b.ss.length sc,.slice ra b.rs.length rc]:Array Value)[k]? = some u->W1.cell? ⟨w.heap.size,k,none⟩=some u:=fun k u hk=>by
   rw [hW1,World.cell?_drew,World.cell?_alloc_past _ _ _ (by first | (simp;done) | (simp;omega)),World.cell?_alloc_past _ _ _ (by first | (simp;done) | (simp;omega)),World.cell?_alloc_past _ _ _ (by first | (simp;done) | (simp;omega)),World.cell?_alloc_at _ _ _ _ rfl];exact hk
  have HF:=Hh hF;have HN:=Hh hN;have HZ:=Hh hZ;clear hW1 hN hZ hF;have hF:∀ k u,(#[.int .i64 b.room,.int .i64 b.gap,.slice ma b.ms.length mc,.slice sa b.ss.length sc,.slice ra b.rs.length rc]:Array Value)[k]? = some u->W1.cell? ⟨w.heap.size,k,none⟩=some u:=fun k u hk=>HF.out k u hk;have f0:=hF 0 _ rfl;have f1:=hF 1 _ rfl;have f2:=hF 2 _ rfl;have f3:=hF 3 _ rfl;have f4:=hF 4 _ rfl;clear hF;go_wp2_with (go_at_call 36;(with_reducible refine (HMS.out _ (bel)).mono ?_);rintro e w2 ⟨v,rfl,hrow,hb2⟩;obtain ⟨pa,pc,rfl⟩:=ownsRow_slice hrow;have HROW:=Hh hrow;clear hrow);have hs2:=hb2.size;clear f0 f1 f2 f3 f4;go_loopw [19] (fun i wr=>∃ (k:Nat),k<=M.length/\i=.int .i64 k/\KS (fun j=>j≠w.heap.size+1+1+1) w2 wr/\RowAt wr (w.heap.size+1+1+1) (loadsOf b.ms.length (M.take k))) (fun i _=>M.length - (intOf i).toNat)
  case atStart=>exact ⟨0,Nat.zero_le _,rfl,KS.refl _ _,by rw [List.take_zero,loadsOf_nil];exact hR.below hb2 (by omega)⟩
  case round =>
   obtain ⟨k,hk,rfl,hW,hrw⟩:=hrel;have hWs:=hW.size;have hNw:∀ j u,(#[.int .i64 b.room,.int .i64 b.gap,.slice ma b.ms.length mc,.slice sa b.ss.length sc,.slice ra b.rs.length rc,.slice (some ⟨w.heap.size+1+1+1,0,none⟩) b.ms.length b.ms.length]:Array Value)[j]? = some u->wr.cell? ⟨w.heap.size+1+1,j,none⟩=some u:=fun j u hj =>
    (hW.cell (x:=⟨w.heap.size+1+1,j,none⟩) (by simp;omega) (by simp)).trans ((hb2.cell (p:=⟨w.heap.size+1+1,j,none⟩) (by simp;omega)).trans (HN.out j u hj))
   have hZw:∀ j u,(#[.int .i64 0,.int .i64 0,.slice none 0 0,.slice none 0 0,.slice none 0 0,.slice none 0 0]:Array Value)[j]? = some u->wr.cell? ⟨w.heap.size+1,j,none⟩=some u/\wr.frozen? ⟨w.heap.size+1,j,none⟩=false:=fun j u hj =>
    ⟨(hW.cell (x:=⟨w.heap.size+1,j,none⟩) (by simp;omega) (by simp)).trans ((hb2.cell (p:=⟨w.heap.size+1,j,none⟩) (by simp;omega)).trans (HZ.out j u hj).1),
      (hW.frozen (x:=⟨w.heap.size+1,j,none⟩) (by simp;omega) (by simp)).trans ((hb2.frozen (p:=⟨w.heap.size+1,j,none⟩) (by simp;omega)).trans (HZ.out j u hj).2)⟩
   have n5:=hNw 5 _ rfl;have hRl:=hrw.lt;have hNl:w.heap.size+1+1 < wr.heap.size:=by omega
   have h1l:w.heap.size+1 < wr.heap.size:=by omega
   by_cases hlt:k < M.length
   ·have hrow2:=ownsRow_ks HROW.out hW (fun j hj=>by omega);obtain ⟨pb,po,rfl,hpb,d0,d1⟩:=parts_of_row hrow2 k hlt;have hp:=HPT.out _ (List.getElem_mem hlt);obtain ⟨q,hq,hqn⟩:∃ q:Nat,M[k].1=q/\q < b.ms.length:=by
     unfold isPart inB at hp;simp only [Bool.and_eq_true,decide_eq_true_eq] at hp;exact ⟨M[k].1.toNat,by omega,by omega⟩
    have htk:=List.take_succ_eq_append_getElem hlt;have hsn:=loadsOf_snoc b.ms.length (M.take k) M[k] hq hqn;rw [<- htk] at hsn;have hql:q < (loadsOf b.ms.length (M.take k)).length:=by rw [loadsOf_length];exact hqn
    have hc:=hrw.c q hql;have hf:=hrw.f q hql;have hset:=hrw.set hql ((loadsOf b.ms.length (M.take k))[q]+1);rw [<- hsn] at hset;have hbd:=loadsOf_bd b.ms.length (M.take k) _ (List.getElem_mem hql);have htl:=List.length_take_le k M;generalize (loadsOf b.ms.length (M.take k))[q]=y at hc hset hbd;generalize hx:M[k]=x at d0 d1 hq hset;obtain ⟨x1,x2⟩:=x;simp only at hq d0 d1 hset;subst hq;have HSET:=Hh hset;have hwy:IntKind.i64.wrap (y+1)=y+1:=IntWalk.i64_in _ (by omega);clear hset hrw htk hsn hx hp hrow2 hNw hZw;go_wp2;go_roundw
    case rel=>exact ⟨k+1,by omega,by go_num,(hW.trans (KS.setCell (by simp) _ _)).trans (KS.alloc _ _ _),HSET.out.ks (KS.alloc (fun _=>True) _ _) trivial⟩
    case measure=>simp [intOf];omega
   ·obtain rfl:k=M.length:=by omega
    rw [List.take_length] at hrw;have n0:=hNw 0 _ rfl;have n1:=hNw 1 _ rfl;have n2:=hNw 2 _ rfl;have n3:=hNw 3 _ rfl;have n4:=hNw 4 _ rfl;obtain ⟨z0,y0⟩:=hZw 0 _ rfl;obtain ⟨z1,y1⟩:=hZw 1 _ rfl;obtain ⟨z2,y2⟩:=hZw 2 _ rfl;obtain ⟨z3,y3⟩:=hZw 3 _ rfl;obtain ⟨z4,y4⟩:=hZw 4 _ rfl;obtain ⟨z5,y5⟩:=hZw 5 _ rfl;have HRW:=Hh hrw;clear hNw hZw hrw;go_wp2;have hks:∀ W9,KS (fun j=>j≠w.heap.size+1) wr W9->IntsAt W9 (some ⟨w.heap.size+1+1+1,0,none⟩) (loadsOf b.ms.length M)/\w.heap.size<=w.heap.size+1+1+1/\w.heap.size+1+1+1 < W9.heap.size/\Below w.heap.size w W9:=fun W9 h9=>by
     refine ⟨(HRW.out.ks h9 (by omega)).ints,by omega,(HRW.out.ks h9 (by omega)).lt,?_⟩;have h7:=(KS.toBelow (n:=w.heap.size) hW (by omega) (fun k hk=>by omega));have h8:=(KS.toBelow (n:=w.heap.size) h9 (by omega) (fun k hk=>by omega));exact ((Below.next hb1 hb2).trans h7).trans h8
    exact bodyPost_ret (v:=.agg #[.int .i64 b.room,.int .i64 b.gap,.slice ma b.ms.length mc,.slice sa b.ss.length sc,.slice ra b.rs.length rc,.slice (some ⟨w.heap.size+1+1+1,0,none⟩) b.ms.length b.ms.length]) (by simp [results,Tryz.results38,go_sem, *]) rfl ⟨_,_,rfl,hks _ (by (repeat (with_reducible refine KS.trans ?_ (KS.setCell (by simp) _ _)));with_reducible exact KS.refl _ _)⟩
end
end
end Go.Proofs.YtdjnkplgllakcaaGreatDoor
