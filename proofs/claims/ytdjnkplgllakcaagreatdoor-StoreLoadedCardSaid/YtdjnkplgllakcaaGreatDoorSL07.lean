/- StoreLoaded -/
import Derived.Test.YtdjnkplgllakcaaGreatDoorSL06
set_option maxHeartbeats 4000000
set_option maxRecDepth 100000
set_option linter.all false
namespace Go.Proofs.YtdjnkplgllakcaaGreatDoor
namespace Sp
def endAt (gap now:Int) (tapes:List Int) (k:Nat):Int:=now+((tapes.take k).map fun x=>gap+x).sum
def endsTo (gap now:Int) (tapes:List Int) (k:Nat):List Int:=(List.range k).map fun i=>endAt gap now tapes (i+1)
def endsI (gap now:Int) (tapes:List Int):List Int:=endsTo gap now tapes tapes.length
theorem endAt_zero (gap now:Int) (tapes:List Int):endAt gap now tapes 0=now:=by simp [endAt]
theorem endAt_succ (gap now:Int) (tapes:List Int) {k:Nat} (h:k < tapes.length):endAt gap now tapes (k+1)=endAt gap now tapes k+(gap+tapes[k]):=by
 unfold endAt;rw [List.take_succ_eq_append_getElem h,List.map_append,List.sum_append];simp;omega
theorem endsTo_succ (gap now:Int) (tapes:List Int) (k:Nat):endsTo gap now tapes (k+1)=endsTo gap now tapes k ++ [endAt gap now tapes (k+1)]:=by
 unfold endsTo;rw [List.range_succ,List.map_append];rfl
theorem endsTo_length (gap now:Int) (tapes:List Int) (k:Nat):(endsTo gap now tapes k).length=k:=by simp [endsTo]
theorem endsI_length (gap now:Int) (tapes:List Int):(endsI gap now tapes).length=tapes.length:=endsTo_length ..
theorem endAt_bd {gap now:Int} {tapes:List Int} (hg:0<=gap/\gap<=100) (hn:0<=now/\now<=1000) (ht:∀ x∈tapes,0<=x/\x<=100000):∀ k,k<=tapes.length->0<=endAt gap now tapes k/\endAt gap now tapes k<=1000+k * 100100
 | 0,_=>by rw [endAt_zero];omega
 | k+1,h=>by
  have ih:=endAt_bd hg hn ht k (by omega);rw [endAt_succ _ _ _ (by omega)];have:=ht _ (List.getElem_mem (show k < tapes.length by omega));omega
theorem endsI_bd {gap now:Int} {tapes:List Int} (hg:0<=gap/\gap<=100) (hn:0<=now/\now<=1000) (ht:∀ x∈tapes,0<=x/\x<=100000) (hl:tapes.length<=100):∀ x∈endsI gap now tapes,0<=x/\x<=20000000:=fun x hx=>by
 obtain ⟨i,hi,rfl⟩:=List.mem_map.1 hx;have:=List.mem_range.1 hi;have:=endAt_bd hg hn ht (i+1) (by omega);omega
def tapeStep (n:Int) (out:List Int) (k ld:Int):Option (List Int) :=
 if k < -1\/n<=k\/¬ (k=-1↔ld=0) then none
 else if k < 0 then some out
 else some ((out ++ List.replicate (k.toNat+1 - out.length) 0).set k.toNat ((out ++ List.replicate (k.toNat+1 - out.length) 0).getD k.toNat 0+ld))
def tapesGo (n:Int) (out:List Int):List (Int × Int)->Option (List Int)
 | []=>some out
 | (k,ld)::l=>(tapeStep n out k ld).bind fun o=>tapesGo n o l
def tapesI (loads plan:List Int):Option (List Int):=tapesGo plan.length [] (plan.zip loads)
def planOk (loads plan:List Int):Option (List Int):=(tapesI loads plan).bind fun o=>if 0∈o then none else some o
theorem tapeStep_bd {n:Int} {out o:List Int} {k ld:Int} (h:tapeStep n out k ld=some o) {m:Int} (hn:n<=100) (hm:0<=m) (hl:0<=ld/\ld<=1000) (ho:∀ x∈out,0<=x/\x<=m) (hlen:out.length<=100) :
 (∀ x∈o,0<=x/\x<=m+1000)/\o.length<=100:=by
 unfold tapeStep at h;split at h
 ·cases h
 ·rename_i hk
  split at h
  ·cases h;exact ⟨fun x hx=>by have:=ho x hx;omega,hlen⟩
  ·cases h;have h1:∀ x∈out ++ List.replicate (k.toNat+1 - out.length) 0,0<=x/\x<=m:=fun x hx=>by
    rcases List.mem_append.1 hx with hx | hx
    ·exact ho x hx
    ·rw [List.eq_of_mem_replicate hx];omega
   refine ⟨fun x hx=>?_,?_⟩
   ·rcases List.mem_or_eq_of_mem_set hx with hx | rfl
    ·have:=h1 x hx;omega
    ·have:0<=(out ++ List.replicate (k.toNat+1 - out.length) 0).getD k.toNat 0/\(out ++ List.replicate (k.toNat+1 - out.length) 0).getD k.toNat 0<=m:=by
      rw [List.getD_eq_getElem?_getD]
      cases hg:(out ++ List.replicate (k.toNat+1 - out.length) 0)[k.toNat]? with
      | none=>simpa using hm
      | some y=>simpa using h1 y (List.mem_of_getElem? hg)
     omega
   ·rw [List.length_set,List.length_append,List.length_replicate];omega
theorem tapesGo_bd {n:Int} (hn:n<=100):∀ (l:List (Int × Int)) (out o:List Int) (m:Int) (_:tapesGo n out l=some o) (_:0<=m) (_:∀ x∈l,0<=x.2/\x.2<=1000) (_:∀ x∈out,0<=x/\x<=m) (_:out.length<=100),(∀ x∈o,0<=x/\x<=m+l.length * 1000)/\o.length<=100
 | [],out,o,m,h,hm,hl,ho,hlen=>by cases h;exact ⟨fun x hx=>by have:=ho x hx;simp;omega,hlen⟩
 | (k,ld)::l,out,o,m,h,hm,hl,ho,hlen=>by
  unfold tapesGo at h
  cases h1:tapeStep n out k ld with
  | none=>rw [h1] at h;cases h
  | some o1 =>
   rw [h1] at h;obtain ⟨h2,h3⟩:=tapeStep_bd h1 hn hm (hl (k,ld) (by simp)) ho hlen;obtain ⟨h4,h5⟩:=tapesGo_bd hn l o1 o (m+1000) h (by omega) (fun x hx=>hl x (by simp [hx])) h2 h3;exact ⟨fun x hx=>by have:=h4 x hx;simp only [List.length_cons];omega,h5⟩
theorem planOk_bd {loads plan o:List Int} (h:planOk loads plan=some o) (hp:plan.length<=50) (hl:∀ x∈loads,0<=x/\x<=1000):(∀ x∈o,0<=x/\x<=100000)/\o.length<=100:=by
 unfold planOk tapesI at h
 cases h1:tapesGo plan.length [] (plan.zip loads) with
 | none=>rw [h1] at h;cases h
 | some o1 =>
  rw [h1] at h;have h:(if 0∈o1 then none else some o1)=some o:=h;split at h
  ·cases h
  ·cases h;obtain ⟨h2,h3⟩:=tapesGo_bd (by omega) _ _ _ 0 h1 (by omega) (fun x hx=>hl _ (List.of_mem_zip hx).2) (by simp) (by simp);refine ⟨fun x hx=>?_,h3⟩;have:=h2 x hx;have h5:(plan.zip loads).length<=50:=by rw [List.length_zip];omega
   omega
def lateGo (ends:List Int):List Int->List Msg->Int->Int
 | k::ks,m::ms,t=>lateGo ends ks ms (if 0<=k then max t (ends.getD k.toNat 0 - m.due) else t)
 | _,_,t=>t
def lateI (b:Bk) (plan tapes:List Int):Int:=lateGo (endsI b.gap 0 tapes) plan b.ms (-999)
def fitsI (b:Bk) (tapes:List Int):Bool:=tapes.all fun n=>decide (n<=b.room)
def goodI (b:Bk) (plan tapes:List Int) (now:Int):Bool:=fitsI b tapes && (decide (lateI b plan tapes+now<=0) || decide (tapes=[]))
def plansFrom (loads:List Int) (pre:List Int):List Int->List (List Int × List Int)
 | []=>match planOk loads pre with
  | some t=>[(pre,t)]
  | none=>[]
 | ld::rest=>(if ld=0 then [(-1:Int)] else (List.range loads.length).map fun (k:Nat)=>(k:Int)).flatMap fun k=>plansFrom loads (pre ++ [k]) rest
def plansI (loads:List Int):List (List Int × List Int):=plansFrom loads [] loads
def packStep (b:Bk) (now:Int) (st:Option (List Int × List Int)) (x:List Int × List Int):Option (List Int × List Int) :=
 if goodI b x.1 x.2 now && (match st with | none=>true | some y=>decide (x.2.length < y.2.length)) then some x else st
def packI (b:Bk) (loads:List Int) (now:Int):Option (List Int × List Int):=(plansI loads).foldl (packStep b now) none
def latestStep (b:Bk) (st:Option Int) (x:List Int × List Int):Option Int :=
 if fitsI b x.2 && decide (lateI b x.1 x.2<=0) && (match st with | none=>true | some y=>decide (y < - lateI b x.1 x.2)) then some (- lateI b x.1 x.2) else st
def latestI (b:Bk) (loads:List Int):Option Int:=(plansI loads).foldl (latestStep b) none
end Sp
end Go.Proofs.YtdjnkplgllakcaaGreatDoor
namespace Go.Proofs.YtdjnkplgllakcaaGreatDoor
open Go.RowKit Go.Maps Sp
section
variable {b:Bk} {vr vg vm vs vc:Value} {w:World}
theorem ends_at (hB:BookAt w b vr vg vm vs vc) (ls:Value) (hls:ls.oneCell'=true) {ta:Option Addr} {tc:Nat} {tapes:List Int} (hT:IntsAt w ta tapes) (htl:tapes.length<=100) (htb:∀ x∈tapes,0<=x/\x<=100000) (hg:0<=b.gap/\b.gap<=100) {now:Int} (hn:0<=now/\now<=1000) :
 Calls Tryz.prog 69 #[.agg #[vr,vg,vm,vs,vc,ls],.slice ta tapes.length tc,.int .i64 now] w (IntsOut w (endsI b.gap now tapes)):=by
 have HB:=Hh hB;have HT:=Hh hT;have HTB:=Hh htb;have HBD:=Hh (endAt_bd hg hn htb);obtain ⟨rfl,rfl,⟨ma,mc,rfl,_,_⟩,⟨sa,sc,rfl,_,_⟩,ra,rc,rfl,_,_⟩:=id hB;clear hB hT htb
 go_enter Tryz.func69,Tryz.ntmps69
 go_wp2;obtain ⟨W0,hW0⟩:∃ W0,W0=w.alloc (.cells #[.int .i64 b.room,.int .i64 b.gap,.slice ma b.ms.length mc,.slice sa b.ss.length sc,.slice ra b.rs.length rc,ls] 96):=⟨_,rfl⟩;rw [<- hW0];have hb0:Below w.heap.size w W0:=by rw [hW0];(exact bel)
 have g0:W0.cell? ⟨w.heap.size,1,none⟩=some (.int .i64 b.gap):=by rw [hW0,World.cell?_alloc_at _ _ _ _ rfl];rfl
 have hsz0:w.heap.size < W0.heap.size:=by rw [hW0];simp
 have HT0:=Hh (HT.out.below hb0);clear hW0;have hz0:endAt b.gap now tapes 0=now:=endAt_zero ..;go_loopw [2,7,12] (fun nw v i wr=>∃ (k:Nat) (a:Option Addr) (c:Nat) (t:Int),k<=tapes.length/\i=.int .i64 k/\nw=.int .i64 t/\Hid (t=endAt b.gap now tapes k)/\v=.slice a k c/\wr.ownsRow W0.heap.size 3 1 (.slice a k c) k ((endsTo b.gap now tapes k).map (Value.int .i64))/\Below W0.heap.size W0 wr) (fun _ _ i _=>tapes.length - (intOf i).toNat)
 case atStart=>exact ⟨0,none,0,now,Nat.zero_le _,rfl,rfl,hz0.symm,rfl,by simpa [endsTo] using World.ownsRow_nil _ _ _ _,Below.refl _ _⟩
 case round =>
  obtain ⟨k,a,c,t,hk,rfl,rfl,ht,rfl,hrow,hW⟩:=hrel;have hWs:=hW.size;by_cases hlt:k < tapes.length
  ·obtain ⟨lb,lo,rfl,hlb,e0⟩:=HT0.out k hlt;have d0:=(hW.cell hlb).trans e0;have hlb2:lb < wr.heap.size:=Nat.lt_of_lt_of_le hlb hW.size;have s1:=(hW.cell (p:=⟨w.heap.size,1,none⟩) hsz0).trans g0;have hsz1:w.heap.size < wr.heap.size:=by omega
   have hx:=HTB.out _ (List.getElem_mem hlt);have hE:=endAt_succ b.gap now tapes hlt;have hb1:=HBD.out k (by omega);have hb2:=HBD.out (k+1) (by omega);have hS:=endsTo_succ b.gap now tapes k;have ht':=ht.out;rw [<- ht'] at hE hb1;generalize tapes[k]=x at d0 hx hE;rw [hE] at hb2 hS;have w1:IntKind.i64.wrap (b.gap+x)=b.gap+x:=IntWalk.i64_in _ (by omega);have w2:IntKind.i64.wrap (t+(b.gap+x))=t+(b.gap+x):=IntWalk.i64_in _ (by omega);have HROW:=Hh hrow;have HS:=Hh hS;have HE:=Hh hE;clear hrow hS hE e0 ht';go_wp2_with (at_builtin;go_loud (refine wpl_append1 rfl _ _ 35 rfl W0.heap.size 3 Tryz.underlying35 intInfo rfl (by omega) (.slice a k c) k _ rfl HROW.out (by omega) (by omega) _ (n:=wr.heap.size) (by simp) rfl (by simp [Value.oneCell']) ?_;intro g cap w2 hown2 hb2));have hown3:w2.ownsRow W0.heap.size 3 1 (.slice (some ⟨g,0,none⟩) (k+1) cap) (k+1) ((endsTo b.gap now tapes (k+1)).map (Value.int .i64)):=by
    rw [HS.out,List.map_append];exact hown2
   have HOWN:=Hh hown3;clear hown2 hown3;go_roundw
   case rel=>exact ⟨k+1,_,_,_,by omega,by go_num,rfl,HE.out.symm,rfl,HOWN.out,hW.trans hb2⟩
   case measure=>simp [intOf];omega
  ·obtain rfl:k=tapes.length:=by omega
   have hl2:(endsI b.gap now tapes).length=tapes.length:=endsI_length ..;have HROW:=Hh hrow;have HL2:=Hh hl2;clear hrow hl2;go_wp2;go_ret;refine ⟨a,c,by rw [HL2.out];rfl,?_,bel⟩;rw [HL2.out];exact ownsRow_base HROW.out (by omega)
end
theorem containsI_at {w:World} {a:Option Addr} {c:Nat} {l:List Int} {n:Nat} (hn:n=l.length) (h:IntsAt w a l) (hl:l.length<=1000000) (x:Int):Calls Tryz.prog 100 #[.slice a n c,.int .i64 x] w fun e w'=>e=.returned (.bool (l.contains x))/\w'=w:=by
 subst hn
 cases l with
 | nil=>exact Tryz.slices_Contains_int_empty a c x w
 | cons y l =>
  obtain ⟨b,o,rfl,_⟩:=h 0 (by simp);have:=Tryz.slices_Contains_int b o (y::l).length c (y::l) x w (Nat.le_refl _) (by omega) h.cells;rw [List.take_length] at this;exact this
theorem tapesGo_cons {n:Int} {out:List Int} {k ld:Int} {l:List (Int × Int)}:tapesGo n out ((k,ld)::l)=(tapeStep n out k ld).bind fun o=>tapesGo n o l:=rfl
theorem tapeStep_none {n:Int} {out:List Int} {k ld:Int} (h:k < -1\/n<=k\/¬ (k=-1↔ld=0)):tapeStep n out k ld=none:=if_pos h
theorem tapeStep_skip {n:Int} {out:List Int} {k ld:Int} (h:¬ (k < -1\/n<=k\/¬ (k=-1↔ld=0))) (h0:k < 0):tapeStep n out k ld=some out:=by unfold tapeStep;rw [if_neg h,if_pos h0]
theorem tapeStep_add {n:Int} {out:List Int} {k:Nat} {ld:Int} (h:¬ ((k:Int) < -1\/n<=k\/¬ ((k:Int)=-1↔ld=0))) :
 tapeStep n out k ld=some ((out ++ List.replicate (k+1 - out.length) 0).set k ((out ++ List.replicate (k+1 - out.length) 0).getD k 0+ld)):=by
 unfold tapeStep;rw [if_neg h,if_neg (by omega)];simp only [Int.toNat_natCast]
theorem planOk_none {loads plan:List Int} (h:tapesI loads plan=none):planOk loads plan=none:=by unfold planOk;rw [h];rfl
theorem planOk_some {loads plan o:List Int} (h:tapesI loads plan=some o):planOk loads plan=if (!o.contains 0)=true then some o else none:=by
 unfold planOk;rw [h];show (if 0∈o then none else some o)=_;by_cases h0:0∈o
 ·simp [h0]
 ·simp [h0]
def TapesOut (w:World) (loads plan:List Int) (e:Ending) (w':World):Prop :=
 ∃ a c o ok,e=.returned (.tuple #[.slice a o.length c,.bool ok])/\w'.ownsRow w.heap.size 3 1 (.slice a o.length c) o.length (o.map (Value.int .i64))/\Below w.heap.size w w'/\planOk loads plan=if ok=true then some o else none
section
variable {b:Bk} {vr vg vm vs vc:Value} {w:World}
theorem tapes_at {la:Option Addr} {lc:Nat} {loads:List Int} (hL:IntsAt w la loads) (hlb:∀ x∈loads,0<=x/\x<=1000) {pa:Option Addr} {pc:Nat} {plan:List Int} (hP:IntsAt w pa plan) {pn ln:Nat} (hpn:pn=plan.length) (hln:ln=plan.length) (hlen:loads.length=plan.length) (hpl:plan.length<=50) :
 Calls Tryz.prog 76 #[.agg #[vr,vg,vm,vs,vc,.slice la ln lc],.slice pa pn pc] w (TapesOut w loads plan):=by
 have HL:=Hh hL;have HP:=Hh hP;have HLB:=Hh hlb;have HLEN:=Hh hlen;have HPN:=Hh hpn;have HLN:=Hh hln;have hpn50:pn<=50:=by omega
 clear hL hP hlb hlen hpl hpn hln
 go_enter Tryz.func76,Tryz.ntmps76
 go_wp2;obtain ⟨W0,hW0⟩:∃ W0,W0=w.alloc (.cells #[vr,vg,vm,vs,vc,.slice la ln lc] 96):=⟨_,rfl⟩;rw [<- hW0];have hb0:Below w.heap.size w W0:=by rw [hW0];(exact bel)
 have g0:W0.cell? ⟨w.heap.size,5,none⟩=some (.slice la ln lc):=by rw [hW0,World.cell?_alloc_at _ _ _ _ rfl];rfl
 have hsz0:w.heap.size < W0.heap.size:=by rw [hW0];simp
 have HL0:=Hh (HL.out.below hb0);have HP0:=Hh (HP.out.below hb0);clear hW0;go_loopw [6,11] (fun v i wr=>∃ (k m:Nat) (a:Option Addr) (c:Nat) (o:List Int),k<=pn/\i=.int .i64 k/\v=.slice a m c/\Hid (o.length=m)/\m<=pn/\wr.ownsRow W0.heap.size 3 1 (.slice a m c) m (o.map (Value.int .i64))/\Below W0.heap.size W0 wr/\Hid (tapesGo pn o ((plan.zip loads).drop k)=tapesI loads plan)/\Hid (∀ x∈o,0<=x/\x<=(k:Int) * 1000)) (fun _ i _=>pn - (intOf i).toNat)
 case atStart=>exact ⟨0,0,none,0,[],Nat.zero_le _,rfl,rfl,rfl,Nat.zero_le _,by simpa using World.ownsRow_nil _ _ _ _,Below.refl _ _,by rw [HPN.out];rfl,by intro x hx;cases hx⟩
 case round =>
  obtain ⟨k,m,a,c,o,hk,rfl,rfl,hm,hmp,hrow,hW,hgo,hob⟩:=hrel;have hWs:=hW.size;by_cases hlt:k < pn
  ·have hkp:k < plan.length:=by rw [<- HPN.out];exact hlt
   have hkl:k < loads.length:=by rw [HLEN.out];exact hkp
   obtain ⟨pb,po,rfl,hpb,e0⟩:=HP0.out k hkp;obtain ⟨lb,lo,rfl,hlb,e1⟩:=HL0.out k hkl;have d0:=(hW.cell hpb).trans e0;have d1:=(hW.cell hlb).trans e1;have hpb2:pb < wr.heap.size:=Nat.lt_of_lt_of_le hpb hW.size;have hlb2:lb < wr.heap.size:=Nat.lt_of_lt_of_le hlb hW.size;have s1:=(hW.cell (p:=⟨w.heap.size,5,none⟩) hsz0).trans g0;have hsz1:w.heap.size < wr.heap.size:=by omega
   have hdr:(plan.zip loads).drop k=(plan[k],loads[k])::(plan.zip loads).drop (k+1):=by
    rw [List.drop_eq_getElem_cons (by rw [List.length_zip];omega),List.getElem_zip]
   have hkn:k < ln:=by rw [HLN.out];exact hkp
   have hldb:=HLB.out _ (List.getElem_mem hkl);have hgo2:=hgo.out;rw [hdr,tapesGo_cons] at hgo2;generalize plan[k]=p at d0 hgo2;generalize loads[k]=ld at d1 e1 hgo2 hldb;have E1:=Hh e1;have HGO:=Hh hgo2;have HROW:=Hh hrow;clear hgo2 hgo hdr e0 e1 hrow;by_cases c1:p < -1
   ·have hn:=HGO.out;rw [tapeStep_none (.inl c1)] at hn;have HN:=Hh hn;clear hn;go_wp2;exact bodyPost_ret (v:=.tuple #[.slice none 0 0,.bool false]) (by simp [results,Tryz.results76,go_sem]) rfl ⟨none,0,[],false,rfl,by simpa using World.ownsRow_nil _ _ _ _,bel,planOk_none HN.out.symm⟩
   ·by_cases c2:(pn:Int)<=p
    ·have hn:=HGO.out;rw [tapeStep_none (.inr (.inl c2))] at hn;have HN:=Hh hn;clear hn;go_wp2;exact bodyPost_ret (v:=.tuple #[.slice none 0 0,.bool false]) (by simp [results,Tryz.results76,go_sem]) rfl ⟨none,0,[],false,rfl,by simpa using World.ownsRow_nil _ _ _ _,bel,planOk_none HN.out.symm⟩
    ·by_cases c3:p=-1
     ·subst c3;by_cases c4:ld=0
      ·subst c4;have hn:=HGO.out;rw [tapeStep_skip (by omega) (by omega)] at hn;have HN:=Hh hn;clear hn;go_wp2;go_roundw
       case rel=>exact ⟨k+1,m,a,c,o,by omega,by go_num,rfl,hm,hmp,HROW.out,hW,HN.out,fun x hx=>by have:=hob.out x hx;omega⟩
       case measure=>simp [intOf];omega
      ·have hn:=HGO.out;rw [tapeStep_none (.inr (.inr (by simpa using c4)))] at hn;have e4:(ld == 0)=false:=by simpa using c4
       have HN:=Hh hn;clear hn;go_wp2;exact bodyPost_ret (v:=.tuple #[.slice none 0 0,.bool false]) (by simp [results,Tryz.results76,go_sem]) rfl ⟨none,0,[],false,rfl,by simpa using World.ownsRow_nil _ _ _ _,bel,planOk_none HN.out.symm⟩
     ·by_cases c4:ld=0
      ·subst c4;have hn:=HGO.out;rw [tapeStep_none (.inr (.inr (by simpa using c3)))] at hn;have e3:(p == -1)=false:=by simpa using c3
       have HN:=Hh hn;clear hn;go_wp2;exact bodyPost_ret (v:=.tuple #[.slice none 0 0,.bool false]) (by simp [results,Tryz.results76,go_sem]) rfl ⟨none,0,[],false,rfl,by simpa using World.ownsRow_nil _ _ _ _,bel,planOk_none HN.out.symm⟩
      ·obtain ⟨q,rfl⟩:∃ q:Nat,p=q:=⟨p.toNat,by omega⟩;have hqn:q < pn:=by omega
       have hn:=HGO.out;rw [tapeStep_add (by omega)] at hn;have e3:((q:Int) == -1)=false:=by simp
       have e4:(ld == 0)=false:=by simpa using c4
       have HN:=Hh hn;have HO:=Hh hob.out;have c5:¬ pn<=q:=by omega
       have c6:¬ (q:Int) < 0:=by omega
       clear hn hob;go_wp2;go_loopw [6] (fun v wr2=>∃ (j:Nat) (a2:Option Addr) (c2:Nat) (o2:List Int),v=.slice a2 j c2/\j<=pn/\Hid (o2.length=j)/\Hid (o2=o ++ List.replicate (j - m) 0)/\m<=j/\(m=j\/j<=q+1)/\wr2.ownsRow W0.heap.size 3 1 (.slice a2 j c2) j (o2.map (Value.int .i64))/\Below W0.heap.size W0 wr2) (fun v _=>q+1 - (match v with | .slice _ n _=>n | _=>0))
       case atStart=>exact ⟨m,a,c,o,rfl,hmp,hm,(by show o=o ++ List.replicate (m - m) 0;simp),Nat.le_refl _,.inl rfl,HROW.out,hW⟩
       case round =>
        obtain ⟨j,a2,c2,o2,rfl,hjp,hj,ho2,hmj,hjq,hrow2,hW2⟩:=hrel;have hW2s:=hW2.size;by_cases hle:j<=q
        ·have hle2:(j:Int)<=q:=by omega
         have HROW2:=Hh hrow2;clear hrow2;go_wp2_with (at_builtin;go_loud (refine wpl_append1 rfl _ _ 35 rfl W0.heap.size 3 Tryz.underlying35 intInfo rfl (by omega) (.slice a2 j c2) j _ rfl HROW2.out (by omega) (by omega) _ (n:=wr.heap.size) (by simp) rfl (by simp [Value.oneCell']) ?_;intro g cap w2 hown2 hb2));have hown3:w2.ownsRow W0.heap.size 3 1 (.slice (some ⟨g,0,none⟩) (j+1) cap) (j+1) ((o2 ++ [0]).map (Value.int .i64)):=by
          rw [List.map_append];exact hown2
         have HOWN:=Hh hown3;clear hown2 hown3;go_roundw
         case rel=>exact ⟨j+1,_,_,o2 ++ [0],rfl,by omega,by simp [Hid,hj.out],by show o2 ++ [0]=_;rw [ho2.out,show j+1 - m=(j - m)+1 by omega,List.replicate_succ',List.append_assoc],by omega,.inr (by omega),HOWN.out,hW2.trans hb2⟩
         case measure=>simp;omega
        ·have hle2:(q:Int) < j:=by omega
         have hqj:q < j:=by omega
         have hj2:j - m=q+1 - m:=by rcases hjq with h | h <;> omega
         obtain ⟨g,rfl,hg,hgl,hc0⟩:=row_cell hrow2 q (by rw [List.length_map,hj.out];exact hqj);have hfr:=row_free hrow2 q;have ho3:=ho2.out;rw [hj2] at ho3;have hoq:o2[q]? = some (o2.getD q 0):=by rw [List.getD_eq_getElem?_getD,List.getElem?_eq_getElem (by rw [hj.out];exact hqj)];rfl
         have HNN:=HN.out;rw [show o ++ List.replicate (q+1 - o.length) 0=o2 by rw [hm.out];exact ho3.symm] at HNN;have HO2:Hid (∀ x∈o2,0<=x/\x<=(k:Int) * 1000):=fun x hx=>by
          rw [ho3] at hx;rcases List.mem_append.1 hx with hx | hx
          ·exact HO.out x hx
          ·rw [List.eq_of_mem_replicate hx];omega
         have hbq:=HO2.out (o2.getD q 0) (List.mem_of_getElem? hoq);rw [List.getElem?_map,hoq] at hc0;generalize o2.getD q 0=y at hc0 hbq HNN;have hset:=ownsRow_put hrow2 (k:=q) (.int .i64 (y+ld));have HSET:=Hh hset;have HNX:=Hh HNN;have e2:IntKind.i64.wrap (y+ld)=y+ld:=IntWalk.i64_in _ (by omega);have d1':=(hW2.cell hlb).trans E1.out;have t1:=(hW2.cell (p:=⟨w.heap.size,5,none⟩) hsz0).trans g0;have hsz2:w.heap.size < wr.heap.size:=by omega
         have hlbA:lb < wr.heap.size:=by omega
         clear hset hrow2 HNN hoq ho3;go_wp2
         go_region
         go_wp2;go_roundw
         case rel =>
          refine ⟨k+1,j,_,c2,o2.set q (y+ld),by omega,by go_num,rfl,by simp [Hid,hj.out],hjp,?_,?_,HNX.out,fun x hx=>?_⟩
          ·rw [List.map_set];exact ownsRow_ks HSET.out (KS.drew (fun _=>True) _) (fun _ _=>trivial)
          ·exact Below.drew (Below.setCell hW2 hg _)
          ·rcases List.mem_or_eq_of_mem_set hx with hx | rfl
           ·have:=HO2.out x hx;omega
           ·omega
         case measure=>simp [intOf];omega
  ·obtain rfl:k=pn:=by omega
   have hn:=hgo.out;rw [List.drop_of_length_le (by rw [List.length_zip,HPN.out];omega)] at hn;have HN:=Hh (show some o=tapesI loads plan from hn);have HROW:=Hh hrow;clear hn hrow hgo;go_wp2_with (go_at_call 100;(with_reducible refine (containsI_at hm.out.symm (ints_of_row HROW.out) (by have:=hm.out;omega) 0).mono ?_);rintro e w5 ⟨rfl,rfl⟩);exact bodyPost_ret (v:=.tuple #[.slice a m c,.bool (!o.contains 0)]) (by simp [results,Tryz.results76,go_sem]) rfl ⟨a,c,o,!o.contains 0,by rw [hm.out],by rw [hm.out];exact ownsRow_base HROW.out (by omega),bel,planOk_some HN.out.symm⟩
end
theorem tapeStep_len {n:Int} {out o:List Int} {k ld:Int} (h:tapeStep n out k ld=some o):out.length<=o.length/\k < (o.length:Int):=by
 unfold tapeStep at h;split at h
 ·cases h
 ·split at h
  ·cases h;omega
  ·cases h;rw [List.length_set,List.length_append,List.length_replicate];omega
theorem tapesGo_len {n:Int}:∀ (l:List (Int × Int)) (out o:List Int) (_:tapesGo n out l=some o),out.length<=o.length/\∀ x∈l,x.1 < (o.length:Int)
 | [],out,o,h=>by cases h;exact ⟨Nat.le_refl _,by simp⟩
 | (k,ld)::l,out,o,h=>by
  rw [tapesGo_cons] at h
  cases h1:tapeStep n out k ld with
  | none=>rw [h1] at h;cases h
  | some o1 =>
   rw [h1] at h;obtain ⟨h2,h3⟩:=tapeStep_len h1;obtain ⟨h4,h5⟩:=tapesGo_len l o1 o h;refine ⟨by omega,fun x hx=>?_⟩;rcases List.mem_cons.1 hx with rfl | hx
   ·show k < _;omega
   ·exact h5 x hx
theorem planOk_lt {loads plan o:List Int} (h:planOk loads plan=some o) (hl:loads.length=plan.length):∀ k∈plan,k < (o.length:Int):=by
 unfold planOk tapesI at h
 cases h1:tapesGo plan.length [] (plan.zip loads) with
 | none=>rw [h1] at h;cases h
 | some o1 =>
  rw [h1] at h;have h:(if 0∈o1 then none else some o1)=some o:=h;split at h
  ·cases h
  ·cases h;intro k hk;obtain ⟨i,hi,rfl⟩:=List.getElem_of_mem hk;refine (tapesGo_len _ _ _ h1).2 (plan[i],loads[i]) ?_;exact List.mem_iff_getElem.2 ⟨i,by rw [List.length_zip];omega,by rw [List.getElem_zip]⟩
section
variable {b:Bk} {vr vg vm vs vc:Value} {w:World}
theorem late1_at {B:Nat} {room:Int} (h:w.cell? ⟨B,0,none⟩=some (.int .i64 room)) (n:Int) :
 Calls Tryz.prog 98 #[.int .i64 n,.pointer (some ⟨B,0,none⟩)] w fun e w'=>e=.returned (.bool (decide (room < n)))/\w'=w:=by
 have hlt:=lt_of_cell h
 go_enter Tryz.func98,Tryz.ntmps98
 go_wp2;go_ret;exact ⟨by simp,rfl⟩
theorem idxInt_at {B:Nat} {room:Int} (h:w.cell? ⟨B,0,none⟩=some (.int .i64 room)) {a:Option Addr} {c:Nat} {l:List Int} {n:Nat} (hn:n=l.length) (hI:IntsAt w a l) (hl:l.length<=1000000) :
 Calls Tryz.prog 121 #[.slice a n c,.func (.func 98) #[] #[.pointer (some ⟨B,0,none⟩)]] w fun e w'=>(∃ i:Int,e=.returned (.int .i64 i)/\decide (0<=i)=l.any fun x=>decide (room < x))/\w'=w:=by
 have HI:=Hh hI;have H:=Hh h;have HN:=Hh hn;have hn2:n<=1000000:=by omega
 clear hI h hn hl
 go_enter Tryz.func121,Tryz.ntmps121
 go_wp2;go_loop [8] (fun i=>∃ (k:Nat),k<=n/\i=.int .i64 k/\Hid (∀ j (h:j < l.length),j < k->l[j]<=room)) (fun i=>n - (intOf i).toNat)
 case atStart=>exact ⟨0,Nat.zero_le _,rfl,fun j _ hj=>absurd hj (Nat.not_lt_zero _)⟩
 case round =>
  obtain ⟨k,hk,rfl,hG⟩:=hrel;by_cases hlt:k < n
  ·have hkl:k < l.length:=by rw [<- HN.out];exact hlt
   obtain ⟨sb,so,rfl,hsb,d0⟩:=HI.out k hkl;by_cases hx:room < l[k]
   ·have HX:Hid ((l.any fun x=>decide (room < x))=true):=List.any_eq_true.2 ⟨l[k],List.getElem_mem hkl,decide_eq_true hx⟩;generalize l[k]=x at d0 hx;go_wp2_with (go_at_call 98;(with_reducible refine (late1_at H.out x).mono ?_);rintro e w1 ⟨rfl,rfl⟩);go_ret;exact ⟨⟨_,rfl,by rw [HX.out];simp⟩,rfl⟩
   ·have HG:Hid (∀ j (h:j < l.length),j < k+1->l[j]<=room):=fun j h hj=>by
     by_cases hjk:j < k
     ·exact hG.out j h hjk
     ·obtain rfl:j=k:=by omega
      exact Int.not_lt.1 hx
    clear hG;generalize l[k]=x at d0 hx;go_wp2_with (go_at_call 98;(with_reducible refine (late1_at H.out x).mono ?_);rintro e w1 ⟨rfl,rfl⟩);go_round
    case rel=>exact ⟨k+1,by omega,by go_num,HG⟩
    case measure=>simp [intOf];omega
  ·have HX:Hid ((l.any fun x=>decide (room < x))=false):=List.any_eq_false.2 fun x hx=>by
    obtain ⟨j,hj,rfl⟩:=List.getElem_of_mem hx;have:=hG.out j hj (by have:=HN.out;omega);simpa using this
   clear hG;go_wp2;go_ret;exact ⟨⟨_,rfl,by rw [HX.out];rfl⟩,rfl⟩
theorem over_at {B:Nat} {room:Int} (h:w.cell? ⟨B,0,none⟩=some (.int .i64 room)) {a:Option Addr} {c:Nat} {l:List Int} {n:Nat} (hn:n=l.length) (hI:IntsAt w a l) (hl:l.length<=1000000) :
 Calls Tryz.prog 97 #[.slice a n c,.func (.func 98) #[] #[.pointer (some ⟨B,0,none⟩)]] w fun e w'=>e=.returned (.bool (l.any fun x=>decide (room < x)))/\w'=w:=by
 have hx:=idxInt_at (c:=c) h hn hI hl;have HX:=Hh hx;clear h hn hI hl hx
 go_enter Tryz.func97,Tryz.ntmps97
 go_wp2_with (go_at_call 121;(with_reducible refine HX.out.mono ?_);rintro e w1 ⟨⟨i,rfl,hi⟩,rfl⟩;have HI:=Hh hi;clear hi);go_ret;refine ⟨?_,rfl⟩;rw [<- HI.out];rfl
theorem fits_not (b:Bk) (tapes:List Int):(!tapes.any fun x=>decide (b.room < x))=fitsI b tapes:=by
 unfold fitsI;rw [List.not_any_eq_all_not];congr 1;funext x;by_cases h:b.room < x
 ·simp [h]
 ·simp [h];omega
theorem lateGo_cons {ends:List Int} {k:Int} {ks:List Int} {m:Msg} {ms:List Msg} {t:Int}:lateGo ends (k::ks) (m::ms) t=lateGo ends ks ms (if 0<=k then max t (ends.getD k.toNat 0 - m.due) else t):=rfl
theorem late_at (hB:BookAt w b vr vg vm vs vc) (hD:∀ m∈b.ms,0<=m.due/\m.due<=999) (hg:0<=b.gap/\b.gap<=100) (ls:Value) (hls:ls.oneCell'=true) {pa:Option Addr} {pc pn:Nat} {plan:List Int} (hP:IntsAt w pa plan) (hpn:pn=plan.length) (hpm:plan.length=b.ms.length)
 {ta:Option Addr} {tc tn:Nat} {tapes:List Int} (hT:IntsAt w ta tapes) (htn:tn=tapes.length) (htl:tapes.length<=100) (htb:∀ x∈tapes,0<=x/\x<=100000) (hpt:∀ k∈plan,k < (tapes.length:Int)) (hml:b.ms.length<=50) :
 Calls Tryz.prog 70 #[.agg #[vr,vg,vm,vs,vc,ls],.slice pa pn pc,.slice ta tn tc] w fun e w'=>e=.returned (.tuple #[.int .i64 (lateI b plan tapes),.bool (fitsI b tapes)])/\Below w.heap.size w w':=by
 have hen:=fun (w':World) (hb:Below w.heap.size w w')=>ends_at (tc:=tc) (hB.below hb) ls hls (hT.below hb) htl htb hg (now:=0) (by omega);rw [<- htn] at hen;have HEN:=Hh hen;have HEB:=Hh (endsI_bd hg (now:=0) (by omega) htb htl);have HEL:=Hh (endsI_length b.gap 0 tapes);have HD:=Hh hD;have HP:=Hh hP;have HT:=Hh hT;have HPN:=Hh hpn;have HTN:=Hh htn;have HPM:=Hh hpm;have HPT:=Hh hpt;have HF:=Hh (fits_not b tapes);have hpn50:pn<=50:=by omega
 have htn100:tn<=100:=by omega
 have HLT:Hid (lateGo (endsI b.gap 0 tapes) plan b.ms (-999)=lateI b plan tapes):=rfl;generalize lateI b plan tapes=L at HLT;generalize endsI b.gap 0 tapes=E at HEN HEB HEL HLT;generalize fitsI b tapes=F at HF;obtain ⟨rfl,rfl,⟨ma,mc,rfl,hM,_⟩,⟨sa,sc,rfl,_,_⟩,ra,rc,rfl,_,_⟩:=id hB;have HM:=Hh hM;clear hM hB hen hD hP hT hpn htn hpm hpt htb htl hml
 go_enter Tryz.func70,Tryz.ntmps70
 go_wp2_with fail;obtain ⟨W0,hW0⟩:∃ W0,W0=w.alloc (.cells #[.int .i64 b.room,.int .i64 b.gap,.slice ma b.ms.length mc,.slice sa b.ss.length sc,.slice ra b.rs.length rc,ls] 96):=⟨_,rfl⟩;rw [<- hW0];have hb0:Below w.heap.size w W0:=by rw [hW0];(exact bel)
 have g0:W0.cell? ⟨w.heap.size,0,none⟩=some (.int .i64 b.room):=by rw [hW0,World.cell?_alloc_at _ _ _ _ rfl];rfl
 have g2:W0.cell? ⟨w.heap.size,2,none⟩=some (.slice ma b.ms.length mc):=by rw [hW0,World.cell?_alloc_at _ _ _ _ rfl];rfl
 have hsz0:w.heap.size < W0.heap.size:=by rw [hW0];simp
 clear hW0;refine (HEN.out _ hb0).mono ?_;rintro e w1 ⟨ea,ec,rfl,hrow,hb1⟩;have HE1:=Hh (ints_of_row hrow);have g0':=(hb1.cell (p:=⟨w.heap.size,0,none⟩) hsz0).trans g0;have g2':=(hb1.cell (p:=⟨w.heap.size,2,none⟩) hsz0).trans g2;have hsz1:w.heap.size < w1.heap.size:=Nat.lt_of_lt_of_le hsz0 hb1.size;have hbw1:Below w.heap.size w w1:=Below.next hb0 hb1;have HP1:=Hh (HP.out.below hbw1);have HM1:=Hh (HM.out.below hbw1);have HT1:=Hh (HT.out.below hbw1);clear hrow g0 g2;go_wp2;go_loopw [9,17] (fun v i wr=>∃ (k:Nat) (t:Int),k<=pn/\i=.int .i64 k/\v=.int .i64 t/\-999<=t/\t<=20000000/\Hid (lateGo E (plan.drop k) (b.ms.drop k) t=L)/\Below w1.heap.size w1 wr) (fun _ i _=>pn - (intOf i).toNat)
 case atStart=>exact ⟨0,-999,Nat.zero_le _,rfl,rfl,by omega,by omega,HLT.out,Below.refl _ _⟩
 case round =>
  obtain ⟨k,t,hk,rfl,rfl,ht0,ht1,hgo,hW⟩:=hrel;have hWs:=hW.size;by_cases hlt:k < pn
  ·have hkp:k < plan.length:=by rw [<- HPN.out];exact hlt
   have hkm:k < b.ms.length:=by rw [<- HPM.out];exact hkp
   obtain ⟨pb,po,rfl,hpb,e0⟩:=HP1.out k hkp;obtain ⟨mb,mo,rfl,hmb,m0,m1,m2⟩:=HM1.out k hkm;have d0:=(hW.cell hpb).trans e0;have d2:=(hW.cell hmb).trans m2;have hpb2:pb < wr.heap.size:=Nat.lt_of_lt_of_le hpb hW.size;have hmb2:mb < wr.heap.size:=Nat.lt_of_lt_of_le hmb hW.size;have s2:=(hW.cell (p:=⟨w.heap.size,2,none⟩) hsz1).trans g2';have hsz2:w.heap.size < wr.heap.size:=by omega
   have hpt:=HPT.out _ (List.getElem_mem hkp);have hdue:=HD.out _ (List.getElem_mem hkm);have hgo2:=hgo.out;rw [List.drop_eq_getElem_cons hkp,List.drop_eq_getElem_cons hkm,lateGo_cons] at hgo2;generalize plan[k]=p at d0 hpt hgo2;generalize b.ms[k]=mm at d2 hdue hgo2;clear e0 m0 m1 m2 hgo;by_cases hp0:0<=p
   ·obtain ⟨q,rfl⟩:∃ q:Nat,p=q:=⟨p.toNat,by omega⟩;rw [if_pos hp0,Int.toNat_natCast] at hgo2;have hqE:q < E.length:=by rw [HEL.out];omega
    obtain ⟨eb,eo,rfl,heb,x0⟩:=HE1.out q hqE;have dx:=(hW.cell heb).trans x0;have heb2:eb < wr.heap.size:=Nat.lt_of_lt_of_le heb hW.size;have hEq:E.getD q 0=E[q]:=by simp [List.getD,List.getElem?_eq_getElem hqE]
    have hEb:=HEB.out _ (List.getElem_mem hqE);rw [hEq] at hgo2;generalize E[q]=y at dx hgo2 hEb;have HGO:=Hh hgo2;have e1:IntKind.i64.wrap (y - mm.due)=y - mm.due:=IntWalk.i64_in _ (by omega);generalize mm.due=du at *;clear hgo2 hEq x0;go_wp2;go_quiet (fail);go_wp2;go_roundw
    case rel=>exact ⟨k+1,max t (y - du),by omega,by go_num,rfl,by omega,by omega,HGO.out,bel⟩
    case measure=>simp [intOf];omega
   ·rw [if_neg hp0] at hgo2;have HGO:=Hh hgo2;clear hgo2;go_wp2;go_roundw
    case rel=>exact ⟨k+1,t,by omega,by go_num,rfl,by omega,by omega,HGO.out,bel⟩
    case measure=>simp [intOf];omega
  ·obtain rfl:k=pn:=by omega
   have hgo2:=hgo.out;rw [List.drop_of_length_le (by rw [<- HPN.out];omega)] at hgo2;have HGO:=Hh (show t=L from hgo2);have s0:=(hW.cell (p:=⟨w.heap.size,0,none⟩) hsz1).trans g0';have HT2:=Hh (HT1.out.below hW);clear hgo2 hgo;go_wp2_with (go_at_call 97;(with_reducible refine (over_at s0 HTN.out HT2.out (by have:=HTN.out;omega)).mono ?_);rintro e w5 ⟨rfl,rfl⟩);exact bodyPost_ret (v:=.tuple #[.int .i64 t,.bool (!tapes.any fun x=>decide (b.room < x))]) (by simp [results,Tryz.results70,go_sem]) rfl ⟨by rw [HGO.out,HF.out],bel⟩
end
theorem lateGo_bd {ends:List Int} (hE:∀ x∈ends,0<=x/\x<=20000000):∀ (ks:List Int) (ms:List Msg) (t:Int) (_:∀ m∈ms,0<=m.due/\m.due<=999) (_:-999<=t/\t<=20000000),-999<=lateGo ends ks ms t/\lateGo ends ks ms t<=20000000
 | [],_,t,_,h=>h
 | _::_,[],t,_,h=>h
 | k::ks,m::ms,t,hm,h=>by
  rw [lateGo_cons];refine lateGo_bd hE ks ms _ (fun x hx=>hm x (by simp [hx])) ?_;split
  ·have h1:=hm m (by simp);have h2:0<=ends.getD k.toNat 0/\ends.getD k.toNat 0<=20000000:=by
    rw [List.getD_eq_getElem?_getD]
    cases hg:ends[k.toNat]? with
    | none=>simp
    | some y=>simpa using hE y (List.mem_of_getElem? hg)
   omega
  ·exact h
theorem lateI_bd {b:Bk} {plan tapes:List Int} (hD:∀ m∈b.ms,0<=m.due/\m.due<=999) (hg:0<=b.gap/\b.gap<=100) (htl:tapes.length<=100) (htb:∀ x∈tapes,0<=x/\x<=100000):-999<=lateI b plan tapes/\lateI b plan tapes<=20000000 :=
 lateGo_bd (endsI_bd hg (by omega) htb htl) _ _ _ hD (by omega)
section
variable {b:Bk} {vr vg vm vs vc:Value} {w:World}
theorem good_at (hB:BookAt w b vr vg vm vs vc) (hD:∀ m∈b.ms,0<=m.due/\m.due<=999) (hg:0<=b.gap/\b.gap<=100) (ls:Value) (hls:ls.oneCell'=true) {pa:Option Addr} {pc pn:Nat} {plan:List Int} (hP:IntsAt w pa plan) (hpn:pn=plan.length) (hpm:plan.length=b.ms.length)
 {ta:Option Addr} {tc tn:Nat} {tapes:List Int} (hT:IntsAt w ta tapes) (htn:tn=tapes.length) (htl:tapes.length<=100) (htb:∀ x∈tapes,0<=x/\x<=100000) (hpt:∀ k∈plan,k < (tapes.length:Int)) (hml:b.ms.length<=50) {now:Int} (hnow:0<=now/\now<=1000) {r:Bool} (hr:goodI b plan tapes now=r) :
 Calls Tryz.prog 40 #[.agg #[vr,vg,vm,vs,vc,ls],.slice pa pn pc,.slice ta tn tc,.int .i64 now] w fun e w'=>e=.returned (.bool r)/\Below w.heap.size w w':=by
 have hla:=fun (w':World) (hb:Below w.heap.size w w')=>late_at (pc:=pc) (tc:=tc) (hB.below hb) hD hg ls hls (hP.below hb) hpn hpm (hT.below hb) htn htl htb hpt hml;have hbd:=lateI_bd (plan:=plan) hD hg htl htb;have hte:tapes=[]↔tn=0:=by rw [htn,List.length_eq_zero_iff]
 have hr2:(fitsI b tapes && (decide (lateI b plan tapes+now<=0) || decide (tn=0)))=r:=by
  rw [<- hr];unfold goodI;congr 2;exact decide_eq_decide.2 hte.symm
 generalize lateI b plan tapes=L at hla hbd hr2;generalize fitsI b tapes=F at hla hr2;have HLA:=Hh hla;have hw:IntKind.i64.wrap (L+now)=L+now:=IntWalk.i64_in _ (by omega);obtain ⟨rfl,rfl,⟨ma,mc,rfl,_,_⟩,⟨sa,sc,rfl,_,_⟩,ra,rc,rfl,_,_⟩:=id hB;clear hB hD hP hT hpn hpm htn htl htb hpt hml hr hla hte;cases F
 ·simp only [Bool.false_and] at hr2;subst hr2
  go_enter Tryz.func40,Tryz.ntmps40
  go_wp2_with (go_at_call 70;(with_reducible refine (HLA.out _ (bel)).mono ?_);rintro e w1 ⟨rfl,hb1⟩);go_ret;exact ⟨rfl,bel⟩
 ·simp only [Bool.true_and] at hr2;by_cases h1:L+now<=0
  ·simp only [h1,decide_true,Bool.true_or] at hr2;subst hr2
   go_enter Tryz.func40,Tryz.ntmps40
   go_wp2_with (go_at_call 70;(with_reducible refine (HLA.out _ (bel)).mono ?_);rintro e w1 ⟨rfl,hb1⟩);go_ret;exact ⟨rfl,bel⟩
  ·simp only [h1,decide_false,Bool.false_or] at hr2;have HR:=Hh hr2;clear hr2
   go_enter Tryz.func40,Tryz.ntmps40
   go_wp2_with (go_at_call 70;(with_reducible refine (HLA.out _ (bel)).mono ?_);rintro e w1 ⟨rfl,hb1⟩);go_ret;refine ⟨?_,bel⟩;rw [<- HR.out];by_cases h0:tn=0
   ·simp [h0]
   ·simp [h0];omega
end
section
variable {vr vg vm vs vc:Value}
theorem IntsAt.ks {A B:World} {g o:Nat} {l:List Int} {p:Nat->Prop} (h:IntsAt A (some ⟨g,o,none⟩) l) (hk:KS p A B) (hp:p g):IntsAt B (some ⟨g,o,none⟩) l:=fun i hi=>by
 obtain ⟨b',o',e,hlt,hc⟩:=h i hi;cases e;exact ⟨g,o,rfl,Nat.lt_of_lt_of_le hlt hk.size,(hk.cell (x:=⟨g,o+i,none⟩) hlt hp).trans hc⟩
structure PSt (LB:Nat) (loads:List Int) (vr vg vm vs vc:Value) (lc n s l:Nat) (A:World) (cl:List Int):Prop where
 ldi:IntsAt A (some ⟨LB,0,none⟩) loads
 lbs:LB < s
 five:Five A s vr vg vm vs vc
 ld:A.cell? ⟨s,5,none⟩=some (.slice (some ⟨LB,0,none⟩) n lc)
 yv:A.cell? ⟨s+1,0,none⟩=some (.func (.yield l) #[] #[])
 c:∀ k,k < n->A.cell? ⟨s+1+1,k,none⟩=some (.int .i64 (cl.getD k 0))
 fz:∀ k,k < n->A.frozen? ⟨s+1+1,k,none⟩=false
 pv:A.cell? ⟨s+1+1+1,0,none⟩=some (.slice (some ⟨s+1+1,0,none⟩) n n)
 nx:A.cell? ⟨s+1+1+1+1,0,none⟩=some (.func (.func 75) #[] #[.pointer (some ⟨s+1+1+1,0,none⟩),.pointer (some ⟨s,0,none⟩),.pointer (some ⟨s+1,0,none⟩),.pointer (some ⟨s+1+1+1+1,0,none⟩)])
 len:cl.length=n
 lt:s+1+1+1+1 < A.heap.size
variable {LB lc n:Nat} {loads:List Int}
theorem PSt.keep {A B:World} {s l:Nat} {cl:List Int} {p:Nat->Prop} (h:PSt LB loads vr vg vm vs vc lc n s l A cl) (hk:KS p A B) (hp0:p LB) (hps:∀ k,s<=k->k<=s+1+1+1+1->p k):PSt LB loads vr vg vm vs vc lc n s l B cl:=by
 have hlt:=h.lt;have e:∀ r o,s<=r->r<=s+1+1+1+1->B.cell? ⟨r,o,none⟩=A.cell? ⟨r,o,none⟩:=fun r o h1 h2=>hk.cell (x:=⟨r,o,none⟩) (by simp;omega) (hps r h1 h2);have ef:∀ r o,s<=r->r<=s+1+1+1+1->B.frozen? ⟨r,o,none⟩=A.frozen? ⟨r,o,none⟩:=fun r o h1 h2=>hk.frozen (x:=⟨r,o,none⟩) (by simp;omega) (hps r h1 h2);obtain ⟨hldi,hlbs,⟨f0,f1,f2,f3,f4,f5⟩,hld,hy,hc,hfz,hpv,hn,hl,_⟩:=h;refine ⟨hldi.ks hk hp0,hlbs,⟨?_,?_,?_,?_,?_,Nat.lt_of_lt_of_le f5 hk.size⟩,?_,?_,fun k hk4=>?_,fun k hk4=>?_,?_,?_,hl,Nat.lt_of_lt_of_le hlt hk.size⟩
 ·rw [e _ _ (by omega) (by omega)];exact f0
 ·rw [e _ _ (by omega) (by omega)];exact f1
 ·rw [e _ _ (by omega) (by omega)];exact f2
 ·rw [e _ _ (by omega) (by omega)];exact f3
 ·rw [e _ _ (by omega) (by omega)];exact f4
 ·rw [e _ _ (by omega) (by omega)];exact hld
 ·rw [e _ _ (by omega) (by omega)];exact hy
 ·rw [e _ _ (by omega) (by omega)];exact hc k hk4
 ·rw [ef _ _ (by omega) (by omega)];exact hfz k hk4
 ·rw [e _ _ (by omega) (by omega)];exact hpv
 ·rw [e _ _ (by omega) (by omega)];exact hn
theorem PSt.next {A B:World} {s l:Nat} {cl:List Int} (h:PSt LB loads vr vg vm vs vc lc n s l A cl) (hk:Below A.heap.size A B):PSt LB loads vr vg vm vs vc lc n s l B cl :=
 h.keep (KS.all hk (fun _=>True)) trivial (fun _ _ _=>trivial)
theorem PSt.drew {A:World} {s l:Nat} {cl:List Int} (h:PSt LB loads vr vg vm vs vc lc n s l A cl):PSt LB loads vr vg vm vs vc lc n s l A.drew cl :=
 h.keep (KS.drew (fun _=>True) _) trivial (fun _ _ _=>trivial)
theorem PSt.set {A:World} {s l:Nat} {cl:List Int} (h:PSt LB loads vr vg vm vs vc lc n s l A cl) {i:Nat} (hi:i < n) (v:Int):PSt LB loads vr vg vm vs vc lc n s l (A.setCell ⟨s+1+1,i,none⟩ (.int .i64 v)) (cl.set i v):=by
 have hk:KS (fun k=>k≠s+1+1) A (A.setCell ⟨s+1+1,i,none⟩ (.int .i64 v)):=KS.setCell (by simp) _ _;have hlt:=h.lt;have e:∀ r o,r≠s+1+1->r < A.heap.size->(A.setCell ⟨s+1+1,i,none⟩ (.int .i64 v)).cell? ⟨r,o,none⟩=A.cell? ⟨r,o,none⟩:=fun r o h1 h2=>hk.cell (x:=⟨r,o,none⟩) h2 h1;obtain ⟨hldi,hlbs,⟨f0,f1,f2,f3,f4,f5⟩,hld,hy,hc,hfz,hpv,hn,hl,_⟩:=h;refine ⟨hldi.ks hk (by omega),hlbs,⟨?_,?_,?_,?_,?_,Nat.lt_of_lt_of_le f5 hk.size⟩,?_,?_,fun k hk4=>?_,fun k hk4=>?_,?_,?_,by simpa using hl,Nat.lt_of_lt_of_le hlt hk.size⟩
 ·rw [e _ _ (by omega) (by omega)];exact f0
 ·rw [e _ _ (by omega) (by omega)];exact f1
 ·rw [e _ _ (by omega) (by omega)];exact f2
 ·rw [e _ _ (by omega) (by omega)];exact f3
 ·rw [e _ _ (by omega) (by omega)];exact f4
 ·rw [e _ _ (by omega) (by omega)];exact hld
 ·rw [e _ _ (by omega) (by omega)];exact hy
 ·by_cases hki:k=i
  ·subst hki;rw [World.cell?_setCell_same' _ _ _ (by rw [hc k hk4];rfl)];simp [List.getD,hl,hk4]
  ·rw [World.cell?_setCell_other (h:=fun e=>hki (by injection e with _ e _;exact e.symm))];rw [hc k hk4];simp [List.getD,List.getElem?_set_ne (Ne.symm hki)]
 ·rw [World.frozen?_setCell];exact hfz k hk4
 ·rw [e _ _ (by omega) (by omega)];exact hpv
 ·rw [e _ _ (by omega) (by omega)];exact hn
theorem PSt.ints {A:World} {s l:Nat} {cl:List Int} (h:PSt LB loads vr vg vm vs vc lc n s l A cl):IntsAt A (some ⟨s+1+1,0,none⟩) cl:=fun i hi=>by
 have hlt:=h.lt;refine ⟨s+1+1,0,rfl,by omega,?_⟩;rw [Nat.zero_add,h.c i (by rw [<- h.len];exact hi)];simp [List.getD,List.getElem?_eq_getElem hi]
def PlanOut (LB:Nat) (loads:List Int) (vr vg vm vs vc:Value) (lc n s l i:Nat) (cl:List Int) (J Jx:List (List Int × List Int)->World->Prop) (done:List (List Int × List Int)) (e:Ending) (B:World):Prop :=
 (∃ cl',e=.returned (.bool true)/\PSt LB loads vr vg vm vs vc lc n s l B cl'/\cl'.take i=cl.take i/\J done B)\/(e=.returned (.bool false)/\∃ pre,Jx pre B)
abbrev planArgs (i s:Nat):Array Value:=#[.int .i64 i,.pointer (some ⟨s+1+1+1,0,none⟩),.pointer (some ⟨s,0,none⟩),.pointer (some ⟨s+1,0,none⟩),.pointer (some ⟨s+1+1+1+1,0,none⟩)]
theorem row_base {w:World} {base e size n c:Nat} {a:Option Addr} {xs:List Value} (h:w.ownsRow base e size (.slice a n c) n xs):∀ y,a=some y->base<=y.block:=fun y hy=>by
 obtain ⟨_,⟨h2,_⟩ | ⟨g,cap,cur,e1,e2,_⟩⟩:=h
 ·cases h2;cases hy
 ·cases e1;cases hy;exact e2
def encPl (s n:Nat) (x:List Int × List Int) (args:Array Value) (A:World):Prop :=
 ∃ a c tn,args=#[.slice (some ⟨s+1+1,0,none⟩) n n,.slice a tn c]/\tn=x.2.length/\x.1.length=n/\IntsAt A (some ⟨s+1+1,0,none⟩) x.1/\IntsAt A a x.2/\(∀ y,a=some y->s+1+1+1+1 < y.block)/\s+1+1+1+1 < A.heap.size
theorem plan_leaf_no (hlb:∀ x∈loads,0<=x/\x<=1000) (hn:loads.length=n) (hn50:n<=50) {s l:Nat} {A:World} {cl:List Int} (hA:PSt LB loads vr vg vm vs vc lc n s l A cl)
 {J Jx:List (List Int × List Int)->World->Prop} {own:Nat->Prop} (hJ:∀ pre A B,J pre A->KS (fun k=>¬ own k) A B->J pre B) {done:List (List Int × List Int)} (hj:J done A) (hno:planOk loads cl=none) :
 CallsIn Fence.wide 0 Tryz.prog 75 (planArgs n s) A (PlanOut LB loads vr vg vm vs vc lc n s l n cl J Jx done):=by
 refine callsIn_wide.2 ?_;have htp:=tapes_at (vr:=vr) (vg:=vg) (vm:=vm) (vs:=vs) (vc:=vc) (lc:=lc) (pc:=n) hA.ldi hlb hA.ints (pn:=n) (ln:=n) hA.len.symm hA.len.symm (by rw [hn,hA.len]) (by rw [hA.len];exact hn50);have HTP:=Hh htp;obtain ⟨f0,f1,f2,f3,f4,f5⟩:=hA.five;have f6:=hA.ld;have hpv:=hA.pv;have hlt:=hA.lt;have hA3:s+1+1+1 < A.heap.size:=by omega
 have HA:=Hh hA;have HJ:=Hh hJ;have HJ0:=Hh hj;have HNO:=Hh hno;clear hlb hn hA hJ hj hno htp;unfold planArgs
 go_enter Tryz.func75,Tryz.ntmps75
 go_wp2_with (go_at_call 76;(with_reducible refine HTP.out.mono ?_);rintro e w1 ⟨ta,tc,o,ok,rfl,hrow,hb1,hok⟩;rw [HNO.out] at hok;cases ok;rotate_left;(simp at hok);clear hok hrow);go_ret;exact .inl ⟨_,rfl,HA.out.next hb1,rfl,HJ.out _ _ _ HJ0.out (KS.all hb1 _)⟩
end
section
variable {vr vg vm vs vc:Value} {LB lc n:Nat} {loads:List Int}
theorem plan_leaf_yes (hlb:∀ x∈loads,0<=x/\x<=1000) (hn:loads.length=n) (hn50:n<=50) {s l:Nat} {A:World} {cl t:List Int} (hA:PSt LB loads vr vg vm vs vc lc n s l A cl)
 {J Jx:List (List Int × List Int)->World->Prop} {own:Nat->Prop} (hJ:∀ pre A B,J pre A->KS (fun k=>¬ own k) A B->J pre B) {done:List (List Int × List Int)} (hj:J done A) (hyes:planOk loads cl=some t)
 {p:Nat->Prop} (hp0:p LB) (hps:∀ k,s<=k->k<=s+1+1+1+1->p k)
 (hY:∀ args A,encPl s n (cl,t) args A->J done A->YieldAt Fence.wide 0 Tryz.prog l args A fun e B=>(e=.returned (.bool true)/\J (done ++ [(cl,t)]) B/\KS p A B)\/(e=.returned (.bool false)/\Jx (done ++ [(cl,t)]) B)) :
 CallsIn Fence.wide 0 Tryz.prog 75 (planArgs n s) A (PlanOut LB loads vr vg vm vs vc lc n s l n cl J Jx (done ++ [(cl,t)])):=by
 have htp:=tapes_at (vr:=vr) (vg:=vg) (vm:=vm) (vs:=vs) (vc:=vc) (lc:=lc) (pc:=n) hA.ldi hlb hA.ints (pn:=n) (ln:=n) hA.len.symm hA.len.symm (by rw [hn,hA.len]) (by rw [hA.len];exact hn50);have HTP:=Hh htp;obtain ⟨f0,f1,f2,f3,f4,f5⟩:=hA.five;have f6:=hA.ld;have hpv:=hA.pv;have hlt:=hA.lt;have hyv:=hA.yv;have hA3:s+1+1+1 < A.heap.size:=by omega
 have hA1:s+1 < A.heap.size:=by omega
 have HA:=Hh hA;have HJ:=Hh hJ;have HJ0:=Hh hj;have HYES:=Hh hyes;have hY2:=fun (w1:World) (hb1:Below A.heap.size A w1) (ta:Option Addr) (tc:Nat) (hi:IntsAt w1 ta t) (hb:∀ y,ta=some y->A.heap.size<=y.block)=>hY #[.slice (some ⟨s+1+1,0,none⟩) n n,.slice ta t.length tc] w1 ⟨ta,tc,t.length,rfl,rfl,HA.out.len,HA.out.ints.below hb1,hi,fun y hy=>Nat.lt_of_lt_of_le HA.out.lt (hb y hy),Nat.lt_of_lt_of_le HA.out.lt hb1.size⟩ (HJ.out _ _ _ HJ0.out (KS.all hb1 _));have HY:=Hh hY2;have HP0:=Hh hp0;have HPS:=Hh hps;clear hlb hn hA hJ hj hyes htp hY hY2 hp0 hps;unfold planArgs
 (refine callsIn_of_wp Tryz.func75 rfl trivial ?_ rfl;simp only [Tryz.ntmps75,List.size_toArray,List.length_cons,List.length_nil,Nat.reduceAdd,Nat.reduceSub,Array.replicate_succ,Array.replicate_zero,List.push_toArray,List.append_toArray,List.nil_append,List.cons_append])
 gi_wp2_with (gi_at_call 76;(with_reducible refine (callsIn_wide.2 HTP.out).mono ?_);rintro e w1 ⟨ta,tc,o,ok,rfl,hrow,hb1,hok⟩;rw [HYES.out] at hok;(cases ok;(simp at hok));obtain rfl:t=o:=(by simpa using hok);clear hok;obtain ⟨hcc,hcf⟩:=bcell hb1;have hz1:=hb1.size;obtain ⟨fn,tmps,assign,body,hy,hR⟩:=HY.out w1 hb1 ta tc (ints_of_row hrow) (row_base hrow);have HR:=Hh hR;clear hR hrow)
 refine HR.out.mono ?_;rintro e W' (⟨rfl,hj',hk'⟩ | ⟨rfl,hjx⟩)
 ·gi_wp2
  go_ret;exact .inl ⟨_,rfl,(HA.out.next hb1).keep hk' HP0.out HPS.out,rfl,hj'⟩
 ·gi_wp2
  go_ret;exact .inr ⟨rfl,_,hjx⟩
end
end Go.Proofs.YtdjnkplgllakcaaGreatDoor
