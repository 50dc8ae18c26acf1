/- StoreTapes -/
import Derived.Test.YtgagoahfdnnpkaaGreatDoorSG09
import Derived.Deep.Upon
set_option maxHeartbeats 4000000
set_option maxRecDepth 100000
set_option linter.all false
namespace Go.Proofs.YtgagoahfdnnpkaaGreatDoor
open Go.RowKit Go.Maps Sp
theorem getD_of_lt {l:List Int} {k:Nat} (h:k < l.length):l.getD k 0=l[k]:=by simp [List.getD,h]
theorem count_nodup {l:List Prt} (h:l.Nodup) (p:Prt):l.count p=if decide (p∈l)=true then 1 else 0:=by
 rw [h.count];simp only [decide_eq_true_eq]
theorem copiesK_le {b:Bk} (hO:BkOk b) {c:List Int} (hlc:c.length=b.ss.length) (p:Prt):∀ k,k<=b.ss.length->copiesK b c k p<=k
 | 0,_=>by simp [copiesK]
 | k+1,h=>by
  rw [copiesK_succ b c k p (by omega) (by omega),count_nodup ((List.take_sublist _ _).nodup (hO.nodup _ (List.getElem_mem (by omega))))];have:=copiesK_le hO hlc p k (by omega);split <;> omega
section
variable {b:Bk} {vr vg vm vs vc:Value} {w:World}
theorem rCopies_at (hB:BookAt w b vr vg vm vs vc) (hO:BkOk b) {la:Option Addr} {ln lc:Nat} {l:List Int} (hL:IntsAt w la l) (hln:ln=l.length) (hll:l.length=b.ss.length) (hC:Came b l) (p:Prt) {t:Int} (ht:copies b l p=t) :
 Calls Tryz.prog 103 #[.agg #[vr,vg,vm,vs,vc],.slice la ln lc,.agg #[.int .i64 p.1,.int .i64 p.2]] w fun e w'=>e=.returned (.int .i64 t)/\Below w.heap.size w w':=by
 obtain ⟨pm,pg⟩:=p;subst hln;obtain ⟨sa,sc,rfl,hS,hsl⟩:=hB.ss;have hs4:=hO.sl;have HS:=Hh hS;have HO:=Hh hO;have HL:=Hh hL;have HC:=Hh hC;have HT:=Hh ht;clear hB hO hL hC hS ht
 go_enter Tryz.func103,Tryz.ntmps103
 go_wp2;obtain ⟨W0,hW0⟩:∃ W0,W0=(w.alloc (.cells #[vr,vg,vm,.slice sa b.ss.length sc,vc] 26)).alloc (.cells #[.int .i64 pm,.int .i64 pg] 75):=⟨_,rfl⟩;rw [<- hW0];have hb0:Below w.heap.size w W0:=by rw [hW0];(exact bel)
 have n3:W0.cell? ⟨w.heap.size,3,none⟩=some (.slice sa b.ss.length sc):=by rw [hW0,World.cell?_alloc_past _ _ _ (by simp),World.cell?_alloc_at _ _ _ _ rfl];rfl
 have p0:W0.cell? ⟨w.heap.size+1,0,none⟩=some (.int .i64 pm):=by rw [hW0,World.cell?_alloc_at _ _ _ _ (by simp)];rfl
 have p1:W0.cell? ⟨w.heap.size+1,1,none⟩=some (.int .i64 pg):=by rw [hW0,World.cell?_alloc_at _ _ _ _ (by simp)];rfl
 have hs0:w.heap.size+1 < W0.heap.size:=by rw [hW0];simp
 clear hW0;go_loopw [7,8] (fun v i wr=>∃ (k:Nat),k<=l.length/\i=.int .i64 k/\v=.int .i64 (copiesK b l k (pm,pg):Nat)/\Below W0.heap.size W0 wr) (fun _ i _=>l.length - (intOf i).toNat)
 case atStart=>exact ⟨0,Nat.zero_le _,rfl,by simp [copiesK],Below.refl _ _⟩
 case round =>
  obtain ⟨k,hk,rfl,rfl,hW⟩:=hrel;have hWs:=hW.size;have m3:=(hW.cell (p:=⟨w.heap.size,3,none⟩) (by simp;omega)).trans n3;have q0:=(hW.cell (p:=⟨w.heap.size+1,0,none⟩) hs0).trans p0;have q1:=(hW.cell (p:=⟨w.heap.size+1,1,none⟩) hs0).trans p1;have hx1:w.heap.size < wr.heap.size:=by omega
  have hx2:w.heap.size+1 < wr.heap.size:=by omega
  have hbw:=Below.next hb0 hW;have hcle:=copiesK_le HO.out hll (pm,pg) k (by omega);by_cases hlt:k < l.length
  ·have hks:k < b.ss.length:=by omega
   obtain ⟨lb,lo,rfl,hlb,e0⟩:=HL.out k hlt;have e0:=(hbw.cell hlb).trans e0;have hlb2:lb < wr.heap.size:=Nat.lt_of_lt_of_le hlb hbw.size;obtain ⟨sb,so,rfl,hsb,pa,pc,h0,hpc,hpl,hP⟩:=HS.out k hks;have h0:=(hbw.cell hsb).trans h0;have hsb2:sb < wr.heap.size:=Nat.lt_of_lt_of_le hsb hbw.size;have hck:=HC.out k hks;rw [getD_of_lt hlt] at hck;have hcs:=copiesK_succ b l k (pm,pg) hks hlt;rw [getD_of_lt hlt,count_nodup ((List.take_sublist _ _).nodup (HO.out.nodup _ (List.getElem_mem hks)))] at hcs;generalize l[k]=n at e0 hck hcs;obtain ⟨n,rfl⟩:∃ m:Nat,n=m:=⟨n.toNat,by omega⟩;have HPT:=Hh ((hP.below hbw).take n);generalize b.ss[k]=s at h0 hpc hpl hck hcs HPT;have hn:n<=s.length:=by omega
   have hnpc:(n:Int)<=pc:=by omega
   have hn0:(0:Int)<=n:=by omega
   have hln:n=(s.take n).length:=by simp;omega
   have HLN:=Hh hln;have hll2:(s.take n).length<=1000000:=by simp;omega
   rw [Int.toNat_natCast] at hcs;have hb1:Below wr.heap.size wr wr:=Below.refl _ _;have hwr:IntKind.i64.wrap ((copiesK b l k (pm,pg):Nat)+1:Int)=((copiesK b l k (pm,pg)+1:Nat):Int):=by rw [IntWalk.i64_in _ (by omega)];omega
   generalize copiesK b l k (pm,pg)=ck at hcs hwr hcle;cases hd:decide ((pm,pg)∈s.take n)
   ·have HD:=Hh hd;rw [hd] at hcs;simp only [Bool.false_eq_true,if_false,Nat.add_zero] at hcs;have HCS:=Hh hcs;clear hd hcs hln hP hck;go_wp2
    (refine wp_region_bel (by kernel_rfl) (by kernel_rfl) ?_;(repeat (go_big_quiet_step ((go_at_call 101;with_reducible exact Calls.bel_of (has_at (p:=(pm,pg)) (HPT.out.below (later_below _ _)) HLN.out hll2 HD.out)))));refine wpQuiet_nil ?_;rintro _ ⟨xq,rfl⟩)
    go_wp2;go_roundw
    case rel=>exact ⟨k+1,by omega,by go_num,by first | (rw [HCS.out];done) | (rw [HCS.out];rfl) | (rw [HCS.out];simp),Below.next hW (later_below _ _)⟩
    case measure=>simp [intOf];omega
   ·have HD:=Hh hd;rw [hd] at hcs;simp only [if_true] at hcs;have HCS:=Hh hcs;clear hd hcs hln hP hck;go_wp2
    (refine wp_region_bel (by kernel_rfl) (by kernel_rfl) ?_;(repeat (go_big_quiet_step ((go_at_call 101;with_reducible exact Calls.bel_of (has_at (p:=(pm,pg)) (HPT.out.below (later_below _ _)) HLN.out hll2 HD.out)))));refine wpQuiet_nil ?_;rintro _ ⟨xq,rfl⟩)
    go_wp2;go_roundw
    case rel=>exact ⟨k+1,by omega,by go_num,by first | (rw [HCS.out];done) | (rw [HCS.out];rfl) | (rw [HCS.out];simp),Below.next hW (later_below _ _)⟩
    case measure=>simp [intOf];omega
  ·obtain rfl:k=l.length:=by omega
   have htt:((copiesK b l l.length (pm,pg):Nat):Int)=t:=by rw [hll,copiesK_all];exact HT.out
   have HTT:=Hh htt;clear htt;go_wp2;go_ret;exact ⟨by rw [<- HTT.out];rfl,hbw⟩
theorem haveOf_succ (b:Bk) (c:List Int) (m:Int) (k:Nat):((List.range (k+1)).filter fun (g:Nat)=>decide (0 < copies b c (m,(g:Int)))).length=((List.range k).filter fun (g:Nat)=>decide (0 < copies b c (m,(g:Int)))).length+if 0 < copies b c (m,(k:Int)) then 1 else 0:=by
 rw [List.range_succ,List.filter_append,List.length_append];congr 1;by_cases h:0 < copies b c (m,(k:Int)) <;> simp [h]
theorem have_le (b:Bk) (c:List Int) (m:Int) (k:Nat):((List.range k).filter fun (g:Nat)=>decide (0 < copies b c (m,(g:Int)))).length<=k:=Nat.le_trans (List.length_filter_le _ _) (by simp)
theorem rHave_at (hB:BookAt w b vr vg vm vs vc) (hO:BkOk b) {la:Option Addr} {ln lc:Nat} {l:List Int} (hL:IntsAt w la l) (hln:ln=l.length) (hll:l.length=b.ss.length) (hC:Came b l) {m:Int} (hm:0<=m/\m.toNat < b.ms.length) {t:Int} (ht:haveOf b l m=t) :
 Calls Tryz.prog 133 #[.agg #[vr,vg,vm,vs,vc],.slice la ln lc,.int .i64 m] w fun e w'=>e=.returned (.int .i64 t)/\Below w.heap.size w w':=by
 have hcop:=fun (p:Prt) (w':World) (hb:Below w.heap.size w w')=>rCopies_at (lc:=lc) (hB.below hb) hO (hL.below hb) hln hll hC p rfl;obtain ⟨ma,mc,rfl,hM,hml⟩:=hB.ms;obtain ⟨m,rfl⟩:∃ n:Nat,m=n:=⟨m.toNat,by omega⟩;have hml5:=hO.ml;have hmb:m < b.ms.length:=by omega
 have hmg:=hO.groups _ (List.getElem_mem hmb);have hgs:(b.ms[(m:Int).toNat]?).elim 0 Msg.groups=b.ms[m].groups:=by rw [Int.toNat_natCast,List.getElem?_eq_getElem hmb];rfl
 obtain ⟨mb,mo,rfl,hmlt,_,h1,_⟩:=hM m hmb;unfold haveOf at ht;rw [hgs] at ht;generalize b.ms[m].groups=gr at hmg h1 ht hgs;obtain ⟨gn,rfl⟩:∃ n:Nat,gr=n:=⟨gr.toNat,by omega⟩;rw [Int.toNat_natCast] at ht;have HCOP:=Hh hcop;have HT:=Hh ht;have hm0:(0:Int)<=m:=by omega
 have hmi:(m:Int) < b.ms.length:=by omega
 clear hB hO hL hC hM ht hcop hm hgs hln hll
 go_enter Tryz.func133,Tryz.ntmps133
 go_wp2;obtain ⟨W0,hW0⟩:∃ W0,W0=w.alloc (.cells #[vr,vg,.slice (some ⟨mb,mo,none⟩) b.ms.length mc,vs,vc] 26):=⟨_,rfl⟩;rw [<- hW0];have hb0:Below w.heap.size w W0:=by rw [hW0];(exact bel)
 have nn:∀ k u,(#[vr,vg,.slice (some ⟨mb,mo,none⟩) b.ms.length mc,vs,vc]:Array Value)[k]? = some u->W0.cell? ⟨w.heap.size,k,none⟩=some u:=fun k u hk=>by
  rw [hW0,World.cell?_alloc_at _ _ _ _ rfl];exact hk
 have n0:=nn 0 _ rfl;have n1:=nn 1 _ rfl;have n2:=nn 2 _ rfl;have n3:=nn 3 _ rfl;have n4:=nn 4 _ rfl;have hs0:w.heap.size < W0.heap.size:=by rw [hW0];simp
 clear hW0 nn;go_loopw [7,8] (fun v i wr=>∃ (k:Nat),k<=gn/\i=.int .i64 k/\v=.int .i64 (((List.range k).filter fun (g:Nat)=>decide (0 < copies b l ((m:Int),(g:Int)))).length:Nat)/\Below W0.heap.size W0 wr) (fun _ i _=>gn - (intOf i).toNat)
 case atStart=>exact ⟨0,Nat.zero_le _,rfl,by simp,Below.refl _ _⟩
 case round =>
  obtain ⟨k,hk,rfl,rfl,hW⟩:=hrel;have hWs:=hW.size;have m0:=(hW.cell (p:=⟨w.heap.size,0,none⟩) hs0).trans n0;have m1:=(hW.cell (p:=⟨w.heap.size,1,none⟩) hs0).trans n1;have m2:=(hW.cell (p:=⟨w.heap.size,2,none⟩) hs0).trans n2;have m3:=(hW.cell (p:=⟨w.heap.size,3,none⟩) hs0).trans n3;have m4:=(hW.cell (p:=⟨w.heap.size,4,none⟩) hs0).trans n4;have hx1:w.heap.size < wr.heap.size:=by omega
  have hbw:=Below.next hb0 hW;have g1:=(hbw.cell hmlt).trans h1;have hmlt2:mb < wr.heap.size:=Nat.lt_of_lt_of_le hmlt hbw.size;have hle:=have_le b l (m:Int) k;by_cases hlt:k < gn
  ·have hsu:=haveOf_succ b l (m:Int) k;have hcp:=fun (w':World) (hb:Below w.heap.size w w')=>HCOP.out ((m:Int),(k:Int)) w' hb;have HCP:=Hh hcp;generalize ((List.range k).filter fun (g:Nat)=>decide (0 < copies b l ((m:Int),(g:Int)))).length=hv at hsu hle;generalize copies b l ((m:Int),(k:Int))=cc at hsu HCP;clear hcp;have hwr:IntKind.i64.wrap ((hv:Int)+1)=((hv+1:Nat):Int):=by rw [IntWalk.i64_in _ (by omega)];omega
   have hki:(k:Int) < gn:=by omega
   by_cases hc0:0 < cc
   ·rw [if_pos hc0] at hsu;have HSU:=Hh hsu;clear hsu;go_wp2_with (go_at_call 103;(with_reducible refine (HCP.out _ hbw).mono ?_);rintro e w5 ⟨rfl,hb5⟩);go_roundw
    case rel=>exact ⟨k+1,by omega,by go_num,by first | (rw [HSU.out];done) | (rw [HSU.out];rfl) | (rw [HSU.out];simp),Below.next hW hb5⟩
    case measure=>simp [intOf];omega
   ·rw [if_neg hc0,Nat.add_zero] at hsu;have HSU:=Hh hsu;clear hsu;go_wp2_with (go_at_call 103;(with_reducible refine (HCP.out _ hbw).mono ?_);rintro e w5 ⟨rfl,hb5⟩);go_roundw
    case rel=>exact ⟨k+1,by omega,by go_num,by first | (rw [HSU.out];done) | (rw [HSU.out];rfl) | (rw [HSU.out];simp),Below.next hW hb5⟩
    case measure=>simp [intOf];omega
  ·obtain rfl:k=gn:=by omega
   have HTT:=HT;clear HT;go_wp2;go_ret;exact ⟨by rw [<- HTT.out];rfl,hbw⟩
end
section
variable {b:Bk} {vr vg vm vs vc:Value} {w:World} {la:Option Addr} {ln lc:Nat} {l:List Int}
theorem rRight_0 (hB:BookAt w b vr vg vm vs vc) (hO:BkOk b) (hL:IntsAt w la l) (hln:ln=l.length) (hll:l.length=b.ss.length) (hC:Came b l) (a rb m:Int) (hr:recAl b ⟨0,a,rb,m⟩=0) {t:Bool} (h:rightR b l ⟨0,a,rb,m⟩=t) :
 Calls Tryz.prog 125 #[.agg #[vr,vg,vm,vs,vc],.slice la ln lc,.agg #[.int .i64 0,.int .i64 a,.int .i64 rb,.int .i64 m]] w fun e w'=>e=.returned (.bool t)/\Below w.heap.size w w':=by
 have ha:=(recAl_facts hr).2.1 (by decide);have hb2:=inB_nat.1 ha;obtain ⟨n,rfl⟩:∃ n:Nat,a=n:=⟨a.toNat,by omega⟩;obtain ⟨sa,sc,rfl,hS,hsl⟩:=hB.ss;have hn:n < b.ss.length:=by omega
 have hnl:n < l.length:=by omega
 have hs4:=hO.sl;have hp5:=hO.pl _ (List.getElem_mem hn);obtain ⟨sb,so,rfl,hsb,pa,pc,h0,hpc,hpl,_⟩:=hS n hn;obtain ⟨lb,lo,rfl,hlb,e0⟩:=hL n hnl;have hd:l.getD (n:Int).toNat 0=l[n]:=by rw [Int.toNat_natCast];exact getD_of_lt hnl
 have hgs:((b.ss[(n:Int).toNat]?).elim 0 List.length:Nat)=b.ss[n].length:=by rw [Int.toNat_natCast,List.getElem?_eq_getElem hn];rfl
 simp [rightR] at h;simp at hd hgs
 try rw [hd] at h
 try rw [hgs] at h
 clear hd hgs;generalize l[n]=ck at e0 h;generalize b.ss[n]=s at h0 hpc hpl h hp5;have hln2:(n:Int) < ln:=by omega
 have hsn2:(n:Int) < b.ss.length:=by omega
 have hn0:(0:Int)<=n:=by omega
 have H:=Hh h;clear h hB hO hL hC hS ha hr hln hll hb2 hnl
 go_enter Tryz.func125,Tryz.ntmps125
 go_wp2;go_quiet (fail);go_wp2;go_ret;exact ⟨by rw [<- H.out];first | rfl | simp,bel⟩
theorem rRight_1 (hB:BookAt w b vr vg vm vs vc) (hO:BkOk b) (hL:IntsAt w la l) (hln:ln=l.length) (hll:l.length=b.ss.length) (hC:Came b l) (a rb m:Int) (hr:recAl b ⟨1,a,rb,m⟩=0) {t:Bool} (h:rightR b l ⟨1,a,rb,m⟩=t) :
 Calls Tryz.prog 125 #[.agg #[vr,vg,vm,vs,vc],.slice la ln lc,.agg #[.int .i64 1,.int .i64 a,.int .i64 rb,.int .i64 m]] w fun e w'=>e=.returned (.bool t)/\Below w.heap.size w w':=by
 have ha:=(recAl_facts hr).2.1 (by decide);have hb2:=inB_nat.1 ha;obtain ⟨n,rfl⟩:∃ n:Nat,a=n:=⟨a.toNat,by omega⟩;obtain ⟨sa,sc,rfl,hS,hsl⟩:=hB.ss;have hn:n < b.ss.length:=by omega
 have hnl:n < l.length:=by omega
 have hs4:=hO.sl;have hp5:=hO.pl _ (List.getElem_mem hn);obtain ⟨sb,so,rfl,hsb,pa,pc,h0,hpc,hpl,_⟩:=hS n hn;obtain ⟨lb,lo,rfl,hlb,e0⟩:=hL n hnl;have hd:l.getD (n:Int).toNat 0=l[n]:=by rw [Int.toNat_natCast];exact getD_of_lt hnl
 have hgs:((b.ss[(n:Int).toNat]?).elim 0 List.length:Nat)=b.ss[n].length:=by rw [Int.toNat_natCast,List.getElem?_eq_getElem hn];rfl
 simp [rightR] at h;simp at hd hgs
 try rw [hd] at h
 try rw [hgs] at h
 clear hd hgs;generalize l[n]=ck at e0 h;generalize b.ss[n]=s at h0 hpc hpl h hp5;have hln2:(n:Int) < ln:=by omega
 have hsn2:(n:Int) < b.ss.length:=by omega
 have hn0:(0:Int)<=n:=by omega
 have H:=Hh h;clear h hB hO hL hC hS ha hr hln hll hb2 hnl
 go_enter Tryz.func125,Tryz.ntmps125
 go_wp2;go_quiet (fail);go_wp2;go_ret;exact ⟨by rw [<- H.out];first | rfl | simp,bel⟩
theorem rRight_2 (hB:BookAt w b vr vg vm vs vc) (hO:BkOk b) (hL:IntsAt w la l) (hln:ln=l.length) (hll:l.length=b.ss.length) (hC:Came b l) (a rb m:Int) (hr:recAl b ⟨2,a,rb,m⟩=0) {t:Bool} (h:rightR b l ⟨2,a,rb,m⟩=t) :
 Calls Tryz.prog 125 #[.agg #[vr,vg,vm,vs,vc],.slice la ln lc,.agg #[.int .i64 2,.int .i64 a,.int .i64 rb,.int .i64 m]] w fun e w'=>e=.returned (.bool t)/\Below w.heap.size w w':=by
 have ha:=(recAl_facts hr).2.1 (by decide);have hb2:=inB_nat.1 ha;obtain ⟨n,rfl⟩:∃ n:Nat,a=n:=⟨a.toNat,by omega⟩;obtain ⟨sa,sc,rfl,hS,hsl⟩:=hB.ss;have hn:n < b.ss.length:=by omega
 have hnl:n < l.length:=by omega
 have hs4:=hO.sl;have hp5:=hO.pl _ (List.getElem_mem hn);obtain ⟨sb,so,rfl,hsb,pa,pc,h0,hpc,hpl,_⟩:=hS n hn;obtain ⟨lb,lo,rfl,hlb,e0⟩:=hL n hnl;have hd:l.getD (n:Int).toNat 0=l[n]:=by rw [Int.toNat_natCast];exact getD_of_lt hnl
 have hgs:((b.ss[(n:Int).toNat]?).elim 0 List.length:Nat)=b.ss[n].length:=by rw [Int.toNat_natCast,List.getElem?_eq_getElem hn];rfl
 simp [rightR] at h;simp at hd hgs
 try rw [hd] at h
 try rw [hgs] at h
 clear hd hgs;generalize l[n]=ck at e0 h;generalize b.ss[n]=s at h0 hpc hpl h hp5;have hln2:(n:Int) < ln:=by omega
 have hsn2:(n:Int) < b.ss.length:=by omega
 have hn0:(0:Int)<=n:=by omega
 have H:=Hh h;clear h hB hO hL hC hS ha hr hln hll hb2 hnl
 go_enter Tryz.func125,Tryz.ntmps125
 go_wp2;go_quiet (fail);go_wp2;go_ret;exact ⟨by rw [<- H.out];first | rfl | simp,bel⟩
theorem rRight_3 (hB:BookAt w b vr vg vm vs vc) (hO:BkOk b) (hL:IntsAt w la l) (hln:ln=l.length) (hll:l.length=b.ss.length) (hC:Came b l) (a rb m:Int) (hr:recAl b ⟨3,a,rb,m⟩=0) {t:Bool} (h:rightR b l ⟨3,a,rb,m⟩=t) :
 Calls Tryz.prog 125 #[.agg #[vr,vg,vm,vs,vc],.slice la ln lc,.agg #[.int .i64 3,.int .i64 a,.int .i64 rb,.int .i64 m]] w fun e w'=>e=.returned (.bool t)/\Below w.heap.size w w':=by
 have ha:=(recAl_facts hr).2.1 (by decide);have hb2:=inB_nat.1 ha;obtain ⟨n,rfl⟩:∃ n:Nat,a=n:=⟨a.toNat,by omega⟩;obtain ⟨sa,sc,rfl,hS,hsl⟩:=hB.ss;have hn:n < b.ss.length:=by omega
 have hnl:n < l.length:=by omega
 have hs4:=hO.sl;have hp5:=hO.pl _ (List.getElem_mem hn);obtain ⟨sb,so,rfl,hsb,pa,pc,h0,hpc,hpl,_⟩:=hS n hn;obtain ⟨lb,lo,rfl,hlb,e0⟩:=hL n hnl;have hd:l.getD (n:Int).toNat 0=l[n]:=by rw [Int.toNat_natCast];exact getD_of_lt hnl
 have hgs:((b.ss[(n:Int).toNat]?).elim 0 List.length:Nat)=b.ss[n].length:=by rw [Int.toNat_natCast,List.getElem?_eq_getElem hn];rfl
 simp [rightR] at h;simp at hd hgs
 try rw [hd] at h
 try rw [hgs] at h
 clear hd hgs;generalize l[n]=ck at e0 h;generalize b.ss[n]=s at h0 hpc hpl h hp5;have hln2:(n:Int) < ln:=by omega
 have hsn2:(n:Int) < b.ss.length:=by omega
 have hn0:(0:Int)<=n:=by omega
 have H:=Hh h;clear h hB hO hL hC hS ha hr hln hll hb2 hnl
 go_enter Tryz.func125,Tryz.ntmps125
 go_wp2;go_quiet (fail);go_wp2;go_ret;exact ⟨by rw [<- H.out];first | rfl | simp,bel⟩
theorem rRight_4 (hB:BookAt w b vr vg vm vs vc) (hO:BkOk b) (hL:IntsAt w la l) (hln:ln=l.length) (hll:l.length=b.ss.length) (hC:Came b l) (a rb m:Int) (hr:recAl b ⟨4,a,rb,m⟩=0) {t:Bool} (h:rightR b l ⟨4,a,rb,m⟩=t) :
 Calls Tryz.prog 125 #[.agg #[vr,vg,vm,vs,vc],.slice la ln lc,.agg #[.int .i64 4,.int .i64 a,.int .i64 rb,.int .i64 m]] w fun e w'=>e=.returned (.bool t)/\Below w.heap.size w w':=by
 have hcop:=fun (w':World) (hb:Below w.heap.size w w')=>rCopies_at (lc:=lc) (hB.below hb) hO (hL.below hb) hln hll hC (a,rb) rfl;simp [rightR] at h;generalize copies b l (a,rb)=cc at hcop h;have HCOP:=Hh hcop;have H:=Hh h;clear hcop h hB hO hL hC hr hln hll
 go_enter Tryz.func125,Tryz.ntmps125
 go_wp2
 (refine wp_region_bel (by kernel_rfl) (by kernel_rfl) ?_;(repeat (go_big_quiet_step ((go_at_call 103;with_reducible exact Calls.bel_of (HCOP.out _ (Below.next (Below.al (Below.al (Below.refl _ _) _) _) (later_below _ _)))))));refine wpQuiet_nil ?_;rintro _ ⟨xq,rfl⟩)
 go_wp2;go_ret;exact ⟨by rw [<- H.out];first | rfl | simp,Below.next (Below.al (Below.al (Below.refl _ _) _) _) (later_below _ _)⟩
theorem rRight_5 (hB:BookAt w b vr vg vm vs vc) (hO:BkOk b) (hL:IntsAt w la l) (hln:ln=l.length) (hll:l.length=b.ss.length) (hC:Came b l) (a rb m:Int) (hr:recAl b ⟨5,a,rb,m⟩=0) {t:Bool} (h:rightR b l ⟨5,a,rb,m⟩=t) :
 Calls Tryz.prog 125 #[.agg #[vr,vg,vm,vs,vc],.slice la ln lc,.agg #[.int .i64 5,.int .i64 a,.int .i64 rb,.int .i64 m]] w fun e w'=>e=.returned (.bool t)/\Below w.heap.size w w':=by
 have ha:=(recAl_facts hr).2.2.2 rfl;have hb2:=inB_nat.1 ha;have hcop:=fun (w':World) (hb:Below w.heap.size w w')=>rHave_at (lc:=lc) (hB.below hb) hO (hL.below hb) hln hll hC (m:=a) (by omega) rfl;simp [rightR] at h;generalize haveOf b l a=cc at hcop h;have HCOP:=Hh hcop;have H:=Hh h;clear hcop h hB hO hL hC hr hln hll ha hb2
 go_enter Tryz.func125,Tryz.ntmps125
 go_wp2
 (refine wp_region_bel (by kernel_rfl) (by kernel_rfl) ?_;(repeat (go_big_quiet_step ((go_at_call 133;with_reducible exact Calls.bel_of (HCOP.out _ (Below.next (Below.al (Below.al (Below.refl _ _) _) _) (later_below _ _)))))));refine wpQuiet_nil ?_;rintro _ ⟨xq,rfl⟩)
 go_wp2;go_ret;exact ⟨by rw [<- H.out];first | rfl | simp,Below.next (Below.al (Below.al (Below.refl _ _) _) _) (later_below _ _)⟩
theorem rRight_at (hB:BookAt w b vr vg vm vs vc) (hO:BkOk b) (hL:IntsAt w la l) (hln:ln=l.length) (hll:l.length=b.ss.length) (hC:Came b l) (r:Rec) (hr:recAl b r=0) {t:Bool} (h:rightR b l r=t) :
 Calls Tryz.prog 125 #[.agg #[vr,vg,vm,vs,vc],.slice la ln lc,.agg #[.int .i64 r.k,.int .i64 r.a,.int .i64 r.b,.int .i64 r.m]] w fun e w'=>e=.returned (.bool t)/\Below w.heap.size w w':=by
 obtain ⟨k,a,rb,m⟩:=r;have:=(recAl_facts hr).1;have:k=0\/k=1\/k=2\/k=3\/k=4\/k=5:=by omega
 rcases this with rfl | rfl | rfl | rfl | rfl | rfl
 ·exact rRight_0 hB hO hL hln hll hC a rb m hr h
 ·exact rRight_1 hB hO hL hln hll hC a rb m hr h
 ·exact rRight_2 hB hO hL hln hll hC a rb m hr h
 ·exact rRight_3 hB hO hL hln hll hC a rb m hr h
 ·exact rRight_4 hB hO hL hln hll hC a rb m hr h
 ·exact rRight_5 hB hO hL hln hll hC a rb m hr h
theorem rRightAll_at (hB:BookAt w b vr vg vm vs vc) (hO:BkOk b) (hL:IntsAt w la l) (hln:ln=l.length) (hll:l.length=b.ss.length) (hC:Came b l) (hr:∀ r∈b.rs,recAl b r=0) {t:Bool} (ht:right b l=t) :
 Calls Tryz.prog 104 #[.agg #[vr,vg,vm,vs,vc],.slice la ln lc] w fun e w'=>e=.returned (.bool t)/\Below w.heap.size w w':=by
 have hone:=fun (r:Rec) (hm:r∈b.rs) (w':World) (hb:Below w.heap.size w w') (t:Bool) (ht:rightR b l r=t)=>rRight_at (lc:=lc) (hB.below hb) hO (hL.below hb) hln hll hC r (hr r hm) ht;obtain ⟨ra,rc,rfl,hR,hrl⟩:=hB.rs;have HONE:=Hh hone;have HR:=Hh hR;have HT:=Hh ht;clear hone hB hO hL hln hll hC hr hR ht
 go_enter Tryz.func104,Tryz.ntmps104
 go_wp2;obtain ⟨W0,hW0⟩:∃ W0,W0=w.alloc (.cells #[vr,vg,vm,vs,.slice ra b.rs.length rc] 26):=⟨_,rfl⟩;rw [<- hW0];have hb0:Below w.heap.size w W0:=by rw [hW0];(exact bel)
 have nn:∀ k u,(#[vr,vg,vm,vs,.slice ra b.rs.length rc]:Array Value)[k]? = some u->W0.cell? ⟨w.heap.size,k,none⟩=some u:=fun k u hk=>by
  rw [hW0,World.cell?_alloc_at _ _ _ _ rfl];exact hk
 have n0:=nn 0 _ rfl;have n1:=nn 1 _ rfl;have n2:=nn 2 _ rfl;have n3:=nn 3 _ rfl;have n4:=nn 4 _ rfl;have hs0:w.heap.size < W0.heap.size:=by rw [hW0];simp
 clear hW0 nn;go_loopw [5] (fun i wr=>∃ (k:Nat),k<=b.rs.length/\i=.int .i64 k/\Hid ((b.rs.drop k).all (rightR b l)=t)/\Below W0.heap.size W0 wr) (fun i _=>b.rs.length - (intOf i).toNat)
 case atStart=>exact ⟨0,Nat.zero_le _,rfl,HT.out,Below.refl _ _⟩
 case round =>
  obtain ⟨k,hk,rfl,hG,hW⟩:=hrel;have hWs:=hW.size;have m0:=(hW.cell (p:=⟨w.heap.size,0,none⟩) hs0).trans n0;have m1:=(hW.cell (p:=⟨w.heap.size,1,none⟩) hs0).trans n1;have m2:=(hW.cell (p:=⟨w.heap.size,2,none⟩) hs0).trans n2;have m3:=(hW.cell (p:=⟨w.heap.size,3,none⟩) hs0).trans n3;have m4:=(hW.cell (p:=⟨w.heap.size,4,none⟩) hs0).trans n4;have hx1:w.heap.size < wr.heap.size:=by omega
  have hbw:=Below.next hb0 hW;have hg0:=hG.out;by_cases hlt:k < b.rs.length
  ·obtain ⟨rb,ro,rfl,hrb,e0,e1,e2,e3⟩:=HR.out k hlt;have e0:=(hbw.cell hrb).trans e0;have e1:=(hbw.cell hrb).trans e1;have e2:=(hbw.cell hrb).trans e2;have e3:=(hbw.cell hrb).trans e3;have hrb2:rb < wr.heap.size:=Nat.lt_of_lt_of_le hrb hbw.size;have hmem:=List.getElem_mem hlt;rw [List.drop_eq_getElem_cons hlt,List.all_cons] at hg0;generalize b.rs[k]=r at e0 e1 e2 e3 hg0 hmem;have hon:=fun (w':World) (hb:Below w.heap.size w w')=>HONE.out r hmem w' hb;obtain ⟨rk,rA,rB,rm⟩:=r;simp only at e0 e1 e2 e3;have HON:=Hh hon;clear hon hmem;cases hra:rightR b l ⟨rk,rA,rB,rm⟩
   ·rw [hra,Bool.false_and] at hg0;subst hg0;have HRA:=Hh hra;clear hra;go_wp2
    (refine wp_region_bel (by kernel_rfl) (by kernel_rfl) ?_;(repeat (go_big_quiet_step ((go_at_call 125;with_reducible exact Calls.bel_of (HON.out _ (Below.next hbw (later_below _ _)) _ HRA.out)))));refine wpQuiet_nil ?_;rintro _ ⟨xq,rfl⟩)
    go_wp2;go_ret;exact ⟨rfl,Below.next hbw (later_below _ _)⟩
   ·rw [hra,Bool.true_and] at hg0;have HG0:=Hh hg0;have HRA:=Hh hra;clear hra hg0;go_wp2
    (refine wp_region_bel (by kernel_rfl) (by kernel_rfl) ?_;(repeat (go_big_quiet_step ((go_at_call 125;with_reducible exact Calls.bel_of (HON.out _ (Below.next hbw (later_below _ _)) _ HRA.out)))));refine wpQuiet_nil ?_;rintro _ ⟨xq,rfl⟩)
    go_wp2;go_roundw
    case rel=>exact ⟨k+1,by omega,by go_num,HG0.out,Below.next hW (later_below _ _)⟩
    case measure=>simp [intOf];omega
  ·rw [List.drop_eq_nil_of_le (by omega),List.all_nil] at hg0;subst hg0;go_wp2;go_ret;exact ⟨rfl,hbw⟩
end
namespace Sp
end Sp
section
variable {b:Bk} {vr vg vm vs vc:Value} {w:World} {la:Option Addr} {ln lc:Nat} {l:List Int}
end
theorem add_off (b o j:Nat):Addr.add ⟨b,o,none⟩ j=⟨b,o+j,none⟩:=by unfold Addr.add;split <;> simp_all
section
variable {P:Program}
def Src1 (X:World) (sa:Option Addr) (c:Nat) (news:List Value):Prop:=(sa=none->c=0/\news=[])/\∀ j u,news[j]? = some u->∃ ad,sa=some ad/\X.cell? (ad.add j)=some u
theorem run_app {X:World} {base:Nat} {t ty e:TypeId} {z:Value} {bytes:Nat} (ht:P.underlying t=some (.slice e)) (hi:(P.info? e).map (fun i=>(i.zero,i.size,i.bytes))=some (some z,1,bytes)) (hzs:z.cells.size=1) (hby:bytes<=100)
 {v:Value} {n:Nat} {xs:List Value} (hown:X.ownsRow base e 1 v n xs) {sa:Option Addr} {m c:Nat} {news:List Value} (hl:news.length=m) (hnews:Src1 X sa c news) (h1:∀ u∈news,u.oneCell'=true) (hnm:n+m<=1000000) (hbase:base<=X.heap.size) :
 ∃ a' c' w',(Builtin.append_ #[t,t] ty #[v,.slice sa m c]).run P X=.ok (.slice a' (n+m) c') w'/\w'.ownsRow base e 1 (.slice a' (n+m) c') (n+m) (xs ++ news)/\X.grownBy w' v.ownBlock:=by
 obtain ⟨i,hi,hz,hsz,hb⟩:=info_parts hi;obtain ⟨hn0,hcell⟩:=hnews
 cases sa with
 | some ad =>
  have hbm:(n+m) * bytes<=140737488355328:=by have:=Nat.mul_le_mul hnm hby;omega
  obtain ⟨v',w',hr,h2,h3,_,_⟩:=run_append_own_at (P:=P) X base t ty e i z 1 bytes ht hi hz hsz hb hzs (by decide) v n xs hown ad m c news (by simpa using hl) (fun j u hj=>by
   obtain ⟨ad',e',hc⟩:=hcell j u hj
   cases e'
   exact hc) h1 (by unfold maxLen;omega) hbm hbase
  rcases h2.2 with ⟨h4,h5⟩ | ⟨g,cap,cur,h4,_⟩
  ·subst h4;have hn:n=0/\m=0:=by omega
   obtain ⟨rfl,rfl⟩:=hn;exact ⟨none,0,w',hr,h2,h3⟩
  ·subst h4;exact ⟨_,_,w',hr,h2,h3⟩
 | none =>
  obtain ⟨rfl,rfl⟩:=hn0 rfl;simp only [List.length_nil] at hl;subst hl;have hshape:∃ a' c',v=.slice a' n c'/\n<=c':=by
   rcases hown.2 with ⟨rfl,rfl⟩ | ⟨g,cap,cur,rfl,_,_,h,_⟩
   ·exact ⟨none,0,rfl,Nat.le_refl _⟩
   ·exact ⟨_,_,rfl,h⟩
  obtain ⟨a',c',rfl,hle⟩:=hshape;refine ⟨a',c',X,?_,by simpa using hown,⟨rfl,rfl,rfl,Nat.le_refl _,fun _ _ _=>rfl⟩⟩;exact run_append_nothing (P:=P) X t t ty e i ht hi a' n c' hle (.slice none 0 0) ⟨.inl ⟨e,ht⟩,fun w'=>rfl,rfl,rfl,by simp,by simp⟩
theorem step_app {X W:World} {B:Nat} {ops:Array Oper} {o:Oper} {a:Act} {K:Act->World->Prop} {Q:Exit->Act->World->Prop} {E:Prop} (hgd:o.guard=none) (s x:Operand) (t:TypeId)
 (ho:o.op=.call { callee:=.builtin .append,args:=#[s,x],argTypes:=#[t,t] }) (base:Nat) (e:TypeId) {z:Value} {bytes:Nat} (ht:P.underlying t=some (.slice e)) (hi:(P.info? e).map (fun i=>(i.zero,i.size,i.bytes))=some (some z,1,bytes)) (hzs:z.cells.size=1) (hby:bytes<=100)
 {v:Value} {n:Nat} {xs:List Value} (hs:a.eval s=v) (hown:X.ownsRow base e 1 v n xs) {sa:Option Addr} {m c:Nat} {news:List Value} (hx:a.eval x=.slice sa m c) (hl:news.length=m) (hnews:Src1 X sa c news) (h1:∀ u∈news,u.oneCell'=true)
 {r:Nat} (hr:n+m=r) (hnm:r<=1000000) (hbase:base<=X.heap.size) (hW:Below B W X) (hB:B<=base)
 (h:∀ a' c' w',w'.ownsRow base e 1 (.slice a' r c') r (xs ++ news)->KS (fun k=>v.ownBlock≠some k) X w'->Below B W w'->K (a.put o.dst (.slice a' r c')) w') :
 if Region.wanted o (yielded ops a.tmps)=true then Oper.wp P o a X K Q else E:=by
 subst hr;have hw:Region.wanted o (yielded ops a.tmps)=true:=by simp [Region.wanted,hgd]
 rw [if_pos hw];obtain ⟨a',c',w',hrun,h2,h3⟩:=run_app (P:=P) (ty:=o.type) ht hi hzs hby hown hl hnews h1 hnm hbase;unfold Oper.wp execOp;simp only [ho,resolve,invoke,builtin,Sem.run_bind,Sem.run_pure,Result.andThen_ok,List.map_toArray,List.map_cons,List.map_nil,hs,hx,hrun];exact h a' c' w' h2 (KS.own h3 fun g hg=>by simp [hg]) (hW.trans ((below_own hown h3 hbase).mono hB))
theorem step_appW {X:World} {ops:Array Oper} {o:Oper} {a:Act} {K:Act->World->Prop} {Q:Exit->Act->World->Prop} {E:Prop} (W:World) (hgd:o.guard=none) (s x:Operand) (t:TypeId)
 (ho:o.op=.call { callee:=.builtin .append,args:=#[s,x],argTypes:=#[t,t] }) (e:TypeId) {z:Value} {bytes:Nat} (ht:P.underlying t=some (.slice e)) (hi:(P.info? e).map (fun i=>(i.zero,i.size,i.bytes))=some (some z,1,bytes)) (hzs:z.cells.size=1) (hby:bytes<=100)
 (v:Value) (n:Nat) (xs:List Value) (hs:a.eval s=v) (sa:Option Addr) (m c:Nat) (news:List Value) (hx:a.eval x=.slice sa m c) (hl:news.length=m) (h1:∀ u∈news,u.oneCell'=true)
 (r:Nat) (hr:n+m=r) (hnm:r<=1000000) (hW:Below W.heap.size W X) (hown:X.ownsRow W.heap.size e 1 v n xs) (hnews:Src1 X sa c news)
 (h:∀ a' c' w',w'.ownsRow W.heap.size e 1 (.slice a' r c') r (xs ++ news)->KS (fun k=>v.ownBlock≠some k) X w'->Below W.heap.size W w'->K (a.put o.dst (.slice a' r c')) w') :
 if Region.wanted o (yielded ops a.tmps)=true then Oper.wp P o a X K Q else E :=
 step_app hgd s x t ho _ e ht hi hzs hby hs hown hx hl hnews h1 hr hnm hW.size hW (Nat.le_refl _) h
theorem own_lit {w:World} {base:Nat} {e:TypeId} {n:Nat} (hn:n=w.heap.size) (hb:base<=n):(w.alloc (.cells #[] e)).ownsRow base e 1 (.slice (some ⟨n,0,none⟩) 0 0) 0 []:=by
 subst hn;exact World.ownsRow_lit w #[] 0 hb (by decide) rfl
theorem step_app1K {X:World} {ops:Array Oper} {o:Oper} {a:Act} {K:Act->World->Prop} {Q:Exit->Act->World->Prop} {E:Prop} (hgd:o.guard=none) (s x:Operand) (t:TypeId)
 (ho:o.op=.call { callee:=.builtin .append,args:=#[s,x],argTypes:=#[t,t] }) (base:Nat) (e:TypeId) {z:Value} {k bytes:Nat} (ht:P.underlying t=some (.slice e)) (hi:(P.info? e).map (fun i=>(i.zero,i.size,i.bytes))=some (some z,k,bytes)) (hzs:z.cells.size=k) (hk:0 < k) (hby:bytes<=100)
 (v:Value) (n:Nat) (xs:List Value) (hs:a.eval s=v) (nb:Nat) (news:List Value) (hx:a.eval x=.slice (some ⟨nb,0,none⟩) 1 1) (hl:news.length=k) (h1:∀ u∈news,u.oneCell'=true)
 (r:Nat) (hr:n+1=r) (hnm:r<=1000000) (hbase:base<=X.heap.size) (hown:X.ownsRow base e k v n xs) (hnews:Src1 X (some ⟨nb,0,none⟩) 1 news)
 (h:∀ a' c' w',w'.ownsRow base e k (.slice a' r c') r (xs ++ news)->KS (fun k=>v.ownBlock≠some k) X w'->K (a.put o.dst (.slice a' r c')) w') :
 if Region.wanted o (yielded ops a.tmps)=true then Oper.wp P o a X K Q else E:=by
 subst hr;obtain ⟨i,hi,hz,hsz,hb⟩:=info_parts hi;have hbm:(n+1) * bytes<=140737488355328:=by have:=Nat.mul_le_mul hnm hby;omega
 refine step_append_lies (w:=X) hgd s x t ho base e i z k bytes ht hi hz hsz hb hzs hk v n xs hs hown ⟨nb,0,none⟩ 1 1 news hx (by rw [hl,Nat.one_mul]) (fun j u hj=>?_) h1 (by decide) (by unfold maxLen;omega) hbm hbase X.heap.size rfl fun g c w' h2 h3 _ _=>h _ _ w' h2 (KS.own h3 fun g hg=>by simp [hg]);obtain ⟨ad,e',hc⟩:=hnews.2 j u hj;cases e';exact hc
theorem Src1.ks {X Y:World} {sa:Option Addr} {c:Nat} {news:List Value} (h:Src1 X sa c news) {p:Nat->Prop} (hk:KS p X Y) (hp:∀ ad,sa=some ad->ad.block < X.heap.size/\p ad.block):Src1 Y sa c news :=
 ⟨h.1,fun j u hj=>by
   obtain ⟨ad,e,hc⟩:=h.2 j u hj
   obtain ⟨h1,h2⟩:=hp ad e
   have hb:(Addr.add ad j).block=ad.block:=by unfold Addr.add;split <;> rfl
   exact ⟨ad,e,(hk.cell (x:=ad.add j) (by rw [hb];exact h1) (by rw [hb];exact h2)).trans hc⟩⟩
end
theorem ints_src {w:World} {a:Option Addr} {c:Nat} {l:List Int} (h:IntsAt w a l) (hz:a=none->c=0):Src1 w a c (l.map (Value.int .i64)):=by
 refine ⟨fun ha=>⟨hz ha,?_⟩,fun j u hj=>?_⟩
 ·cases l with
  | nil=>rfl
  | cons x l =>
   obtain ⟨b,o,e,_⟩:=h 0 (by simp);rw [ha] at e;cases e
 ·rw [List.getElem?_map] at hj;obtain ⟨x,hx,rfl⟩:=Option.map_eq_some_iff.1 hj;obtain ⟨hjl,rfl⟩:=List.getElem?_eq_some_iff.1 hx;obtain ⟨b,o,rfl,_,hc⟩:=h j hjl;refine ⟨_,rfl,?_⟩;have:Addr.add ⟨b,o,none⟩ j=⟨b,o+j,none⟩:=by unfold Addr.add;split <;> simp_all
  rw [this];exact hc
theorem src_new (w:World) (cs:List Value) (t:TypeId) {n:Nat} (hn:n=w.heap.size) (c:Nat):Src1 (w.alloc (.cells cs.toArray t)) (some ⟨n,0,none⟩) c cs:=by
 subst hn;exact ⟨fun h=>(by cases h),fun j u hj=>⟨_,rfl,cells_new w cs t j u hj⟩⟩
def IntsV (w:World) (v:Value) (l:List Int):Prop:=w.ownsRow 0 3 1 v l.length (l.map (Value.int .i64))
def ListsV (w:World) (vs:List Value) (ls:List (List Int)):Prop:=vs.length=ls.length/\∀ (i:Nat) (v:Value) (l:List Int),vs[i]? = some v->ls[i]? = some l->IntsV w v l
def ListsAt (w:World) (a:Option Addr) (ls:List (List Int)):Prop:=∀ i (h:i < ls.length),∃ b o,a=some ⟨b,o,none⟩/\b < w.heap.size/\∃ v,w.cell? ⟨b,o+i,none⟩=some v/\IntsV w v ls[i]
section
variable {w w':World}
theorem IntsV.form {v:Value} {l:List Int} (h:IntsV w v l):∃ a c,v=.slice a l.length c/\IntsAt w a l/\(a=none->c=0)/\l.length<=c:=by
 rcases id h with ⟨hl,⟨rfl,h2⟩ | ⟨g,cap,cur,rfl,_,_,hle,_⟩⟩
 ·refine ⟨none,0,by rw [h2],fun i hi=>by omega,fun _=>rfl,by omega⟩
 ·exact ⟨_,_,rfl,ints_of_row h,fun h=>(by cases h),hle⟩
theorem IntsV.of {base n c:Nat} {a:Option Addr} {l:List Int} (h:w.ownsRow base 3 1 (.slice a n c) n (l.map (Value.int .i64))):IntsV w (.slice a n c) l:=by
 have hn:n=l.length:=by have:=h.1;simp at this;omega
 subst hn;exact h.mono (Nat.zero_le _)
theorem IntsV.nil (w:World):IntsV w (.slice none 0 0) []:=World.ownsRow_nil w 0 3 1
theorem IntsV.below {v:Value} {l:List Int} (h:IntsV w v l) (hb:Below w.heap.size w w'):IntsV w' v l:=ownsRow_below h hb
theorem row_keep' {p:Nat->Prop} {A B:World} {base e size n:Nat} {v:Value} {xs:List Value} (h:A.ownsRow base e size v n xs) (hk:KS p A B) (hp:∀ g,v.ownBlock=some g->p g):B.ownsRow base e size v n xs:=by
 obtain ⟨h1,h2 | ⟨g,cap,cur,rfl,e2,e3,e4⟩⟩:=h
 ·exact ⟨h1,.inl h2⟩
 ·exact ⟨h1,.inr ⟨g,cap,cur,rfl,e2,(hk.block g (Array.getElem?_eq_some_iff.1 e3).1 (hp g rfl)).trans e3,e4⟩⟩
theorem rows_apart' {A:World} {b1 e1 s1 n1 b2 e2 s2 n2:Nat} {v1 v2:Value} {x1 x2:List Value} (h1:A.ownsRow b1 e1 s1 v1 n1 x1) (h2:A.ownsRow b2 e2 s2 v2 n2 x2) (he:e1≠e2):∀ g,v1.ownBlock=some g->v2.ownBlock≠some g:=fun g hg hg2=>by
 obtain ⟨_,⟨rfl,_⟩ | ⟨g1,c1,cur1,rfl,_,e3,_⟩⟩:=h1
 ·cases hg
 ·obtain ⟨_,⟨rfl,_⟩ | ⟨g2,c2,cur2,rfl,_,f3,_⟩⟩:=h2
  ·cases hg2
  ·cases hg;cases hg2;rw [e3] at f3;cases f3;exact he rfl
theorem ListsV.below {vs:List Value} {ls:List (List Int)} (h:ListsV w vs ls) (hb:Below w.heap.size w w'):ListsV w' vs ls:=⟨h.1,fun i v l h1 h2=>(h.2 i v l h1 h2).below hb⟩
theorem ListsV.keep {vs:List Value} {ls:List (List Int)} (h:ListsV w vs ls) {base e size n:Nat} {v:Value} {xs:List Value} (hrow:w.ownsRow base e size v n xs) (he:3≠e) (hk:KS (fun k=>v.ownBlock≠some k) w w'):ListsV w' vs ls :=
 ⟨h.1,fun i u l h1 h2=>row_keep' (h.2 i u l h1 h2) hk fun g hg=>rows_apart' (h.2 i u l h1 h2) hrow he g hg⟩
theorem ListsV.nil (w:World):ListsV w [] []:=⟨rfl,fun i v l h=>by simp at h⟩
theorem ListsV.append {vs us:List Value} {ls ms:List (List Int)} (h:ListsV w vs ls) (k:ListsV w us ms):ListsV w (vs ++ us) (ls ++ ms):=by
 refine ⟨by rw [List.length_append,List.length_append,h.1,k.1],fun i v l h1 h2=>?_⟩;by_cases hi:i < vs.length
 ·rw [List.getElem?_append_left hi] at h1;rw [List.getElem?_append_left (by rw [<- h.1];exact hi)] at h2;exact h.2 i v l h1 h2
 ·rw [List.getElem?_append_right (by omega)] at h1;rw [List.getElem?_append_right (by rw [<- h.1];omega),<- h.1] at h2;exact k.2 _ v l h1 h2
theorem ListsV.single {v:Value} {l:List Int} (h:IntsV w v l):ListsV w [v] [l]:=⟨rfl,fun i u m h1 h2=>by
 cases i with
 | zero=>simp only [List.getElem?_cons_zero,Option.some.injEq] at h1 h2;rw [<- h1,<- h2];exact h
 | succ i=>simp at h1⟩
theorem ListsV.one {vs:List Value} {ls:List (List Int)} (h:ListsV w vs ls):∀ u∈vs,u.oneCell'=true:=fun u hu=>by
 obtain ⟨i,hi,rfl⟩:=List.mem_iff_getElem.1 hu;obtain ⟨a,c,e,_⟩:=(h.2 i vs[i] (ls[i]'(by rw [<- h.1];exact hi)) (List.getElem?_eq_getElem hi) (List.getElem?_eq_getElem _)).form;rw [e];rfl
theorem lists_of_row {base e n c:Nat} {a:Option Addr} {vs:List Value} {ls:List (List Int)} (h:w.ownsRow base e 1 (.slice a n c) n vs) (k:ListsV w vs ls):ListsAt w a ls:=fun i hi=>by
 have hv:i < vs.length:=by rw [k.1];exact hi
 obtain ⟨g,rfl,_,h2,h3⟩:=row_cell h i hv;exact ⟨g,0,rfl,h2,vs[i],by rw [Nat.zero_add,h3,List.getElem?_eq_getElem hv],k.2 i _ _ (List.getElem?_eq_getElem hv) (List.getElem?_eq_getElem hi)⟩
theorem ListsAt.below {a:Option Addr} {ls:List (List Int)} (h:ListsAt w a ls) (hb:Below w.heap.size w w'):ListsAt w' a ls:=fun i hi=>by
 obtain ⟨b,o,e,hlt,v,hc,hv⟩:=h i hi;exact ⟨b,o,e,Nat.lt_of_lt_of_le hlt hb.size,v,(hb.cell hlt).trans hc,hv.below hb⟩
theorem src_row {base e n c:Nat} {a:Option Addr} {vs:List Value} (h:w.ownsRow base e 1 (.slice a n c) n vs):Src1 w a c vs:=by
 obtain ⟨hl,⟨h1,h2⟩ | ⟨g,cap,cur,h1,_⟩⟩:=id h
 ·cases h1;have hv:vs=[]:=List.length_eq_zero_iff.1 (by rw [hl]);subst hv;exact ⟨fun _=>⟨rfl,rfl⟩,fun j u hj=>by simp at hj⟩
 ·cases h1;exact ⟨fun h=>(by cases h),fun j u hj=>⟨_,rfl,h.cells (g:=g) rfl j u hj⟩⟩
end
theorem listInfo:(Tryz.prog.info? 27).map (fun i=>(i.zero,i.size,i.bytes))=some (some (.slice none 0 0),1,24):=by kernel_rfl
def PastsOut (W:World) (ls:List (List Int)) (e:Ending) (W':World):Prop:=∃ a c vs,e=.returned (.slice a ls.length c)/\W'.ownsRow W.heap.size 27 1 (.slice a ls.length c) ls.length vs/\ListsV W' vs ls/\Below W.heap.size W W'
def PreIn (ss:List (List Prt)) (pre:List Int):Prop:=∀ i (h:i < pre.length),0<=pre[i]/\∃ h2:i < ss.length,pre[i]<=(ss[i].length:Int)
theorem came_pre {b:Bk} {pre:List Int} (h:PreIn b.ss pre) (hl:pre.length=b.ss.length):Came b pre:=fun i hi=>by
 obtain ⟨h1,h2,h3⟩:=h i (by omega);rw [getD_of_lt (by omega)];exact ⟨h1,h3⟩
theorem fuel_pasts {b:Bk} {n:Nat} {l:List (List Prt)} {pre:List Int} {s:List Prt} (hp:∀ s∈b.ss,s.length<=5) (hl:∀ x∈s::l,x.length<=5) (h4:(s::l).length<=4) (hn:n<=s.length+1):((List.range n).flatMap fun (n:Nat)=>pastsFrom b (pre ++ [(n:Int)]) l).length<=1296:=by
 rw [List.length_flatMap];have h1:∀ (ns:List Nat),(ns.map fun (n:Nat)=>(pastsFrom b (pre ++ [(n:Int)]) l).length).sum<=ns.length * 6 ^ l.length:=by
  intro ns
  induction ns with
  | nil=>simp
  | cons n ns ih =>
   have:=pastsFrom_le (b:=b) l (pre ++ [(n:Int)]) (fun s hs=>hl s (List.mem_cons_of_mem _ hs));simp only [List.map_cons,List.sum_cons,List.length_cons,Nat.succ_mul];omega
 have h2:=h1 (List.range n);rw [List.length_range] at h2;have h5:=hl s (List.mem_cons_self ..);have h6:n * 6 ^ l.length<=6 * 6 ^ 3:=Nat.mul_le_mul (by omega) (Nat.pow_le_pow_right (by omega) (by simp at h4;omega));omega
section
variable {b:Bk} {vr vg vm vs vc:Value} {w:World}
theorem rPasts_leaf (hB:BookAt w b vr vg vm vs vc) (hO:BkOk b) (hr:∀ r∈b.rs,recAl b r=0) {pre:List Int} (hl:pre.length=b.ss.length) (hp:PreIn b.ss pre) {la:Option Addr} {lc:Nat} (hL:IntsV w (.slice la pre.length lc) pre) :
 Calls Tryz.prog 84 #[.agg #[vr,vg,vm,vs,vc],.slice la pre.length lc] w (PastsOut w (if right b pre then [pre] else [])):=by
 have hC:=came_pre hp hl;obtain ⟨_,_,e,hI,_⟩:=hL.form;cases e;have HB:=Hh hB;have HO:=Hh hO;have HI:=Hh hI;have HC:=Hh hC;have HRR:=Hh hr;have HL:=Hh hL;have HLEN:=Hh hl;obtain ⟨sa,sc,rfl,_,hsl⟩:=hB.ss;have heq:((pre.length:Int) == (b.ss.length:Int))=true:=by simp;omega
 clear hB hO hI hC hr hL hp;generalize hn:pre.length=n at heq;have HN:=Hh hn;clear hn hl;cases ht:right b pre
 ·have HT:=Hh ht;clear ht
  go_enter Tryz.func84,Tryz.ntmps84
  go_wp2_with (go_at_call 104;(with_reducible refine (rRightAll_at (HB.out.below (bel)) HO.out (HI.out.below (bel)) HN.out.symm HLEN.out HC.out HRR.out HT.out).mono ?_);rintro e w1 ⟨rfl,hb1⟩);go_ret;exact ⟨none,0,[],rfl,World.ownsRow_nil _ _ _ _,ListsV.nil _,bel⟩
 ·have HT:=Hh ht;clear ht
  go_enter Tryz.func84,Tryz.ntmps84
  go_wp2_with (go_at_call 104;(with_reducible refine (rRightAll_at (HB.out.below (bel)) HO.out (HI.out.below (bel)) HN.out.symm HLEN.out HC.out HRR.out HT.out).mono ?_);rintro e w1 ⟨rfl,hb1⟩);go_ret;have hbw:Below w.heap.size w w1:=bel;refine ⟨some ⟨w1.heap.size,0,none⟩,1,[.slice la n lc],rfl,World.ownsRow_lit w1 #[.slice la n lc] 1 hbw.size (by decide) rfl,ListsV.single ?_,bel⟩;rw [<- HN.out];exact (HL.out.below hbw).below (bal _ _)
end
theorem flat_succ (f:Nat->List (List Int)) (k:Nat):(List.range (k+1)).flatMap f=(List.range k).flatMap f ++ f k:=by
 rw [List.range_succ,List.flatMap_append];simp
theorem intsV_pre {w:World} {B n c:Nat} {a:Option Addr} {pre:List Int} {k:Int} (h:w.ownsRow B 3 1 (.slice a n c) n ([] ++ pre.map (Value.int .i64) ++ [.int .i64 k])):IntsV w (.slice a n c) (pre ++ [k]):=IntsV.of (l:=pre ++ [k]) (by simpa using h)
section
variable {b:Bk} {vr vg vm vs vc:Value} {w:World}
theorem rPasts_step (hB:BookAt w b vr vg vm vs vc) (hp5:∀ s∈b.ss,s.length<=5) (h4:b.ss.length<=4) {pre:List Int} {s:List Prt} {l:List (List Prt)} (hs:b.ss.drop pre.length=s::l)
 (hin:∀ n:Nat,n<=s.length->∀ W la lc,Below w.heap.size w W->IntsV W (.slice la (pre.length+1) lc) (pre ++ [(n:Int)])->Calls Tryz.prog 84 #[.agg #[vr,vg,vm,vs,vc],.slice la (pre.length+1) lc] W (PastsOut W (pastsFrom b (pre ++ [(n:Int)]) l)))
 {la:Option Addr} {lc:Nat} (hL:IntsV w (.slice la pre.length lc) pre) :
 Calls Tryz.prog 84 #[.agg #[vr,vg,vm,vs,vc],.slice la pre.length lc] w (PastsOut w ((List.range (s.length+1)).flatMap fun (n:Nat)=>pastsFrom b (pre ++ [(n:Int)]) l)):=by
 have hlt:pre.length < b.ss.length:=by
  apply Classical.byContradiction;intro h;rw [List.drop_eq_nil_of_le (by omega)] at hs;cases hs
 have hsl:(s::l).length<=4:=by rw [<- hs,List.length_drop];omega
 have hall:∀ x∈s::l,x.length<=5:=fun x hx=>hp5 x (List.mem_of_mem_drop (hs ▸ hx));have hfew:=fun n (hn:n<=s.length+1)=>fuel_pasts (b:=b) (pre:=pre) hp5 hall hsl hn;have hsx:b.ss[pre.length]=s:=by
  rw [List.drop_eq_getElem_cons hlt] at hs;exact (List.cons.inj hs).1
 have hs5:s.length<=5:=hall s (List.mem_cons_self ..);obtain ⟨sa,sc,rfl,hS,hsl6⟩:=hB.ss;obtain ⟨sb,so,rfl,hsb,pa,pc,h0,hpc,hpl,hPx⟩:=hS pre.length hlt;clear hPx;rw [hsx] at h0 hpc hpl;obtain ⟨_,_,e,hI,hz,hlc⟩:=hL.form;cases e;have hlat0:∀ ad,la=some ad->ad.block < w.heap.size:=fun ad e=>(ownBlock_row hL ad.block (by rw [e];rfl)).2;have HLAT:=Hh hlat0;clear hlat0;have HB:=Hh hB;have HIN:=Hh hin;have HI:=Hh hI;have HZ:=Hh hz;have HFEW:=Hh hfew;have heq:((pre.length:Int) == (b.ss.length:Int))=false:=by simp;omega
 have hpi:(pre.length:Int) < b.ss.length:=by omega
 have hp0:(0:Int)<=(pre.length:Int):=by omega
 have hp4:pre.length < 4:=by omega
 generalize hflat:(fun (n:Nat)=>pastsFrom b (pre ++ [(n:Int)]) l)=f at hfew;have HF:=Hh hflat;have HIN2:Hid (∀ n:Nat,n<=s.length->∀ W la lc,Below w.heap.size w W->IntsV W (.slice la (pre.length+1) lc) (pre ++ [(n:Int)])->Calls Tryz.prog 84 #[.agg #[vr,vg,vm,.slice (some ⟨sb,so,none⟩) b.ss.length sc,vc],.slice la (pre.length+1) lc] W (PastsOut W (f n))):=by rw [<- hflat];exact hin
 have HFEW2:Hid (∀ n,n<=s.length+1->((List.range n).flatMap f).length<=1296):=hfew;clear hB hp5 hin hI hz hfew hS hs hsx hlt hall hsl hL HIN HFEW hflat;generalize hpn:pre.length=pn at heq hpi hp0 hp4 h0 hlc;have HPN:=Hh hpn;rw [hpn] at HIN2;clear hpn
 go_enter Tryz.func84,Tryz.ntmps84
 go_wp2;obtain ⟨W0,hW0⟩:∃ W0,W0=w.alloc (.cells #[vr,vg,vm,.slice (some ⟨sb,so,none⟩) b.ss.length sc,vc] 26):=⟨_,rfl⟩;rw [<- hW0];have hb0:Below w.heap.size w W0:=by rw [hW0];(exact bel)
 have nn:∀ k u,(#[vr,vg,vm,.slice (some ⟨sb,so,none⟩) b.ss.length sc,vc]:Array Value)[k]? = some u->W0.cell? ⟨w.heap.size,k,none⟩=some u:=fun k u hk=>by
  rw [hW0,World.cell?_alloc_at _ _ _ _ rfl];exact hk
 have hs0:w.heap.size < W0.heap.size:=by rw [hW0];simp
 have hall:∀ w':World,Below W0.heap.size W0 w'->(Below W0.heap.size W0 w'/\w'.cell? ⟨w.heap.size,0,none⟩=some vr/\w'.cell? ⟨w.heap.size,1,none⟩=some vg/\w'.cell? ⟨w.heap.size,2,none⟩=some vm/\w'.cell? ⟨w.heap.size,3,none⟩=some (.slice (some ⟨sb,so,none⟩) b.ss.length sc)/\w'.cell? ⟨w.heap.size,4,none⟩=some vc):=fun w' h =>
  ⟨h,(h.cell (p:=⟨w.heap.size,0,none⟩) hs0).trans (nn 0 _ rfl),(h.cell (p:=⟨w.heap.size,1,none⟩) hs0).trans (nn 1 _ rfl),(h.cell (p:=⟨w.heap.size,2,none⟩) hs0).trans (nn 2 _ rfl),(h.cell (p:=⟨w.heap.size,3,none⟩) hs0).trans (nn 3 _ rfl),(h.cell (p:=⟨w.heap.size,4,none⟩) hs0).trans (nn 4 _ rfl)⟩
 have HALL:=Hh hall;clear hW0 nn hall;go_loopw [5,6] (fun v i wr=>∃ (k:Nat) (a:Option Addr) (c:Nat) (vs:List Value),k<=s.length+1/\i=.int .i64 k/\v=.slice a ((List.range k).flatMap f).length c/\wr.ownsRow W0.heap.size 27 1 (.slice a ((List.range k).flatMap f).length c) ((List.range k).flatMap f).length vs/\ListsV wr vs ((List.range k).flatMap f)/\Below W0.heap.size W0 wr) (fun _ i _=>s.length+1 - (intOf i).toNat)
 case atStart=>exact ⟨0,none,0,[],Nat.zero_le _,rfl,rfl,World.ownsRow_nil _ _ _ _,ListsV.nil _,Below.refl _ _⟩
 case round =>
  obtain ⟨k,a,c,vs,hk,rfl,rfl,hrow,hlv,hW⟩:=hrel;have hWs:=hW.size;obtain ⟨_,m0,m1,m2,m3,m4⟩:=HALL.out _ hW;have hbw:=Below.next hb0 hW;have hx1:w.heap.size < wr.heap.size:=by omega
  have g0:=(hbw.cell hsb).trans h0;have hsb2:sb < wr.heap.size:=Nat.lt_of_lt_of_le hsb hbw.size;have HROW:=Hh hrow;have HLV:=Hh hlv;by_cases hlt:k<=s.length
  ·have hfl:=flat_succ f k;have hf1:=HFEW2.out (k+1) (by omega);rw [hfl,List.length_append] at hf1;have HFL:=Hh hfl;clear hrow hlv hfl;have hcall:=HIN2.out k hlt;have HCALL:=Hh hcall;have hsrc:Src1 wr la lc (pre.map (Value.int .i64)):=(ints_src (HI.out.below hbw) HZ.out);have HSRC:=Hh hsrc;have HBW:=Hh hbw;have HLEN:=Hh (show (pre.map (Value.int .i64)).length=pn by rw [List.length_map];exact HPN.out);have HONE:=Hh (show ∀ u∈pre.map (Value.int .i64),u.oneCell'=true from fun u hu=>by obtain ⟨x,_,rfl⟩:=List.mem_map.1 hu;rfl);have HLT:=Hh (show ∀ ad,la=some ad->ad.block < wr.heap.size from fun ad e=>Nat.lt_of_lt_of_le (HLAT.out ad e) hbw.size);clear hcall hsrc;generalize hout:(List.range k).flatMap f=out at hf1 HROW HLV HFL;generalize hnew:f k=new at hf1 HFL HCALL;have HO1:=Hh hout;have HNW:=Hh hnew;clear hout hnew;go_wp2;go_region_held3 (fun w'=>Below W0.heap.size W0 w'/\w'.cell? ⟨w.heap.size,0,none⟩=some vr/\w'.cell? ⟨w.heap.size,1,none⟩=some vg/\w'.cell? ⟨w.heap.size,2,none⟩=some vm/\w'.cell? ⟨w.heap.size,3,none⟩=some (.slice (some ⟨sb,so,none⟩) b.ss.length sc)/\w'.cell? ⟨w.heap.size,4,none⟩=some vc)
    ((go_split_ands;exact HALL.out _ (bel)))
    (first
      | (refine step_appW wr rfl _ _ 27 rfl 3 Tryz.underlying27 intInfo rfl (by omega) (.slice (some ⟨wr.heap.size,0,none⟩) 0 0) 0 [] rfl la pn lc (pre.map (Value.int .i64)) rfl HLEN.out HONE.out pn (by omega) (by omega) ?_ ?_ ?_ ?_;(focus ((exact bel)));exact own_lit rfl (Nat.le_refl _);exact (HSRC.out).ks (KS.all (show Below wr.heap.size wr _ from bel) (fun _=>True)) (fun ad e=>⟨HLT.out ad e,trivial⟩);intro a2 c2 w2 hown2 hks2 hbw2)
      | (refine step_appW wr rfl _ _ 27 rfl 3 Tryz.underlying27 intInfo rfl (by omega) (.slice (some ⟨wr.heap.size,0,none⟩) 0 0) 0 [] rfl la pn lc (pre.map (Value.int .i64)) rfl HLEN.out HONE.out pn (by omega) (by omega) ?_ ?_ ?_ ?_;(focus ((exact bel)));exact (own_lit (w:=wr.drew) rfl (Nat.le_refl _)).alloc _;exact (HSRC.out).ks (KS.all (show Below wr.heap.size wr _ from bel) (fun _=>True)) (fun ad e=>⟨HLT.out ad e,trivial⟩);intro a2 c2 w2 hown2 hks2 hbw2;have hsrc2:Src1 w2 (some ⟨wr.heap.size+1,0,none⟩) 1 [.int .i64 k]:=(src_new (wr.drew.alloc (.cells #[] 3)) [.int .i64 k] 3 (n:=wr.heap.size+1) (by simp) 1).ks hks2 (fun ad e=>by cases e;exact ⟨by simp,by simp [Value.ownBlock]⟩))
      | (refine step_appW wr rfl _ _ 27 rfl 3 Tryz.underlying27 intInfo rfl (by omega) (.slice (some ⟨wr.heap.size+1,0,none⟩) 0 0) 0 [] rfl la pn lc (pre.map (Value.int .i64)) rfl HLEN.out HONE.out pn (by omega) (by omega) ?_ ?_ ?_ ?_;(focus ((exact bel)));exact own_lit (by simp) (by omega);exact (HSRC.out).ks (KS.all (show Below wr.heap.size wr _ from bel) (fun _=>True)) (fun ad e=>⟨HLT.out ad e,trivial⟩);intro a2 c2 w2 hown2 hks2 hbw2;have hsrc2:Src1 w2 (some ⟨wr.heap.size,0,none⟩) 1 [.int .i64 k]:=((src_new wr.drew [.int .i64 k] 3 (n:=wr.heap.size) rfl 1).ks (KS.alloc (fun _=>True) _ (.cells #[] 3)) (fun ad e=>by cases e;exact ⟨by simp,trivial⟩)).ks hks2 (fun ad e=>by cases e;exact ⟨by simp;omega,by simp [Value.ownBlock]⟩))
      | (refine step_appW wr rfl _ _ 27 rfl 3 Tryz.underlying27 intInfo rfl (by omega) (.slice a2 pn c2) pn ([] ++ pre.map (Value.int .i64)) rfl (some ⟨w2.heap.size,0,none⟩) 1 1 [.int .i64 k] rfl rfl (by simp [Value.oneCell']) (pn+1) rfl (by omega) ?_ ?_ ?_ ?_;(focus ((exact bel)));exact hown2.alloc _;exact src_new w2 [.int .i64 k] 3 rfl 1;intro a4 c4 w4 hown4 hks4 hbw4)
      | (refine step_appW wr rfl _ _ 27 rfl 3 Tryz.underlying27 intInfo rfl (by omega) (.slice a2 pn c2) pn ([] ++ pre.map (Value.int .i64)) rfl (some ⟨wr.heap.size+1,0,none⟩) 1 1 [.int .i64 k] rfl rfl (by simp [Value.oneCell']) (pn+1) rfl (by omega) ?_ ?_ ?_ ?_;(focus ((exact bel)));exact hown2;exact hsrc2;intro a4 c4 w4 hown4 hks4 hbw4)
      | (refine step_appW wr rfl _ _ 27 rfl 3 Tryz.underlying27 intInfo rfl (by omega) (.slice a2 pn c2) pn ([] ++ pre.map (Value.int .i64)) rfl (some ⟨wr.heap.size,0,none⟩) 1 1 [.int .i64 k] rfl rfl (by simp [Value.oneCell']) (pn+1) rfl (by omega) ?_ ?_ ?_ ?_;(focus ((exact bel)));exact hown2;exact hsrc2;intro a4 c4 w4 hown4 hks4 hbw4)
      | (go_at_call 84;go_split_ands;(with_reducible refine (HCALL.out w4 a4 c4 (Below.next hbw hbw4) (intsV_pre hown4)).mono ?_);rintro e w5 ⟨a5,c5,vs5,rfl,hrow5,hl5,hb5⟩;have hbr5:Below wr.heap.size wr w5:=Below.next hbw4 hb5;have hown5:=ownsRow_below HROW.out hbr5)
      | (refine step_appW W0 rfl _ _ 92 rfl 27 Tryz.underlying92 listInfo rfl (by omega) (.slice a out.length c) out.length vs rfl a5 new.length c5 vs5 rfl hl5.1 hl5.one (out.length+new.length) rfl (by omega) ?_ ?_ ?_ ?_;exact Below.next hW hbr5;exact hown5;exact src_row hrow5;intro a6 c6 w6 hown6 hks6 hbw6))
   all_goals
    have hl6:=((HLV.out.below hbr5).append hl5).keep hown5 (by decide) hks6;rw [<- HFL.out] at hl6;have hlen6:out.length+new.length=((List.range (k+1)).flatMap f).length:=by rw [HFL.out,List.length_append]
    rw [hlen6] at hown6;have HL6:=Hh hl6;have HR6:=Hh hown6;have HE6:=Hh hlen6;have HB6:=Hh hbw6;clear hl6 hown6 hlen6 hks6;go_wp2;go_roundw
    case rel=>exact ⟨k+1,a6,c6,_,by omega,by go_num,by rw [HE6.out],HR6.out,HL6.out,HB6.out⟩
    case measure=>simp [intOf];omega
  ·obtain rfl:k=s.length+1:=by omega
   clear hrow hlv;go_wp2;go_ret;exact ⟨a,c,vs,rfl,ownsRow_base HROW.out (by omega),HLV.out,hbw⟩
end
end Go.Proofs.YtgagoahfdnnpkaaGreatDoor
