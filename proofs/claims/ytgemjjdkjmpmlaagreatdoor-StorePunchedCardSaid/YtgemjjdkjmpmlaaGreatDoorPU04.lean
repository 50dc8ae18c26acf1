/- Leads to StorePunched of chapter 6: PU4 PU5 PU6 PU7 PU8 U14. -/
import Derived.Test.YtgemjjdkjmpmlaaGreatDoorPU03
set_option maxHeartbeats 16000000
set_option maxRecDepth 100000
set_option linter.all false
namespace Go.Proofs.YtgemjjdkjmpmlaaGreatDoor
open Go.RowKit Go.Maps Sp Mt Go.Conc
variable {B O lc nc oc kc ec:Nat} {b:Bk} {u K hd:Int} {fd:Bool} {vr vg vm vs vc x:Value} {w w0:World} {la na oa ka ea:Option Addr} {ks ot o ee:List Int} {l:List Prt} {d:Nat→Value}
def PuRel (b:Bk) (l:List Prt) (ot o:List Int) (fd:Bool) (vr vg vm:Value) (O:Nat) (w:World) (hv fv lv kv:Value) (wr:World):Prop:=∃ (k:Nat) (fe:Bool) (hd:Int) (vs' vc':Value),k≤o.length∧kv=.int .i64 k∧lv=.int .i64 (endAt b.gap 0 o k)∧fv=.bool fe∧hv=.int .i64 hd∧(0≤hd∧hd≤5 * (k:Int))∧(fe=true→fd=true∧hd=heldTo ot l k∧BookAt wr (punB b (punL ot l k)) vr vg vm vs' vc'∧∀ j < k,(punchI ot (j:Int) l).length≤5)∧Five wr O vr vg vm vs' vc'∧Hid (∀ i,wr.frozen? ⟨O,i,none⟩=false)∧Old w wr
def UZD (B:Nat) (b:Bk) (vr vg vm:Value) (la:Option Addr) (lc:Nat) (l:List Prt) (ot o:List Int) (O:Nat) (fd:Bool) (w:World) (a':Act) (w2:World):Prop:=∃ hd fe vs' vc',(∃ d,a'=uD B la l.length lc O hd fe d)∧Old w w2∧Five w2 O vr vg vm vs' vc'∧(fe=true→fd=true∧hd=heldTo ot l o.length∧BookAt w2 (punB b (punL ot l o.length)) vr vg vm vs' vc'∧∀ j < o.length,(punchI ot (j:Int) l).length≤5)
theorem pu_L {wx:World} (hE:PkSt w B b vr vg vm vs vc) (hL:PartsAt w la l) (hN:IntsAt w na (loadsI b)) (hO:IntsAt w oa ot) (hEe:IntsAt w ea (endsI b.gap 0 o)) (hS:SmallB b) (hk:bookAl b=0) (hu:openAl b 0=0) (hmi:missI b=l) (hotl:ot.length=b.ms.length) (ho:planOk (loadsI b) ot=some o) (hfd:decide (b.ss.length+o.length≤4∧b.rs.length+o.length≤5)=fd)
 (ho1:Old w wx) (hOe:O=w.heap.size) (five:Five wx O vr vg vm vs vc) (hz:∀ k,wx.frozen? ⟨O,k,none⟩=false) :
 (sql (sqN 12 (Tryz.f6.body.getD .skip))).wp Tryz.prog (NQ fun a' w2=>UZD B b vr vg vm la lc l ot o O fd w a' w2) (uC B la l.length lc na oa ea b.ms.length nc oc o.length ec o.length O fd d) wx:=by
 simp only [pu,sqN,sql,sqr,cnd,blk,lpc,Tryz.f6,Option.getD_some,uC]
 have hlen:(loadsI b).length=ot.length:=by rw [loadsI_len,hotl]
 have hbd:=planOk_bd ho (by have:=hS.1;omega) (fun x hx=>by have:=loadsI_bd hk x hx;omega)
 have hgap:=(nightOk hk).gap
 have hll:l.length≤20:=by rw [← hmi];exact missI_bd hk
 have HSZ:=Hh (fun (k:Nat) (h:k < o.length)=>(show o[k]=((punchI ot (k:Int) l).length:Int) by rw [← hmi];exact pun_size hotl hlen ho k h))
 have hol:=hbd.2
 obtain rfl:vg=.int .i64 b.gap:=hE.bk.gap
 have hwO:w.heap.size≤O:=by omega
 clear hOe
 have HFD:=Hh (fun h:fd=true=>(show b.ss.length+o.length≤4∧b.rs.length+o.length≤5 by rw [h] at hfd;simpa using hfd))
 clear hfd
 have HE:=Hh hE
 have HL:=Hh hL
 have HN:=Hh hN
 have HO:=Hh hO
 have HEE:=Hh hEe
 have HNM:=Hh hS.names
 have HGR:=Hh (bookAl_ok hk).1.groups
 have HLB:=Hh (loadsI_bd hk)
 have HLEN:=Hh hlen
 have HOT:=Hh hotl
 have HOK:=Hh ho
 have hml:b.ms.length≤20:=hS.1
 have HPA:=Hh (plan_asked hu hotl (Int.le_refl 0) (by omega))
 have HMI:=Hh hmi
 have HBD:=Hh (fun k (h:k≤o.length)=>endAt_bd (gap:=b.gap) (now:=0) (tapes:=o) hgap (by omega) hbd.1 k h)
 have HPT:=Hh (show ∀ p∈l,isPart b p=true from fun p hp=>missI_isPart (by rw [hmi];exact hp))
 have HSO:=Hh (show l.Pairwise LexLt by rw [← hmi];exact missI_sorted b)
 have hst:PuRel b l ot o fd vr (.int .i64 b.gap) vm O w (.int .i64 0) (.bool fd) (.int .i64 0) (.int .i64 0) wx:=⟨0,fd,0,vs,vc,Nat.zero_le _,rfl,by rw [endAt_zero],rfl,rfl,⟨Int.le_refl 0,by omega⟩,fun h=>⟨h,rfl,by rw [show punB b (punL ot l 0)=b from punB_nil b];exact (hE.old ho1).bk,fun j hj=>by omega⟩,five,hz,ho1⟩
 have HST:=Hh hst
 clear hE hL hN hO hEe hS hk hu hmi hotl ho hlen hbd hst five hz ho1
 go_wp2
 go_loopw [12,13,14,15] (fun hv fv lv kv wr=>PuRel b l ot o fd vr (.int .i64 b.gap) vm O w hv fv lv kv wr) (fun _ _ _ i _=>o.length - (intOf i).toNat)
 case atStart=>exact HST.out
 case round =>
  obtain ⟨k,fe,hd,vs',vc',hk9,rfl,rfl,rfl,rfl,⟨hd0,hd1⟩,hfe,hfive,hfz,how⟩:=hrel
  by_cases hlt:k < o.length
  ·have hsz:=HSZ.out k hlt
   have hbk:=HBD.out k hk9
   have hbk1:=HBD.out (k+1) hlt
   have hes:=endAt_succ b.gap 0 o hlt
   rw [hsz] at hes
   have HFE:=Hh hfe
   have HIN:=Hh (show inB (k:Int) 0 ((o.length:Int) - 1)=true by unfold inB;simp;omega)
   have HHE:=Hh (show heldL (ot.zip (loadsI b)) (k:Int)=((punchI ot (k:Int) l).length:Int) by rw [← HMI.out];exact pun_held HOT.out _)
   have HPM:=Hh (fun q (h:q∈punchI ot (k:Int) l)=>punch_mem h)
   have HPL:=Hh (show (punchI ot (k:Int) l).Pairwise LexLt from HSO.out.filter _)
   have hpl:(punchI ot (k:Int) l).length≤l.length:=List.length_filter_le _ _
   have HF:=Hh (fun w' (h:Below wr.heap.size wr w')=>(⟨HE.out.old (how.trans (Old.ofBelow h)),(how.trans (Old.ofBelow h)).parts HL.out,(how.trans (Old.ofBelow h)).ints HN.out,(how.trans (Old.ofBelow h)).ints HO.out⟩:PkSt w' B b vr (.int .i64 b.gap) vm vs vc∧PartsAt w' la l∧IntsAt w' na (loadsI b)∧IntsAt w' oa ot))
   obtain ⟨c0,c1,c2,c3,c4,-,-⟩:=HE.out.old how
   obtain ⟨eb,eo,rfl,heb,e9⟩:=how.ints HEE.out k (by rw [endsI_length];exact hlt)
   have he9:(endsI b.gap 0 o)[k]'(by rw [endsI_length];exact hlt)=endAt b.gap 0 o (k+1):=by unfold endsI endsTo;simp
   rw [he9] at e9
   have hB0:=lt_of_cell c0
   simp only at hB0
   have HOW:=Hh how
   have HFI:=Hh hfive
   have HKP:=Hh (fun w' (h:Below wr.heap.size wr w')=>(⟨hfive.below h hfive.lt,Hh (fun i=>(h.frozen (p:=⟨O,i,none⟩) hfive.lt).trans (hfz.out i)),how.trans (Old.ofBelow h)⟩:Five w' O vr (.int .i64 b.gap) vm vs' vc'∧Hid (∀ i,w'.frozen? ⟨O,i,none⟩=false)∧Old w w'))
   have hOl:=hfive.lt
   clear hsz he9 hfe hfive how
   generalize hpp:punchI ot (k:Int) l=p at hes HHE HPM HPL hpl
   generalize hee:endAt b.gap 0 o (k+1)=ee at hes hbk1 e9
   generalize hef:endAt b.gap 0 o k=ef at hes hbk
   have HPP:=Hh hpp
   have HES:=Hh hes
   have heb2:0≤ee - ef∧ee - ef≤1000:=by omega
   have HEF:=Hh (⟨hee,hef⟩:_∧_)
   have hwk:IntKind.i64.wrap ((k:Int)+1)=(k:Int)+1:=wrapI (by omega) (by omega)
   clear hpp hee hef hes
   by_cases h5:p.length≤5
   ·have HFW:=Hh (show (punchI ot (k:Int) (missI b)).length≤5 by rw [HMI.out,HPP.out];exact h5)
    have HP0:=Hh (show punchI ot (k:Int) (missI b)=p by rw [HMI.out,HPP.out])
    have hd5:decide ((5:Int) < (p.length:Int))=false:=by simp;omega
    go_wp2_with (first
     | (go_at_call 36;(with_reducible refine (punch_row (HF.out _ (bel)).1.bk HNM.out (HF.out _ (bel)).1.kd HOT.out.symm (HF.out _ (bel)).2.2.2 k HPA.out HOK.out HIN.out HFW.out).mono ?_);rintro e w1 ⟨xa,xc,rfl,hx1,hxc,hb1⟩;rw [HP0.out] at hx1 hxc ⊢)
     | (go_at_call 37;(with_reducible refine (held_at (HF.out _ (bel)).2.2.1 (HF.out _ (bel)).2.2.2 (by rw [HLEN.out,HOT.out]) HOT.out.symm HLEN.out (by rw [HOT.out];omega) HLB.out k HHE.out).mono ?_);rintro e w2 ⟨rfl,rfl⟩))
    obtain ⟨W1,hW1⟩:∃ W1,W1=w1.alloc (.cells #[.slice xa p.length xc] 64):=⟨_,rfl⟩
    obtain ⟨X,hX⟩:∃ X,X=w1.heap.size:=⟨_,rfl⟩
    rw [← hW1,← hX]
    have hbW:Below wr.heap.size wr W1:=by rw [hW1];(exact bel)
    have hxW:X < W1.heap.size:=by rw [hW1,hX];simp
    have hxO:O < X:=by rw [hX];exact Nat.lt_of_lt_of_le hOl hb1.size
    have x0:W1.cell? ⟨X,0,none⟩=some (.slice xa p.length xc):=by rw [hW1,hX,World.cell?_alloc_at _ _ _ _ rfl];rfl
    have hx2:PartsAt W1 xa p:=by rw [hW1];exact hx1.below (bel)
    have hall:∀ w':World,Below W1.heap.size W1 w'→(Below W1.heap.size W1 w'∧w'.cell? ⟨B,0,none⟩=some vr∧w'.cell? ⟨B,1,none⟩=some (.int .i64 b.gap)∧w'.cell? ⟨B,2,none⟩=some vm∧w'.cell? ⟨B,3,none⟩=some vs∧w'.cell? ⟨B,4,none⟩=some vc∧w'.cell? ⟨eb,eo+k,none⟩=some (.int .i64 ee)∧w'.cell? ⟨X,0,none⟩=some (.slice xa p.length xc)):=fun w' h=>by
     have h':=Below.next hbW h
     exact ⟨h,(h'.cell (p:=⟨B,0,none⟩) hB0).trans c0,(h'.cell (p:=⟨B,1,none⟩) hB0).trans c1,(h'.cell (p:=⟨B,2,none⟩) hB0).trans c2,(h'.cell (p:=⟨B,3,none⟩) hB0).trans c3,(h'.cell (p:=⟨B,4,none⟩) hB0).trans c4,(h'.cell (p:=⟨eb,eo+k,none⟩) heb).trans e9,(h.cell (p:=⟨X,0,none⟩) hxW).trans x0⟩
    have HALL:=Hh hall
    have HBW:=Hh hbW
    have HX2:=Hh hx2
    have HIP:=Hh (show ∀ q∈p,isPart b q=true from fun q hq=>HPT.out q (HPM.out q hq).1)
    have hsub:IntKind.i64.wrap (ee - ef)=ee - ef:=wrapI (by omega) (by omega)
    have hadd:IntKind.i64.wrap (b.gap+(p.length:Int))=b.gap+(p.length:Int):=wrapI (by omega) (by omega)
    have hneq:((ee - ef) != (b.gap+(p.length:Int)))=false:=by rw [HES.out];simp;omega
    have HXC:=Hh hxc
    clear hW1 hb1 hx1 hx2 hxc e9 c0 c1 c2 c3 c4 hall hbW hX
    go_region_held3 (fun w'=>Below W1.heap.size W1 w'∧w'.cell? ⟨B,0,none⟩=some vr∧w'.cell? ⟨B,1,none⟩=some (.int .i64 b.gap)∧w'.cell? ⟨B,2,none⟩=some vm∧w'.cell? ⟨B,3,none⟩=some vs∧w'.cell? ⟨B,4,none⟩=some vc∧w'.cell? ⟨eb,eo+k,none⟩=some (.int .i64 ee)∧w'.cell? ⟨X,0,none⟩=some (.slice xa p.length xc))
     ((go_split_ands;exact HALL.out _ (bel)))
     (first
       | (go_at_call 18;go_split_ands;(with_reducible refine (ordered_at (HF.out _ (Below.next HBW.out (bel))).1.bk HGR.out (HX2.out.below (bel)) rfl (by omega) HIP.out HPL.out).mono ?_);rintro e w4 ⟨rfl,hb4⟩)
       | fail "no arm")
    all_goals
     have h4:Below W1.heap.size W1 w4:=bel
     obtain ⟨-,d0,d1,d2,d3,d4,d5,d6⟩:=HALL.out _ h4
     clear hb4
     go_wp2
     go_loopw [18] (fun i wi=>∃ j:Nat,j≤p.length∧i=.int .i64 j∧Below W1.heap.size W1 wi) (fun i _=>p.length - (intOf i).toNat)
     case atStart=>exact ⟨0,Nat.zero_le _,rfl,h4⟩
     case round =>
      obtain ⟨j,hj,rfl,hWi⟩:=hrel
      obtain ⟨-,-,-,-,-,-,-,y0⟩:=HALL.out _ hWi
      have hBi:=Below.next HBW.out hWi
      by_cases hjl:j < p.length
      ·obtain ⟨xb,xo,rfl,hxb,g0,g1⟩:=HX2.out.below hWi j hjl
       have hm:=HPM.out p[j] (List.getElem_mem hjl)
       generalize p[j]=q at g0 g1 hm
       obtain ⟨q1,q2⟩:=q
       simp only at g0 g1 hm
       obtain ⟨hq0,hq1,-⟩:=missI_part (b:=b) (p:=(q1,q2)) (by rw [HMI.out];exact hm.1)
       simp only at hq0 hq1
       obtain ⟨qn,rfl⟩:∃ n:Nat,q1=n:=⟨q1.toNat,by omega⟩
       have hqn:qn < ot.length:=by rw [HOT.out];omega
       obtain ⟨pb,po,rfl,hpb,f9⟩:=(HF.out _ hBi).2.2.2 qn hqn
       have f8:=hm.2
       rw [Int.toNat_natCast,List.getD_eq_getElem?_getD,List.getElem?_eq_getElem hqn,Option.getD_some] at f8
       rw [f8] at f9
       have HME:=Hh (show decide (((qn:Int),q2)∈l)=true by simpa using hm.1)
       have HWI:=Hh hWi
       have hxi:X < wr.heap.size:=Nat.lt_of_lt_of_le hxW hWi.size
       clear hm f8
       go_wp2_with (go_at_call 21;(with_reducible refine (hasPart_at (p:=((qn:Int),q2)) (HF.out _ (Below.next HBW.out hWi)).2.1 rfl (by omega) HME.out).mono ?_);rintro e w5 ⟨rfl,hb5⟩;have z0:=(hb5.cell (p:=⟨X,0,none⟩) hxi).trans y0;have z1:=(hb5.cell (p:=⟨xb,xo+j * 2,none⟩) hxb).trans g0;have z2:=(hb5.cell (p:=⟨pb,po+qn,none⟩) hpb).trans f9)
       have hb6:=Hh (Below.next HWI.out hb5)
       clear hb5
       go_roundw
       case rel=>exact ⟨j+1,hjl,by go_num,hb6.out⟩
       case measure=>simp [intOf];omega
      ·obtain rfl:j=p.length:=by omega
       have hwh:IntKind.i64.wrap (hd+(p.length:Int))=hd+(p.length:Int):=wrapI (by omega) (by omega)
       cases fe with
       | false =>
        have hb9:=HKP.out _ hBi
        have H9:=Hh hb9
        clear hb9 hBi
        go_wp2
        go_roundw
        case rel=>exact ⟨k+1,false,hd+(p.length:Int),vs',vc',hlt,by go_num,by rw [HEF.out.1],rfl,rfl,⟨by omega,by omega⟩,(fun h=>by cases h),H9.out.1,H9.out.2.1,H9.out.2.2⟩
        case measure=>simp [intOf];omega
       | true =>
        obtain ⟨hfv,hfz9,how9⟩:=HKP.out _ hBi
        obtain ⟨hfd9,hhd,hbk9,hsm⟩:=HFE.out rfl
        have hlim:=HFD.out hfd9
        have hps:(punB b (punL ot l k)).ss.length=b.ss.length+k:=by simp [punB,punL_len]
        have hpr:(punB b (punL ot l k)).rs.length=b.rs.length+k:=by simp [punB,punL_len]
        have hbk8:=hbk9.below hBi
        obtain ⟨-,-,-,⟨sa,sc,rfl,hss,-⟩,ra,rc,rfl,hrs,-⟩:=hbk8
        obtain ⟨vals,hsv,hsk,h1v⟩:=sess_src hss
        obtain ⟨n,hn⟩:∃ n,n=(punB b (punL ot l k)).ss.length:=⟨_,rfl⟩
        obtain ⟨m,hm⟩:∃ m,m=(punB b (punL ot l k)).rs.length:=⟨_,rfl⟩
        rw [← hn,← hm] at hfv
        have hvl:vals.length=n:=by rw [hsv.1,hn]
        have hnb:n≤10:=by omega
        have hmb:m≤10:=by omega
        have PKA:=Hh (⟨hfv,hfz9.out,how9⟩:_∧_∧_)
        have PKB:=Hh (⟨hsv,hsk,h1v⟩:_∧_∧_)
        have PKC:=Hh (⟨hrs,HX2.out.below hWi,hhd,hsm⟩:_∧_∧_∧_)
        have PKD:=Hh (⟨hn,hm,hvl⟩:_∧_∧_)
        clear hfv hfz9 how9 hbk9 hsm hss hrs hsv hsk h1v hn hm hvl hps hpr hhd hBi
        go_wp2
        refine wp_fr (F:=uS B la l.length lc na oa (some ⟨eb,eo,none⟩) b.ms.length nc oc o.length ec (o.length:Int) O X (hd+(p.length:Int)) ee (k:Int) (p.length:Int) d) (by kernel_rfl) fun e9=>?_
        have h34:=pu_34 (B:=B) (la:=la) (ln:=l.length) (lc:=lc) (na:=na) (oa:=oa) (ea:=some ⟨eb,eo,none⟩) (mn:=b.ms.length) (nc:=nc) (oc:=oc) (en:=o.length) (ec:=ec) (K:=(o.length:Int)) (O:=O) (hd:=hd+(p.length:Int)) (ee:=ee) (kk:=(k:Int)) (pl:=(p.length:Int)) (d:=d) (e:=e9) PKA.out.1.c3 (PKA.out.2.1 3) y0 hxO PKD.out.2.2 hnb PKB.out.2.1 PKB.out.2.2
        simp only [pu,sqN,sql,sqr,cnd,blk,lpc,Tryz.f6,Option.getD_some] at h34
        refine Code.wp_mono (fun e' a' w' h=>?_) h34
        cases e' <;> try exact h.elim
        obtain ⟨⟨e2,rfl⟩,a4,c4,w4',rfl,hbw4,hown4⟩:=h
        obtain ⟨m3,m4,mz,mr⟩:=tape_mid (a4:=a4) (c4:=c4) PKA.out.1 PKA.out.2.1 PKC.out.1 hbw4
        clear h34
        unfold uS
        go_wp2
        refine wp_fr (F:=uS B la l.length lc na oa (some ⟨eb,eo,none⟩) b.ms.length nc oc o.length ec (o.length:Int) O X (hd+(p.length:Int)) ee (k:Int) (p.length:Int) d) (by kernel_rfl) fun e9=>?_
        have h35:=pu_35 (X:=X) (B:=B) (la:=la) (ln:=l.length) (lc:=lc) (na:=na) (oa:=oa) (ea:=some ⟨eb,eo,none⟩) (mn:=b.ms.length) (nc:=nc) (oc:=oc) (en:=o.length) (ec:=ec) (K:=(o.length:Int)) (O:=O) (hd:=hd+(p.length:Int)) (ee:=ee) (kk:=(k:Int)) (pl:=(p.length:Int)) (d:=d) (e:=e9) m3 m4 mz (by rw [recs_len4,← PKD.out.2.1]) hmb hnb mr (recs_one _)
        simp only [pu,sqN,sql,sqr,cnd,blk,lpc,Tryz.f6,Option.getD_some] at h35
        refine Code.wp_mono (fun e' a' w' h=>?_) h35
        cases e' <;> try exact h.elim
        obtain ⟨⟨e3,rfl⟩,a5,c5,w5',rfl,hbw5,hown5⟩:=h
        have hT:=tape_more (HE.out.bk) PKA.out.2.2 hwO PKA.out.1 PKA.out.2.1 PKD.out.1 PKD.out.2.1 hnb hmb PKB.out.1 PKC.out.2.1 HXC.out h5 hbw4 hown4 hbw5 hown5
        have HTT:=Hh hT
        clear hT h35 m3 m4 mz mr hbw4 hown4 hbw5 hown5
        unfold uS
        go_wp2
        go_roundw
        case rel=>exact ⟨k+1,true,hd+(p.length:Int),_,_,hlt,by go_num,by rw [HEF.out.1],rfl,rfl,⟨by omega,by omega⟩,fun _=>⟨hfd9,by rw [heldTo_succ,← PKC.out.2.2.1,HPP.out],by rw [punL_succ,HPP.out];exact HTT.out.2.2.2,fun j hj=>by
         rcases Nat.lt_or_ge j k with h | h
         ·exact PKC.out.2.2.2 j h
         ·obtain rfl:j=k:=by omega
          rw [HPP.out];exact h5⟩,HTT.out.1,HTT.out.2.1,HTT.out.2.2.1⟩
        case measure=>simp [intOf];omega
   ·have HFW:=Hh (show 5 < (punchI ot (k:Int) (missI b)).length by rw [HMI.out,HPP.out];omega)
    have hd5:decide ((5:Int) < (p.length:Int))=true:=by simp;omega
    go_wp2_with (first
     | (go_at_call 36;(with_reducible refine (punch_many (HF.out _ (bel)).1.bk HNM.out (HF.out _ (bel)).1.kd HOT.out.symm (HF.out _ (bel)).2.2.2 k HPA.out HOK.out HIN.out HFW.out).mono ?_);rintro e w1 ⟨rfl,hb1⟩)
     | (go_at_call 37;(with_reducible refine (held_at (HF.out _ (bel)).2.2.1 (HF.out _ (bel)).2.2.2 (by rw [HLEN.out,HOT.out]) HOT.out.symm HLEN.out (by rw [HOT.out];omega) HLB.out k HHE.out).mono ?_);rintro e w2 ⟨rfl,rfl⟩))
    obtain ⟨W1,hW1⟩:∃ W1,W1=w1.alloc (.cells #[.slice none 0 0] 64):=⟨_,rfl⟩
    rw [← hW1]
    have hbW:Below wr.heap.size wr W1:=by rw [hW1];(exact bel)
    have f9:=(hbW.cell (p:=⟨eb,eo+k,none⟩) heb).trans e9
    clear hW1 hb1 e9 c0 c1 c2 c3 c4
    go_region
    all_goals
     have hbX:Below wr.heap.size wr W1.drew:=hbW.drew
     have hb9:=HKP.out _ hbX
     have H9:=Hh hb9
     clear hb9 hbX hbW f9
     go_wp2
     go_roundw
     case rel=>exact ⟨k+1,false,hd,vs',vc',hlt,by go_num,by rw [HEF.out.1],rfl,rfl,⟨hd0,by omega⟩,(fun h=>by cases h),H9.out.1,H9.out.2.1,H9.out.2.2⟩
     case measure=>simp [intOf];omega
  ·obtain rfl:k=o.length:=by omega
   have hR9:=Hh (⟨how,hfive,hfe⟩:_∧_∧_)
   clear how hfive hfe hfz
   go_wp2
   exact ⟨hd,fe,vs',vc',fr_of (by kernel_rfl),hR9.out.1,hR9.out.2.1,hR9.out.2.2⟩
variable {B O lc nc oc kc ec:Nat} {b:Bk} {u K hd:Int} {fd:Bool} {vr vg vm vs vc x:Value} {w w0:World} {la na oa ka ea:Option Addr} {ks ot o ee:List Int} {l:List Prt} {d:Nat→Value}
def uF (B:Nat) (d:Nat→Value):Act:={ tmps:=#[d 0,d 1,d 2,d 3,d 4,d 5,d 6,d 7,d 8,d 9,d 10,d 11,d 12,d 13,d 14,d 15,d 16,d 17,d 18,d 19,d 20,d 21,d 22,d 23,d 24,d 25,d 26,d 27,d 28,d 29,d 30,d 31,d 32,d 33,d 34,d 35,d 36,d 37,d 38,d 39,d 40,d 41,d 42,d 43,d 44,d 45,d 46,d 47,d 48,d 49,d 50,d 51,d 52,d 53,d 54,d 55,d 56,d 57,d 58,d 59,d 60,d 61,d 62,d 63,d 64,d 65,d 66,d 67,d 68,d 69,d 70,d 71,d 72,d 73,d 74,d 75,d 76,d 77,d 78,d 79,d 80,d 81,d 82,d 83,d 84,d 85,d 86,d 87,d 88,d 89,d 90,d 91,d 92,d 93,d 94,d 95,d 96,d 97,d 98,d 99,d 100,d 101,d 102,d 103,d 104,d 105,d 106,d 107,d 108,d 109,d 110,d 111,d 112,d 113,d 114,d 115,d 116,d 117,d 118,d 119,d 120,d 121,d 122,d 123,d 124,d 125,d 126,d 127,d 128,d 129,d 130,d 131,d 132,d 133,d 134,d 135,d 136,d 137,d 138,d 139,d 140,d 141,d 142,d 143,d 144,d 145,d 146,d 147,d 148,d 149,d 150,d 151,d 152,d 153,d 154,d 155,d 156,d 157,d 158,d 159,d 160,d 161,d 162,d 163,d 164,d 165,d 166,d 167,d 168,d 169,d 170,d 171,d 172,d 173,d 174,d 175,d 176,d 177,d 178,d 179,d 180,d 181,d 182,d 183,d 184,d 185,d 186,d 187,d 188,d 189,d 190,d 191,d 192,d 193,d 194,d 195,d 196,d 197,d 198,d 199,d 200,d 201,d 202,d 203,d 204,d 205,d 206,d 207,d 208,d 209,d 210,d 211,d 212,d 213,d 214,d 215,d 216,d 217,d 218,d 219,d 220,d 221,d 222,d 223,d 224,d 225,d 226,d 227,d 228,d 229],defers:=[] }
theorem wps_fr {P:Program} {l:List Code} {Q:Act→World→Prop} {w:World} {F:(Nat→Value)→Act} {a:Act} (h:a=F fun i=>a.tmps.getD i undef) (hw:∀ d,wps P l Q (F d) w):wps P l Q a w:=by
 rw [h]
 exact hw _
def UZE (B:Nat) (b:Bk) (vr vg vm vs vc:Value) (l:List Prt) (ot o:List Int) (fd:Bool) (a':Act) (w2:World):Prop:=∃ la lc O hd fe vs' vc',(∃ d,a'=uD B la l.length lc O hd fe d)∧PkSt w2 B b vr vg vm vs vc∧Five w2 O vr vg vm vs' vc'∧(fe=true→fd=true∧hd=heldTo ot l o.length∧BookAt w2 (punB b (punL ot l o.length)) vr vg vm vs' vc'∧∀ j < o.length,(punchI ot (j:Int) l).length≤5)
theorem pu_D (hE:PkSt w B b vr vg vm vs vc) (hL:PartsAt w la l) (hN:IntsAt w na (loadsI b)) (hO:IntsAt w oa ot) (hEe:IntsAt w ea (endsI b.gap 0 o)) (hS:SmallB b) (hk:bookAl b=0) (hu:openAl b 0=0) (hmi:missI b=l) (hotl:ot.length=b.ms.length) (ho:planOk (loadsI b) ot=some o) (hol:o.length≤100) (hfd:decide (b.ss.length+o.length≤4∧b.rs.length+o.length≤5)=fd) :
 wps Tryz.prog [pu 10,pu 11,pu 12] (fun a' w2=>UZE B b vr vg vm vs vc l ot o fd a' w2∧Old w w2) (uB B la l.length lc na oa ea b.ms.length nc oc o.length ec o.length d) w:=by
 obtain ⟨c0,c1,c2,c3,c4,_,_⟩:=id hE
 have HALL:=Hh (⟨hE,hL,hN,hO,hEe,hS⟩:_∧_∧_∧_∧_∧_)
 have HALK:=Hh (⟨hk,hu,hmi,hotl,ho,hfd⟩:_∧_∧_∧_∧_∧_)
 refine wps_nq ?_
 refine Code.wp_mono (fun e a' w2 h=>?_) (pu_C1 (d:=d) (la:=la) (lc:=lc) (l:=l) (na:=na) (oa:=oa) (ea:=ea) (nc:=nc) (oc:=oc) (ec:=ec) c0 c1 c2 c3 c4 hE.bk hol hfd)
 cases e <;> try exact h.elim
 obtain ⟨⟨d1,rfl⟩,hb1,hf1,hz1⟩:=h
 clear c0 c1 c2 c3 c4
 refine ⟨rfl,fun X1 t1=>?_⟩
 have o1:=Old.twin0 (Old.ofBelow hb1) t1
 obtain ⟨O,hO0⟩:∃ O,O=w.heap.size:=⟨_,rfl⟩
 rw [← hO0] at hf1 hz1 ⊢
 have F1:=Hh (t1.five hf1)
 have Z1:=Hh (show ∀ k,X1.frozen? ⟨O,k,none⟩=false from fun k=>(t1.frozen _).trans (hz1 k))
 have O1:=Hh o1
 have HO0:=Hh hO0
 clear hE hN hL hO hEe hS hk hu hmi hotl ho hfd o1 t1 hb1 hf1 hz1 hO0
 unfold uC1
 refine wps_nq ?_
 obtain ⟨c9,hcc⟩:∃ c,pu 11=c:=⟨_,rfl⟩
 rw [hcc]
 simp only [pu,sqN,sql,sqr,cnd,blk,lpc,Tryz.f6,Option.getD_some] at hcc
 subst hcc
 go_wp2
 refine ⟨rfl,fun X2 t2=>?_⟩
 have O2:=Hh (O1.out.twin0 t2)
 have F2:=Hh (t2.five F1.out)
 have Z2:=Hh (show ∀ k,X2.frozen? ⟨O,k,none⟩=false from fun k=>(t2.frozen _).trans (Z1.out k))
 refine wps_fr (F:=uC B la l.length lc na oa ea b.ms.length nc oc o.length ec o.length O fd) (by kernel_rfl) fun d2=>?_
 refine wps_nq ?_
 refine Code.wp_mono (fun e a' w3 h=>?_) (pu_L (d:=d2) (lc:=lc) (nc:=nc) (oc:=oc) (ec:=ec) HALL.out.1 HALL.out.2.1 HALL.out.2.2.1 HALL.out.2.2.2.1 HALL.out.2.2.2.2.1 HALL.out.2.2.2.2.2 HALK.out.1 HALK.out.2.1 HALK.out.2.2.1 HALK.out.2.2.2.1 HALK.out.2.2.2.2.1 HALK.out.2.2.2.2.2 O2.out HO0.out F2.out Z2.out)
 cases e <;> try exact h.elim
 obtain ⟨hd,fe,vs',vc',⟨d3,rfl⟩,ho3,hf3,hfe3⟩:=h
 refine ⟨rfl,fun X3 t3=>?_⟩
 have o3:=ho3.twin0 t3
 exact ⟨⟨la,lc,O,hd,fe,vs',vc',⟨d3,rfl⟩,HALL.out.1.old o3,t3.five hf3,fun h=>⟨(hfe3 h).1,(hfe3 h).2.1,t3.book (hfe3 h).2.2.1,(hfe3 h).2.2.2⟩⟩,o3⟩
def UZ13 (B:Nat) (la:Option Addr) (ln lc O:Nat) (hd:Int) (fe y:Bool) (a':Act) (w2:World):Prop:=a'.tmps[195]? = some (.bool y)∧∃ d,a'=uD B la ln lc O hd fe d
theorem pu_13 {ln:Nat} {fe y:Bool} (hE:PkSt w B b vr vg vm vs vc) (hR:b.rs.length≤20) (hy:y=(!fe || !noCount b)):(sql (pu 13)).wp Tryz.prog (PZ w (UZ13 B la ln lc O hd fe y)) (uD B la ln lc O hd fe d) w:=by
 simp only [pu,sqN,sql,sqr,cnd,blk,lpc,Tryz.f6,Option.getD_some,uD]
 obtain ⟨c0,c1,c2,c3,c4,hbk,_⟩:=hE
 have HB:=Hh hbk
 have hB0:=lt_of_cell c0
 simp only at hB0
 cases fe with
 | false =>
  subst hy
  clear hbk
  go_wp2
  exact ⟨rfl,⟨rfl,fr_of (by kernel_rfl)⟩,bel⟩
 | true =>
  have HY:=Hh (show noCount b=!y by rw [hy];cases noCount b <;> rfl)
  clear hbk hy
  go_wp2_with (go_at_call 38;(with_reducible refine (counts_at HB.out hR HY.out).mono ?_);rintro e w1 ⟨rfl,hb1⟩)
  exact ⟨rfl,⟨rfl,fr_of (by kernel_rfl)⟩,hb1⟩
variable {B O lc nc oc kc ec:Nat} {b:Bk} {u K hd:Int} {fd:Bool} {vr vg vm vs vc x:Value} {w w0:World} {la na oa ka ea:Option Addr} {ks ot o ee:List Int} {l:List Prt} {d:Nat→Value}
def UZF (w:World) (a':Act) (w2:World):Prop:=(∃ d,a'=uF 0 d)∧KindsAt w2
theorem pu_E {ps:List (List Prt)} {vs' vc':Value} {q:List Int} (hE:PkSt w B b vr vg vm vs vc) (hf:Five w O vr vg vm vs' vc') (hP:BookAt w (punB b ps) vr vg vm vs' vc') (hS:SmallB b) (hop:openAl (punB b ps) 0=0) (hq:deliveredI (punB b ps)=q) (hql:q.length=b.ms.length) (hq1:∀ x∈q,x=1) :
 wps Tryz.prog [pu 14,pu 15,pu 16] (fun a' w2=>UZF w a' w2∧Old w w2) (uD B la l.length lc O (l.length:Int) true d) w:=by
 unfold uD
 have hml:b.ms.length≤20:=hS.1
 have HNM:=Hh (show ∀ m∈(punB b ps).ms,m.name.size≤1000000 from hS.names)
 have HP:=Hh hP
 have HKx:=Hh hE.kd
 have HEE:=Hh hE
 have HOP:=Hh hop
 have HQ:=Hh hq
 have HQL:=Hh hql
 have HQ1:=Hh hq1
 have OO0:=Hh (Old.refl w)
 obtain ⟨e0,e1,e2,e3,e4,hO0⟩:=hf
 clear hE hP hS hop hq hql hq1
 refine wps_nq ?_
 obtain ⟨c9,hcc⟩:∃ c,pu 14=c:=⟨_,rfl⟩
 rw [hcc]
 simp only [pu,sqN,sql,sqr,cnd,blk,lpc,Tryz.f6,Option.getD_some] at hcc
 subst hcc
 go_wp2_with (go_at_call 39;(with_reducible refine (delivered_ok HP.out HNM.out HKx.out HOP.out).mono ?_);rintro e w1 ⟨da,dc,rfl,hx1,hb1⟩)
 rw [HQ.out] at hx1 ⊢
 rw [HQL.out]
 clear e0 e1 e2 e3 e4
 refine ⟨rfl,fun X1 t1=>?_⟩
 have o1:=Old.twin0 (Old.ofBelow hb1) t1
 have E1:=HEE.out.old o1
 have OO1:=Hh (OO0.out.trans o1)
 have DI:=Hh (t1.ints hx1)
 clear t1 o1 hb1 hx1 OO0
 refine wps_nq ?_
 obtain ⟨c9,hcc⟩:∃ c,pu 15=c:=⟨_,rfl⟩
 rw [hcc]
 simp only [pu,sqN,sql,sqr,cnd,blk,lpc,Tryz.f6,Option.getD_some] at hcc
 subst hcc
 obtain ⟨c0,c1,c2,c3,c4,hbk,_⟩:=id E1
 have EE:=Hh E1
 have hB0:=lt_of_cell c0
 simp only at hB0
 obtain ⟨-,-,⟨ma,mc,rfl,-,-⟩,-⟩:=id hbk
 clear hbk E1
 have hne:((l.length:Int) != (l.length:Int))=false:=by simp
 have hne2:((b.ms.length:Int) != (b.ms.length:Int))=false:=by simp
 go_wp2
 clear hne hne2
 refine ⟨rfl,fun X2 t2=>?_⟩
 have o2:=Old.twin0 (Old.refl _) t2
 have E2:=Hh (EE.out.old o2)
 have OO2:=Hh (OO1.out.trans o2)
 replace DI:=Hh (o2.ints DI.out)
 clear c0 c1 c2 c3 c4 t2 o2 EE OO1
 refine wps_nq ?_
 obtain ⟨c9,hcc⟩:∃ c,pu 16=c:=⟨_,rfl⟩
 rw [hcc]
 simp only [pu,sqN,sql,sqr,cnd,blk,lpc,Tryz.f6,Option.getD_some] at hcc
 subst hcc
 go_wp2
 go_loopw [20] (fun i wr=>∃ j:Nat,j≤b.ms.length∧i=.int .i64 j∧wr=X2) (fun i _=>b.ms.length - (intOf i).toNat)
 case atStart=>exact ⟨0,Nat.zero_le _,rfl,rfl⟩
 case round =>
  obtain ⟨j,hj,rfl,rfl⟩:=hrel
  by_cases hlt:j < b.ms.length
  ·have hjq:j < q.length:=by rw [HQL.out];exact hlt
   obtain ⟨xb,xo,rfl,hxb,g0⟩:=DI.out j hjq
   have h1:=HQ1.out q[j] (List.getElem_mem hjq)
   rw [h1] at g0
   clear h1
   go_wp2
   go_roundw
   case rel=>exact ⟨j+1,hlt,by go_num,trivial⟩
   case measure=>simp [intOf];omega
  ·obtain rfl:j=b.ms.length:=by omega
   go_wp2
   refine ⟨rfl,fun X3 t3=>?_⟩
   have o3:=Old.twin0 (Old.refl _) t3
   exact ⟨⟨fr_of (by kernel_rfl),(E2.out.old o3).kd⟩,OO2.out.trans o3⟩
variable {B O lc nc oc kc ec:Nat} {b:Bk} {u K hd:Int} {fd:Bool} {vr vg vm vs vc x:Value} {w w0:World} {la na oa ka ea:Option Addr} {ks ot o ee:List Int} {l:List Prt} {d:Nat→Value}
theorem pu_leaves {a:Act} {k:List Item} (g6:a.tmps[4]? = some (.bool true)) (df:a.defers=[]) (h:Old w0 w) :
 Leaving0 Tryz.prog (fun v w'=>v=.bool true∧Old w0 w') { (Go.Conc.base 6).at a k with mode:=.returning } [] w:=by
 refine ⟨rfl,rfl,rfl,df,by kernel_rfl,.bool true,_,Tryz.func6,fun d=>⟨⟨rfl,h.at d⟩,#[],?_,by simp⟩⟩
 rw [Sem.runT_eq]
 refine Prod.ext ?_ ?_ <;> simp [results,Tryz.results6,go_sem,Frame.at,Go.Conc.base,g6]
theorem puFrame {c:Code} {x0 x1:Value} (hc:Tryz.f6.body=some c):Frame.enter Tryz.prog 6 #[x0,x1] .normal=(Go.Conc.base 6).at (uI x0 x1 fun _=>undef) [.code c]:=by
 rw [Go.Conc.enter_at #[x0,x1] Tryz.func6 hc]
 simp only [Tryz.ntmps6,uI,List.size_toArray,List.length_cons,List.length_nil,Nat.reduceAdd,Nat.reduceSub,Array.replicate_succ,Array.replicate_zero,List.push_toArray,List.append_toArray,List.nil_append,List.cons_append]
theorem pu_early2 (hold:Old w0 w) (hK:KindsAt w)  {a:Act} (q:Kn a 230 []) {kk:List Item} :
 LeadsA Tryz.prog (Leaving0 Tryz.prog fun v w'=>v=.bool true∧Old w0 w') ((Go.Conc.base 6).at a (.code (cnd (sqr (pu 1)))::kk)) [] w:=by
 have nb:(Go.Conc.base 6).kind=.normal:=rfl
 simp only [pu,sqN,sql,sqr,cnd,blk,lpc,Tryz.f6,Option.getD_some]
 refine all_seq ?_
 refine all_region ?_
 simp only [List.size_toArray,List.length_cons,List.length_nil,Nat.reduceAdd,Nat.zero_add,List.range,List.range.loop]
 refine sc 14 #[] nb rfl rfl rfl (fun w'=>by simp [go_sem];exact ev_call Tryz.func14 (by kernel_rfl) (by kernel_rfl)) q (by decide) rfl (v:=.bool true) (fun c w' t=>stored_lead2 hK t _ _) fun _ _ ho q=>?_
 replace hK:=ho.kinds hK
 replace hold:=hold.trans ho
 clear ho
 refine st (.bool true) nb rfl rfl rfl (fun _=>by simp [go_sem,q.g 24 rfl]) q (by decide) rfl fun _ q=>?_
 refine all_end ?_
 refine all_ret ?_
 intro w' t
 exact .done (pu_leaves (q.g 4 rfl) q.df (hold.twin0 t))
theorem pu_early5 (hold:Old w0 w) (hK:KindsAt w)  {a:Act} (q:Kn a 230 [(6,.int .i64 10)]) {kk:List Item} :
 LeadsA Tryz.prog (Leaving0 Tryz.prog fun v w'=>v=.bool true∧Old w0 w') ((Go.Conc.base 6).at a (.code (cnd (sqr (pu 3)))::kk)) [] w:=by
 have nb:(Go.Conc.base 6).kind=.normal:=rfl
 simp only [pu,sqN,sql,sqr,cnd,blk,lpc,Tryz.f6,Option.getD_some]
 refine all_seq ?_
 refine all_region ?_
 simp only [List.size_toArray,List.length_cons,List.length_nil,Nat.reduceAdd,Nat.zero_add,List.range,List.range.loop]
 refine st (.int .i64 10) nb rfl rfl rfl (fun _=>by simp [go_sem,q.g 6 rfl]) q (by decide) rfl fun _ q=>?_
 refine st (.bool true) nb rfl rfl rfl (fun _=>by simp [go_sem,q.g 32 rfl]) q (by decide) rfl fun _ q=>?_
 refine st (.bool true) nb rfl rfl rfl (fun _=>by simp [go_sem,q.g 33 rfl]) q (by decide) rfl fun _ q=>?_
 refine sc 14 #[] nb rfl rfl (wanted_g rfl rfl rfl (q.g 34 rfl)) (fun w'=>by simp [go_sem];exact ev_call Tryz.func14 (by kernel_rfl) (by kernel_rfl)) q (by decide) rfl (v:=.bool true) (fun c w' t=>stored_lead2 hK t _ _) fun _ _ ho q=>?_
 replace hK:=ho.kinds hK
 replace hold:=hold.trans ho
 clear ho
 refine st (.bool true) nb rfl rfl rfl (fun _=>by simp [go_sem,q.g 34 rfl,q.g 35 rfl]) q (by decide) rfl fun _ q=>?_
 refine st (.bool true) nb rfl rfl rfl (fun _=>by simp [go_sem,q.g 36 rfl]) q (by decide) rfl fun _ q=>?_
 refine all_end ?_
 refine all_ret ?_
 intro w' t
 exact .done (pu_leaves (q.g 4 rfl) q.df (hold.twin0 t))
theorem pu_early37 (hold:Old w0 w) (hK:KindsAt w)  {a:Act} (q:Kn a 230 []) {kk:List Item} :
 LeadsA Tryz.prog (Leaving0 Tryz.prog fun v w'=>v=.bool true∧Old w0 w') ((Go.Conc.base 6).at a (.code (cnd (sqr (pu 13)))::kk)) [] w:=by
 have nb:(Go.Conc.base 6).kind=.normal:=rfl
 simp only [pu,sqN,sql,sqr,cnd,blk,lpc,Tryz.f6,Option.getD_some]
 refine all_seq ?_
 refine all_region ?_
 simp only [List.size_toArray,List.length_cons,List.length_nil,Nat.reduceAdd,Nat.zero_add,List.range,List.range.loop]
 refine sc 14 #[] nb rfl rfl rfl (fun w'=>by simp [go_sem];exact ev_call Tryz.func14 (by kernel_rfl) (by kernel_rfl)) q (by decide) rfl (v:=.bool true) (fun c w' t=>stored_lead2 hK t _ _) fun _ _ ho q=>?_
 replace hK:=ho.kinds hK
 replace hold:=hold.trans ho
 clear ho
 refine st (.bool true) nb rfl rfl rfl (fun _=>by simp [go_sem,q.g 196 rfl]) q (by decide) rfl fun _ q=>?_
 refine all_end ?_
 refine all_ret ?_
 intro w' t
 exact .done (pu_leaves (q.g 4 rfl) q.df (hold.twin0 t))
theorem pu_last (hold:Old w0 w) (hK:KindsAt w)  {a:Act} (q:Kn a 230 []) :
 LeadsA Tryz.prog (Leaving0 Tryz.prog fun v w'=>v=.bool true∧Old w0 w') ((Go.Conc.base 6).at a [.code (.seq (pu 17) .ret)]) [] w:=by
 have nb:(Go.Conc.base 6).kind=.normal:=rfl
 simp only [pu,sqN,sql,sqr,cnd,blk,lpc,Tryz.f6,Option.getD_some]
 refine all_seq ?_
 refine all_region ?_
 simp only [List.size_toArray,List.length_cons,List.length_nil,Nat.reduceAdd,Nat.zero_add,List.range,List.range.loop]
 refine sc 14 #[] nb rfl rfl rfl (fun w'=>by simp [go_sem];exact ev_call Tryz.func14 (by kernel_rfl) (by kernel_rfl)) q (by decide) rfl (v:=.bool true) (fun c w' t=>stored_lead2 hK t _ _) fun _ _ ho q=>?_
 replace hK:=ho.kinds hK
 replace hold:=hold.trans ho
 clear ho
 refine st (.bool true) nb rfl rfl rfl (fun _=>by simp [go_sem,q.g 229 rfl]) q (by decide) rfl fun _ q=>?_
 refine all_end ?_
 refine all_ret ?_
 intro w' t
 exact .done (pu_leaves (q.g 4 rfl) q.df (hold.twin0 t))
variable {B O lc nc oc kc ec:Nat} {b:Bk} {u K hd:Int} {fd:Bool} {vr vg vm vs vc x:Value} {w w0:World} {la na oa ka ea:Option Addr} {ks ot o ee:List Int} {l:List Prt} {d:Nat→Value}
theorem Five.old {v0 v1 v2 v3 v4:Value} (h:Five w O v0 v1 v2 v3 v4) {w1:World} (t:Old w w1):Five w1 O v0 v1 v2 v3 v4:=⟨t.cell2 h.c0,t.cell2 h.c1,t.cell2 h.c2,t.cell2 h.c3,t.cell2 h.c4,Nat.lt_of_lt_of_le h.lt t.size⟩
theorem pu_co {w:World} {b:Bk} {ks:List Int} {ka:Option Addr} {kc:Nat} {vr vg vm vs vc:Value} (hR:RawAt w b vr vg vm vs vc) (hK:KindsAt w) (hU:U16sAt w ka ks) :
 Leads Tryz.prog (Leaving0 Tryz.prog fun v w'=>v=.bool true∧Old w w') (Frame.enter Tryz.prog 6 #[.agg #[vr,vg,vm,vs,vc],.slice ka ks.length kc] .normal) [] w:=by
 have hok:=progOk.code _ _ Tryz.func6 _ puBody_eq
 simp only [codeOk,Bool.and_eq_true] at hok
 obtain ⟨k0,k1,k2,k3,k4,k5,k6,k7,k8,k9,k10,k11,k12,k13,k14,k15,k16,k17,_⟩:=hok
 have k1':=k1
 have k3':=k3
 have k13':=k13
 rw [pu1_eq] at k1'
 rw [pu3_eq] at k3'
 rw [pu13_eq] at k13'
 simp only [codeOk,Bool.and_eq_true] at k1' k3' k13'
 rw [puFrame puBody_eq]
 have nb:(Go.Conc.base 6).kind=.normal:=rfl
 have nd:MarksOnly []:=fun d hd=>by cases hd
 refine piece_step k0 nb nd (Z:=UZ0 w.heap.size b vr vg vm vs vc ka ks kc) (fun a w1 w2 ht h=>by obtain ⟨B,x,h1,h2⟩:=h;exact ⟨B,x,h1,h2.twin ht⟩) (fun W hW=>by have:=pu_0 (ka:=ka) (ks:=ks) (kc:=kc) (d:=fun _=>undef) (hW.raw hR) (hW.kinds hK);rwa [hW.size] at this) fun a0 w0 hz ho0=>?_
 obtain ⟨B,x0,⟨d0,rfl⟩,hE⟩:=hz
 have hU:=hU.ol ho0
 obtain ⟨x,hx⟩:∃ x:Bool,(x=true↔¬ (SmallB b∧bookAl b=0)):=by
  by_cases h:SmallB b∧bookAl b=0
  ·exact ⟨false,by simp only [Bool.false_eq_true,false_iff];exact fun h2=>h2 h⟩
  ·exact ⟨true,by simp only [true_iff];exact h⟩
 refine leads_seq fun d=>?_
 rw [pu1_eq]
 have hE:=hE.twin (on_at w0 d)
 have hU:=hU.tw (on_at w0 d)
 have ho0:=ho0.at d
 refine piece_step k1'.1 nb nd (Z:=UZ1 B ka ks kc x) (fun a w1 w2 ht h=>h) (fun W hW=>pu_1 (hE.twin hW) hx) fun a1 w1 hz ho=>?_
 obtain ⟨d1,rfl⟩:=hz
 have hE:=hE.old ho
 have hU:=hU.ol ho
 have ho1:=ho0.trans ho
 clear ho
 cases x with
 | true =>
  refine leads_cond (t:=true) (by simp [go_sem,uG]) fun da=>?_
  simp only [if_true]
  exact (pu_early2 (ho1.at da) ((on_at w1 da).kinds hE.kd) ⟨rfl,rfl,trivial⟩).here
 | false =>
  obtain ⟨hS,hk⟩:SmallB b∧bookAl b=0:=Classical.byContradiction fun h=>by have:=hx.2 h;cases this
  refine leads_cond (t:=false) (by simp [go_sem,uG]) fun dd=>?_
  simp only [Bool.false_eq_true,if_false]
  refine leads_skip fun dd2=>?_
  have hE:=PkSt.of ((hE.twin (on_at w1 dd)).twin (on_at (w1.at dd) dd2)) hS
  have hU:=(hU.tw (on_at w1 dd)).tw (on_at (w1.at dd) dd2)
  have ho2:=(ho1.at dd).at dd2
  generalize (w1.at dd).at dd2=w2 at hE hU ho2
  clear ho1 ho0
  obtain ⟨l,hl⟩:∃ l,miss b=l:=⟨_,rfl⟩
  obtain ⟨u,hu⟩:∃ u,openAl b 0=u:=⟨_,rfl⟩
  refine pieces_co [pu 2] (by simp [k2]) nb rfl (Z:=UZA B b vr vg vm vs vc ka ks kc l u) (fun a w1 w2 ht h=>by obtain ⟨la,lc,h1,h2,h3⟩:=h;exact ⟨la,lc,h1,h2.twin ht,ht.parts h3⟩) (fun W hW=>pu_A (hE.twin hW) hS hl hu) fun a3 w3 hz ho=>?_
  obtain ⟨la,lc,⟨d3,rfl⟩,hG,hL⟩:=hz
  have hU:=hU.ol ho
  have ho3:=ho2.trans ho
  clear ho ho2 hE
  rcases openAl_two hk with hz | hz
  ·rw [hz] at hu
   subst hu
   have hmi:missI b=l:=by rw [← hl];unfold miss;rw [if_pos hz]
   obtain ⟨ot,hot⟩:∃ ot,planP ks (loadsI b)=ot:=⟨_,rfl⟩
   obtain ⟨o,hpo⟩:=planP_ok ks (loadsI_nn hk)
   rw [hot] at hpo
   have hotl:ot.length=b.ms.length:=by rw [← hot,planP_len,loadsI_len]
   have hll:(loadsI b).length=ot.length:=by rw [loadsI_len,hotl]
   have hol:o.length≤100:=(planOk_bd hpo (by have:=hS.1;omega) (loadsI_bd hk)).2
   obtain ⟨fd,hfd⟩:∃ fd,decide (b.ss.length+o.length≤4∧b.rs.length+o.length≤5)=fd:=⟨_,rfl⟩
   refine pieces_co [pu 3,pu 4,pu 5,pu 6,pu 7,pu 8,pu 9] (by simp [k3,k4,k5,k6,k7,k8,k9]) nb rfl (Z:=UZB B b vr vg vm vs vc l ot o) (fun a w1 w2 ht h=>by obtain ⟨la,lc,na,oa,ea,nc,oc,ec,h1,h2,h3,h4,h5,h6⟩:=h;exact ⟨la,lc,na,oa,ea,nc,oc,ec,h1,h2.twin ht,ht.parts h3,ht.ints h4,ht.ints h5,ht.ints h6⟩) (fun W hW=>pu_B (hG.twin hW) (hW.parts hL) (hU.tw hW) hS hk hz hmi hot hpo) fun a5 w5 hz5 ho=>?_
   obtain ⟨la,lc,na,oa,ea,nc,oc,ec,⟨d5,rfl⟩,hG,hL,hN,hO,hEe⟩:=hz5
   have ho5:=ho3.trans ho
   clear ho ho3
   refine pieces_co [pu 10,pu 11,pu 12] (by simp [k10,k11,k12]) nb rfl (Z:=UZE B b vr vg vm vs vc l ot o fd) (fun a w1 w2 ht h=>by obtain ⟨la,lc,O,hd,fe,vs',vc',h1,h2,h3,h4⟩:=h;exact ⟨la,lc,O,hd,fe,vs',vc',h1,h2.twin ht,ht.five h3,fun h=>⟨(h4 h).1,(h4 h).2.1,ht.book (h4 h).2.2.1,(h4 h).2.2.2⟩⟩) (fun W hW=>pu_D (hG.twin hW) (hW.parts hL) (hW.ints hN) (hW.ints hO) (hW.ints hEe) hS hk hz hmi hotl hpo hol hfd) fun a6 w6 hz6 ho=>?_
   obtain ⟨la,lc,O,hd,fe,vs',vc',⟨d6,rfl⟩,hG,hF,hfe⟩:=hz6
   have ho6:=ho5.trans ho
   clear ho ho5
   obtain ⟨y,hy⟩:∃ y,y=(!fe || !noCount b):=⟨_,rfl⟩
   refine leads_seq fun e1=>?_
   rw [pu13_eq]
   have hG:=hG.twin (on_at w6 e1)
   have hF:=(on_at w6 e1).five hF
   have hfe:=fun h=>(show fd=true∧hd=heldTo ot l o.length∧BookAt (w6.at e1) (punB b (punL ot l o.length)) vr vg vm vs' vc'∧∀ j < o.length,(punchI ot (j:Int) l).length≤5 from ⟨(hfe h).1,(hfe h).2.1,(on_at w6 e1).book (hfe h).2.2.1,(hfe h).2.2.2⟩)
   have ho6:=ho6.at e1
   generalize w6.at e1=w7 at hG hF hfe ho6
   refine piece_step k13'.1 nb nd (Z:=UZ13 B la l.length lc O hd fe y) (fun a w1 w2 ht h=>h) (fun W hW=>pu_13 (hG.twin hW) (by have:=recs_len hk;omega) hy) fun a8 w8 hz8 ho=>?_
   obtain ⟨h195,d8,rfl⟩:=hz8
   have ho8:=ho6.trans ho
   cases y with
   | true =>
    refine leads_cond (t:=true) (by simp [go_sem,h195]) fun e2=>?_
    simp only [if_true]
    exact (pu_early37 (ho8.at e2) ((on_at w8 e2).kinds (ho.kinds hG.kd)) ⟨rfl,rfl,trivial⟩).here
   | false =>
    obtain ⟨hfe1,hnc⟩:fe=true∧noCount b=true:=by revert hy;cases fe <;> cases noCount b <;> simp
    subst hfe1
    obtain ⟨hfd1,hhd,hbk,hsm⟩:=hfe rfl
    have hlim:b.ss.length+o.length≤4∧b.rs.length+o.length≤5:=by rw [hfd1] at hfd;simpa using hfd
    refine leads_cond (t:=false) (by simp [go_sem,h195]) fun e2=>?_
    simp only [Bool.false_eq_true,if_false]
    refine leads_skip fun e3=>?_
    have hG:=((hG.old ho).twin (on_at w8 e2)).twin (on_at (w8.at e2) e3)
    have hbk:=(on_at (w8.at e2) e3).book ((on_at w8 e2).book (ho.book hbk))
    have hF:=(on_at (w8.at e2) e3).five ((on_at w8 e2).five (hF.old ho))
    have ho8:=(ho8.at e2).at e3
    generalize (w8.at e2).at e3=w9 at hG hF hbk ho8
    have hps:pasts b≠[]:=(openAl_ok hz).2.2
    have hall:hd=(l.length:Int):=by rw [hhd];exact heldTo_all fun p hp=>pun_on hotl hll hpo (by rw [hmi];exact hp)
    rw [hall]
    have hal:bookAl (punB b (punL ot l o.length))=0:=by rw [← hmi];exact bookAl_pun hk hnc (by rw [punL_len];exact hlim.1) (by rw [punL_len];exact hlim.2) (punL_ok hk (by rw [hmi];exact hsm))
    have hne:pasts (punB b (punL ot l o.length))≠[]:=pun_some hk hnc hps
    have hop:openAl (punB b (punL ot l o.length)) 0=0:=by unfold openAl;rw [if_neg (by simp [hal]),if_neg (by simp),if_neg hne]
    have hd1:∀ x∈deliveredI (punB b (punL ot l o.length)),x=1:=by rw [← hmi];exact pun_deliv hk hnc hps (punL_on hotl hll hpo)
    have hdl:(deliveredI (punB b (punL ot l o.length))).length=b.ms.length:=deliveredTo_length _ _
    refine pieces_co [pu 14,pu 15,pu 16] (by simp [k14,k15,k16]) nb rfl (Z:=UZF w9) (fun a w1 w2 ht h=>⟨h.1,ht.kinds h.2⟩) (fun W hW=>pu_E (hG.twin hW) (hW.five hF) (hW.book hbk) hS hop rfl hdl hd1) fun a10 w10 hz10 ho=>?_
    obtain ⟨⟨d10,rfl⟩,hK10⟩:=hz10
    exact (pu_last (ho8.trans ho) hK10 ⟨rfl,rfl,trivial⟩).here
  ·rw [hz] at hu
   subst hu
   refine leads_seq fun e1=>?_
   rw [pu3_eq]
   have ho3:=ho3.at e1
   have hG:=hG.twin (on_at w3 e1)
   generalize w3.at e1=w4 at hG ho3
   refine piece_step k3'.1 nb nd (Z:=UZ3 B ka ks kc la l.length lc) (fun a w1 w2 ht h=>h) (fun W hW=>pu_3) fun a5 w5 hz5 ho=>?_
   obtain ⟨h31,d5,rfl⟩:=hz5
   have ho5:=ho3.trans ho
   refine leads_cond (t:=true) (by simp [go_sem,h31]) fun e2=>?_
   simp only [if_true]
   exact (pu_early5 (ho5.at e2) ((on_at w5 e2).kinds (ho.kinds hG.kd)) ⟨rfl,rfl,rfl,trivial⟩).here
end Go.Proofs.YtgemjjdkjmpmlaaGreatDoor
namespace Go.Proofs.YtgemjjdkjmpmlaaGreatDoor
open Go.ChangeShapes Go.WideShapes Go.ChangeAt Go.RowKit Sp
theorem cellsU16:Tryz.prog.cellsOf 78=1:=by kernel_rfl
theorem u16_bd {n:Int} (h:(Lit.int .u16 n).wf=true):0≤n∧n≤65535:=by
 simp [Lit.wf,IntKind.min,IntKind.max,IntKind.signed,IntKind.bits] at h
 omega
section
variable {H:Type} {enc:TypeId × Value→H} {w:World} {base n:Nat} {held:Bool} {cs:List Value} {y:DataW H × List MemPlace}
theorem open_u16s (h:DataW.trod enc Tryz.prog w base (fun _=>true) held n 27 cs=some y):∃ a l c,cs=[.slice a (List.length l) c]∧U16sAt w a l:=by
 rcases Deep.open_slice1 Tryz.underlying27 cellsU16 h with ⟨hcs,_⟩ | ⟨a,len,cap,m,k,V,D,Pl,hcs,hb,hl,hm,hmm,_,hx⟩
 ·exact ⟨none,[],0,hcs,fun i hi=>absurd hi (Nat.not_lt_zero _)⟩
 ·simp only [if_true] at hmm
  obtain ⟨M,hM⟩:=Deep.choose_lt (α:=Int) (p:=fun i m=>w.cell? (a.add i)=some (.int .u16 m)∧0≤m∧m≤65535) (fun i hi=>by
   obtain ⟨h1,h2⟩:=hx i (show i < m from hi)
   obtain ⟨q,e,_,hw⟩:=DataW.trod_int Tryz.underlying78 h2
   exact ⟨q,h1.trans (congrArg some (List.cons.inj e).1),u16_bd hw⟩)
  refine ⟨some a,(List.range len).map M,cap,by rw [hcs];simp,fun i hi=>?_⟩
  have hi2:i < len:=by simpa using hi
  have hs:a.spot=none:=by simpa [Addr.add] using World.cell?_spot (hM 0 (by omega)).1
  obtain ⟨b,o,spot⟩:=a
  simp only at hs
  subst hs
  obtain ⟨c0,c1,c2⟩:=hM i (by omega)
  simp only [addr_plus] at c0
  refine ⟨b,o,rfl,lt_of_cell c0,?_⟩
  simp only [List.getElem_map,List.getElem_range]
  exact ⟨c0,c1,c2⟩
end
end Go.Proofs.YtgemjjdkjmpmlaaGreatDoor
