/- StoreRecords -/
import Derived.Test.YtojkofjcblmnjaaGreatDoorRC29
import Derived.StillTailTactics
set_option maxHeartbeats 16000000
set_option maxRecDepth 100000
set_option linter.all false
namespace Go.Proofs.YtojkofjcblmnjaaGreatDoor
section
open Go.RowKit Go.Maps Sp Go.Conc
def noteAl (b:Bk) (r:Rec):Int:=if bookAl b≠0 then bookAl b else openAl (moreR b r) 0
def connectAl (b:Bk) (x:List Prt):Int:=if bookAl b≠0 then bookAl b else openAl (moreS b x) 0
section
variable {b:Bk} {vr vg vm vs vc:Value} {w:World}
theorem note_no (hB:BookAt w b vr vg vm vs vc) (hN:∀ m∈b.ms,m.name.size<=1000000) (hK:KindsAt w) {r:Rec} (h0:bookAl b≠0) :
 Calls Tryz.prog 11 #[.agg #[vr,vg,vm,vs,vc],.agg #[.int .i64 r.k,.int .i64 r.a,.int .i64 r.b,.int .i64 r.m]] w (BookRet w noBook (bookAl b)):=by
 have HB:=Hh hB;have HN:=Hh hN;have HK:=Hh hK;obtain ⟨t,ht⟩:∃ t,bookAl b=t:=⟨_,rfl⟩;rw [ht] at h0 ⊢;have HT:=Hh ht;have hz3:(t != 0)=true:=by simpa using h0
 obtain ⟨rfl,rfl,⟨ma,mc,rfl,_,_⟩,⟨sa,sc,rfl,_,_⟩,ra,rc,rfl,_,_⟩:=id hB;clear hB hN hK ht
 go_enter Tryz.func11,Tryz.ntmps11
 go_wp2_with (go_at_call 31;(with_reducible refine (checkBook_at (HB.out.below (bel)) HN.out (HK.out.below (bel)) HT.out).mono ?_);rintro e w3 ⟨rfl,hb3⟩;obtain ⟨-,-,-,zy,zz,hs2⟩:=box_three hb3;obtain ⟨zc0,zc1,zc2,zc3,zc4⟩:=zy.five;obtain ⟨zf0,zf1,zf2,zf3,zf4⟩:=zz.five;clear zy zz);exact bodyPost_ret (v:=.tuple #[.agg #[.int .i64 0,.int .i64 0,.slice none 0 0,.slice none 0 0,.slice none 0 0],.int .i64 t]) (by simp [results,Tryz.results11,go_sem, *]) rfl (BookRet.no ⟨rfl,bel⟩)
theorem nt_4c {A:World} {B R X:Nat} {n c:Nat} {a:Option Addr} {news:List Value} {r:Rec} {cd:Code} {ac:Act} (hc:cd=ntK 2) (ha:ac=ntF B X R fun i=>ac.tmps.getD i undef) (cb:A.cell? ⟨B,4,none⟩=some (.slice a n c)) (hz:A.frozen? ⟨B,4,none⟩=false) (x0:A.cell? ⟨X,0,none⟩=some (.int .i64 r.k)) (x1:A.cell? ⟨X,1,none⟩=some (.int .i64 r.a)) (x2:A.cell? ⟨X,2,none⟩=some (.int .i64 r.b)) (x3:A.cell? ⟨X,3,none⟩=some (.int .i64 r.m)) (hl:news.length=n * 4) (hn:n<=1000) (hs:SrcK A a news) (h1:∀ u∈news,u.oneCell'=true) :
 cd.wp Tryz.prog (NQ fun a' w2=>(∃ d,a'=ntF B X R d)/\∃ r1 y1 w4,w2=w4.setCell ⟨B,4,none⟩ (.slice r1 (n+1) y1)/\Below A.heap.size A w4/\w4.ownsRow A.heap.size 29 4 (.slice r1 (n+1) y1) (n+1) (news ++ [.int .i64 r.k,.int .i64 r.a,.int .i64 r.b,.int .i64 r.m])) ac A:=by
 rw [hc,ha];exact note_4 cb hz x0 x1 x2 x3 hl hn hs h1
theorem note_ok (hB:BookAt w b vr vg vm vs vc) (hN:∀ m∈b.ms,m.name.size<=1000000) (hK:KindsAt w) {r:Rec} (h0:bookAl b=0) {t:Int} (ht:openAl (moreR b r) 0=t) :
 Calls Tryz.prog 11 #[.agg #[vr,vg,vm,vs,vc],.agg #[.int .i64 r.k,.int .i64 r.a,.int .i64 r.b,.int .i64 r.m]] w (BookRet w (if t=0 then moreR b r else noBook) t):=by
 obtain ⟨mb,hmb⟩:∃ mb,(if t=0 then moreR b r else noBook)=mb:=⟨_,rfl⟩;rw [hmb];have HMB:=Hh hmb;clear hmb;have HB:=Hh hB;have HN:=Hh hN;have HK:=Hh hK;have HT:=Hh ht;have H0:=Hh h0;have hr5:b.rs.length<=5:=recs_len h0;obtain ⟨rfl,rfl,⟨ma,mc,rfl,hM,hml⟩,⟨sa,sc,rfl,hS,hsl⟩,ra,rc,rfl,hR,hrl⟩:=id hB;have HSRC:=Hh (recs_srcK hR);have HONE:=Hh (recs_one b.rs);have HLEN:=Hh (recs_len4 b.rs);clear hB hN hK ht h0 hM hS hR
 go_enter Tryz.func11,Tryz.ntmps11
 go_wp2_with (go_at_call 31;(with_reducible refine (checkBook_at (HB.out.below (bel)) HN.out (HK.out.below (bel)) H0.out).mono ?_);rintro e w3 ⟨rfl,hb3⟩;obtain ⟨yy,yz,xy,zy,zz,hs2⟩:=box_three hb3;have HY:=Hh (And.intro yy yz);have HX:=Hh xy;have HZ:=Hh (And.intro zy zz);clear yy yz xy zy zz;have hs1:w.heap.size+1 < w3.heap.size:=(by omega);have hs0:w.heap.size < w3.heap.size:=(by omega));refine Code.wp_mono ?_ (nt_4c (B:=w.heap.size) (X:=w.heap.size+1) (R:=w.heap.size+2) (by kernel_rfl) (by kernel_rfl) (HY.out.1 4 _ rfl) (HY.out.2 4) (HX.out 0 _ rfl) (HX.out 1 _ rfl) (HX.out 2 _ rfl) (HX.out 3 _ rfl) HLEN.out (by omega) (HSRC.out.below (bel)) HONE.out);intro e a' w2 h;cases e <;> try exact h.elim
 obtain ⟨⟨d,rfl⟩,r1,y1,w4,rfl,hb4,hrow⟩:=h;obtain ⟨W5,hW5⟩:∃ W5,W5=w4.setCell ⟨w.heap.size,4,none⟩ (.slice r1 (b.rs.length+1) y1):=⟨_,rfl⟩;have ya:=HY.out.1.below hb4 hs0;have za:=HZ.out.1.below hb4 hs2;have zf:=HZ.out.2.below hb4 hs2;have hk5:KS (fun k=>k≠w.heap.size) w4 W5:=by rw [hW5];exact KS.setCell (by simp) _ _
 have hs4:=hb4.size;have hs5:=hk5.size;have hb3w:Below w.heap.size w w3:=bel;have hb5:Below w.heap.size w W5:=hb3w.trans ((hb4.mono (by omega)).trans (hk5.toBelow (n:=w.heap.size) (by omega) (fun k hk=>by show k≠_;omega)));obtain ⟨q0,q1,q2,q3,q4⟩:=(show BoxC W5 w.heap.size #[.int .i64 b.room,.int .i64 b.gap,.slice ma b.ms.length mc,.slice sa b.ss.length sc,.slice r1 (b.rs.length+1) y1] by rw [hW5];exact ya.put4 _).five;have zr:=za.ks hk5 (by show _≠_;omega) (by omega);have zq:=zf.ks hk5 (by show _≠_;omega) (by omega);have hbk:BookAt W5 (moreR b r) (.int .i64 b.room) (.int .i64 b.gap) (.slice ma b.ms.length mc) (.slice sa b.ss.length sc) (.slice r1 (b.rs.length+1) y1):=by
  obtain ⟨h1,h2,h3,h4,_⟩:=HB.out.below hb5;have h:=ownsRow_ks hrow hk5 (fun k hk=>by show k≠_;omega);have e:b.rs.flatMap cellsR ++ [.int .i64 r.k,.int .i64 r.a,.int .i64 r.b,.int .i64 r.m]=(b.rs ++ [r]).flatMap cellsR:=by rw [List.flatMap_append];rfl
  rw [e] at h;exact ⟨h1,h2,h3,h4,r1,y1,by simp [moreR],recs_of_row h,by simp [moreR];omega⟩
 have HB5:=Hh hb5;have HBK:=Hh hbk;have hK5:=Hh (HK.out.below hb5);have HZR:=Hh (And.intro zr zq);have HN2:=Hh (show ∀ m∈(moreR b r).ms,m.name.size<=1000000 from HN.out);rw [<- hW5];have hR5:w.heap.size+2 < W5.heap.size:=by omega
 have hB5:w.heap.size < W5.heap.size:=by omega
 clear hW5 ya za zf hk5 hb3w hb5 zr zq hb4 hrow hb3 HY HX HZ HB HK HSRC HONE HLEN hbk;simp only [ntF];go_wp2_with (go_at_call 47;(with_reducible refine (agreed_at HBK.out HN2.out hK5.out HT.out HMB.out).mono ?_);rintro e w6 ⟨ur,ug,um,us,uc,rfl,hall,hb6⟩;obtain ⟨rfl,rfl,⟨ea,ec,rfl,_⟩,⟨ga,gc,rfl,_⟩,ia,ic,rfl,_⟩:=id (hall _ (KS.refl _ _));have hs6:=hb6.size;have zy:=HZR.out.1.below hb6 hR5;have zz:=HZR.out.2.below hb6 hR5;obtain ⟨zc0,zc1,zc2,zc3,zc4⟩:=zy.five;obtain ⟨zf0,zf1,zf2,zf3,zf4⟩:=zz.five;clear zy zz;have hR6:w.heap.size+2 < w6.heap.size:=(by omega);have HALL:=Hh hall;clear hall);obtain ⟨W9,hW9,c0,c1,c2,c3,c4,k9⟩:=put_five zc0 zc1 zc2 zc3 zc4 hR6 (.int .i64 mb.room) (.int .i64 mb.gap) (.slice ea mb.ms.length ec) (.slice ga mb.ss.length gc) (.slice ia mb.rs.length ic);rw [<- hW9];clear hW9 zc0 zc1 zc2 zc3 zc4 zf0 zf1 zf2 zf3 zf4;have hbw:=HB5.out.trans ((hb6.mono HB5.out.size).trans (k9.toBelow (n:=w.heap.size) (by omega) (fun k hk=>by show k≠_;omega)));have hall:∀ W,KS (fun k=>w.heap.size<=k) W9 W->BookAt W mb (.int .i64 mb.room) (.int .i64 mb.gap) (.slice ea mb.ms.length ec) (.slice ga mb.ss.length gc) (.slice ia mb.rs.length ic):=fun W hkW=>HALL.out W ((k9.mono fun k _ h=>by show k≠_;have:W5.heap.size<=k:=h;omega).trans (hkW.mono fun k _ h=>by show _<=k;have:W5.heap.size<=k:=h;omega));exact bodyPost_ret (v:=.tuple #[.agg #[(.int .i64 mb.room),(.int .i64 mb.gap),(.slice ea mb.ms.length ec),(.slice ga mb.ss.length gc),(.slice ia mb.rs.length ic)],.int .i64 t]) (by simp [results,Tryz.results11,go_sem,c0,c1,c2,c3,c4]) rfl ⟨_,_,_,_,_,rfl,hall,hbw⟩
theorem note_at (hB:BookAt w b vr vg vm vs vc) (hN:∀ m∈b.ms,m.name.size<=1000000) (hK:KindsAt w) {r:Rec} {t:Int} (ht:noteAl b r=t) {mb:Bk} (hmb:(if t=0 then moreR b r else noBook)=mb) :
 Calls Tryz.prog 11 #[.agg #[vr,vg,vm,vs,vc],.agg #[.int .i64 r.k,.int .i64 r.a,.int .i64 r.b,.int .i64 r.m]] w (BookRet w mb t):=by
 subst hmb;unfold noteAl at ht;by_cases h0:bookAl b=0
 ·rw [if_neg (by simp [h0])] at ht;exact note_ok hB hN hK  h0 ht
 ·rw [if_pos h0] at ht;subst ht;rw [if_neg h0];exact note_no hB hN hK h0
theorem connect_no (hB:BookAt w b vr vg vm vs vc) (hN:∀ m∈b.ms,m.name.size<=1000000) (hK:KindsAt w) {xa:Option Addr} {xc:Nat} {x:List Prt} (h0:bookAl b≠0) :
 Calls Tryz.prog 14 #[.agg #[vr,vg,vm,vs,vc],.agg #[.slice xa x.length xc]] w (BookRet w noBook (bookAl b)):=by
 have HB:=Hh hB;have HN:=Hh hN;have HK:=Hh hK;obtain ⟨t,ht⟩:∃ t,bookAl b=t:=⟨_,rfl⟩;rw [ht] at h0 ⊢;have HT:=Hh ht;have hz3:(t != 0)=true:=by simpa using h0
 obtain ⟨rfl,rfl,⟨ma,mc,rfl,_,_⟩,⟨sa,sc,rfl,_,_⟩,ra,rc,rfl,_,_⟩:=id hB;clear hB hN hK ht
 go_enter Tryz.func14,Tryz.ntmps14
 go_wp2_with (go_at_call 31;(with_reducible refine (checkBook_at (HB.out.below (bel)) HN.out (HK.out.below (bel)) HT.out).mono ?_);rintro e w3 ⟨rfl,hb3⟩;obtain ⟨-,-,-,zy,zz,hs2⟩:=box_three hb3;obtain ⟨zc0,zc1,zc2,zc3,zc4⟩:=zy.five;obtain ⟨zf0,zf1,zf2,zf3,zf4⟩:=zz.five;clear zy zz);exact bodyPost_ret (v:=.tuple #[.agg #[.int .i64 0,.int .i64 0,.slice none 0 0,.slice none 0 0,.slice none 0 0],.int .i64 t]) (by simp [results,Tryz.results14,go_sem, *]) rfl (BookRet.no ⟨rfl,bel⟩)
theorem cc_4c {A:World} {B R X:Nat} {n c:Nat} {a:Option Addr} {news:List Value} {xa:Option Addr} {m xc:Nat} {cd:Code} {ac:Act} (hc:cd=ccK 2) (ha:ac=ccF B X R fun i=>ac.tmps.getD i undef) (cb:A.cell? ⟨B,3,none⟩=some (.slice a n c)) (hz:A.frozen? ⟨B,3,none⟩=false) (x0:A.cell? ⟨X,0,none⟩=some (.slice xa m xc)) (hl:news.length=n * 1) (hn:n<=1000) (hs:SrcK A a news) (h1:∀ u∈news,u.oneCell'=true) :
 cd.wp Tryz.prog (NQ fun a' w2=>(∃ d,a'=ccF B X R d)/\∃ r1 y1 w4,w2=w4.setCell ⟨B,3,none⟩ (.slice r1 (n+1) y1)/\Below A.heap.size A w4/\w4.ownsRow A.heap.size 32 1 (.slice r1 (n+1) y1) (n+1) (news ++ [.slice xa m xc])) ac A:=by
 rw [hc,ha];exact conn_4 cb hz x0 hl hn hs h1
theorem connect_ok (hB:BookAt w b vr vg vm vs vc) (hN:∀ m∈b.ms,m.name.size<=1000000) (hK:KindsAt w) {xa:Option Addr} {xc:Nat} {x:List Prt} (hP:PartsAt w xa x) (hxl:x.length<=1000000) (hxc:x.length<=xc) (h0:bookAl b=0) {t:Int} (ht:openAl (moreS b x) 0=t) :
 Calls Tryz.prog 14 #[.agg #[vr,vg,vm,vs,vc],.agg #[.slice xa x.length xc]] w (BookRet w (if t=0 then moreS b x else noBook) t):=by
 obtain ⟨mb,hmb⟩:∃ mb,(if t=0 then moreS b x else noBook)=mb:=⟨_,rfl⟩;rw [hmb];have HMB:=Hh hmb;clear hmb;have HB:=Hh hB;have HN:=Hh hN;have HK:=Hh hK;have HT:=Hh ht;have H0:=Hh h0;have hr5:b.ss.length<=4:=(bookAl_ok h0).1.sl;have HP:=Hh hP;obtain ⟨rfl,rfl,⟨ma,mc,rfl,hM,hml⟩,⟨sa,sc,rfl,hS,hsl⟩,ra,rc,rfl,hR,hrl⟩:=id hB;obtain ⟨vs,hvs,hsv,hso⟩:=sess_src hS;have HVS:=Hh hvs;have HSRC:=Hh hsv;have HONE:=Hh hso;have HLEN:=Hh (show vs.length=b.ss.length * 1 by rw [hvs.1,Nat.mul_one]);clear hB hN hK ht h0 hM hS hR hP hvs hsv hso
 go_enter Tryz.func14,Tryz.ntmps14
 go_wp2_with (go_at_call 31;(with_reducible refine (checkBook_at (HB.out.below (bel)) HN.out (HK.out.below (bel)) H0.out).mono ?_);rintro e w3 ⟨rfl,hb3⟩;obtain ⟨yy,yz,xy,zy,zz,hs2⟩:=box_three hb3;have HY:=Hh (And.intro yy yz);have HX:=Hh xy;have HZ:=Hh (And.intro zy zz);clear yy yz xy zy zz;have hs1:w.heap.size+1 < w3.heap.size:=(by omega);have hs0:w.heap.size < w3.heap.size:=(by omega));refine Code.wp_mono ?_ (cc_4c (B:=w.heap.size) (X:=w.heap.size+1) (R:=w.heap.size+2) (by kernel_rfl) (by kernel_rfl) (HY.out.1 3 _ rfl) (HY.out.2 3) (HX.out 0 _ rfl) HLEN.out (by omega) (HSRC.out.below (bel)) HONE.out);intro e a' w2 h;cases e <;> try exact h.elim
 obtain ⟨⟨d,rfl⟩,r1,y1,w4,rfl,hb4,hrow⟩:=h;obtain ⟨W5,hW5⟩:∃ W5,W5=w4.setCell ⟨w.heap.size,3,none⟩ (.slice r1 (b.ss.length+1) y1):=⟨_,rfl⟩;have ya:=HY.out.1.below hb4 hs0;have za:=HZ.out.1.below hb4 hs2;have zf:=HZ.out.2.below hb4 hs2;have hk5:KS (fun k=>k≠w.heap.size) w4 W5:=by rw [hW5];exact KS.setCell (by simp) _ _
 have hs4:=hb4.size;have hs5:=hk5.size;have hb3w:Below w.heap.size w w3:=bel;have hb5:Below w.heap.size w W5:=hb3w.trans ((hb4.mono (by omega)).trans (hk5.toBelow (n:=w.heap.size) (by omega) (fun k hk=>by show k≠_;omega)));obtain ⟨q0,q1,q2,q3,q4⟩:=(show BoxC W5 w.heap.size #[.int .i64 b.room,.int .i64 b.gap,.slice ma b.ms.length mc,.slice r1 (b.ss.length+1) y1,.slice ra b.rs.length rc] by rw [hW5];exact ya.put3 _).five;have zr:=za.ks hk5 (by show _≠_;omega) (by omega);have zq:=zf.ks hk5 (by show _≠_;omega) (by omega);have hki:KI w W5:=(KI.below hb3w).trans ((KI.below hb4).trans (by rw [hW5];exact KI.set (ya 3 _ rfl) _));have hbk:BookAt W5 (moreS b x) (.int .i64 b.room) (.int .i64 b.gap) (.slice ma b.ms.length mc) (.slice r1 (b.ss.length+1) y1) (.slice ra b.rs.length rc):=by
  obtain ⟨h1,h2,h3,_,h5⟩:=HB.out.below hb5;exact ⟨h1,h2,h3,⟨r1,y1,by simp [moreS],sess_row (ownsRow_ks hrow hk5 (fun k hk=>by show k≠_;omega)) (HVS.out.snoc hxc hxl HP.out) hki,by simp [moreS];omega⟩,h5⟩
 have HB5:=Hh hb5;have HBK:=Hh hbk;have hK5:=Hh (HK.out.below hb5);have HZR:=Hh (And.intro zr zq);have HN2:=Hh (show ∀ m∈(moreS b x).ms,m.name.size<=1000000 from HN.out);rw [<- hW5];have hR5:w.heap.size+2 < W5.heap.size:=by omega
 have hB5:w.heap.size < W5.heap.size:=by omega
 clear hW5 ya za zf hk5 hb3w hb5 zr zq hb4 hrow hb3 HY HX HZ HB HK HSRC HONE HLEN hbk hki;simp only [ccF];go_wp2_with (go_at_call 47;(with_reducible refine (agreed_at HBK.out HN2.out hK5.out HT.out HMB.out).mono ?_);rintro e w6 ⟨ur,ug,um,us,uc,rfl,hall,hb6⟩;obtain ⟨rfl,rfl,⟨ea,ec,rfl,_⟩,⟨ga,gc,rfl,_⟩,ia,ic,rfl,_⟩:=id (hall _ (KS.refl _ _));have hs6:=hb6.size;have zy:=HZR.out.1.below hb6 hR5;have zz:=HZR.out.2.below hb6 hR5;obtain ⟨zc0,zc1,zc2,zc3,zc4⟩:=zy.five;obtain ⟨zf0,zf1,zf2,zf3,zf4⟩:=zz.five;clear zy zz;have hR6:w.heap.size+2 < w6.heap.size:=(by omega);have HALL:=Hh hall;clear hall);obtain ⟨W9,hW9,c0,c1,c2,c3,c4,k9⟩:=put_five zc0 zc1 zc2 zc3 zc4 hR6 (.int .i64 mb.room) (.int .i64 mb.gap) (.slice ea mb.ms.length ec) (.slice ga mb.ss.length gc) (.slice ia mb.rs.length ic);rw [<- hW9];clear hW9 zc0 zc1 zc2 zc3 zc4 zf0 zf1 zf2 zf3 zf4;have hbw:=HB5.out.trans ((hb6.mono HB5.out.size).trans (k9.toBelow (n:=w.heap.size) (by omega) (fun k hk=>by show k≠_;omega)));have hall:∀ W,KS (fun k=>w.heap.size<=k) W9 W->BookAt W mb (.int .i64 mb.room) (.int .i64 mb.gap) (.slice ea mb.ms.length ec) (.slice ga mb.ss.length gc) (.slice ia mb.rs.length ic):=fun W hkW=>HALL.out W ((k9.mono fun k _ h=>by show k≠_;have:W5.heap.size<=k:=h;omega).trans (hkW.mono fun k _ h=>by show _<=k;have:W5.heap.size<=k:=h;omega));exact bodyPost_ret (v:=.tuple #[.agg #[(.int .i64 mb.room),(.int .i64 mb.gap),(.slice ea mb.ms.length ec),(.slice ga mb.ss.length gc),(.slice ia mb.rs.length ic)],.int .i64 t]) (by simp [results,Tryz.results14,go_sem,c0,c1,c2,c3,c4]) rfl ⟨_,_,_,_,_,rfl,hall,hbw⟩
theorem connect_at (hB:BookAt w b vr vg vm vs vc) (hN:∀ m∈b.ms,m.name.size<=1000000) (hK:KindsAt w) {xa:Option Addr} {xc:Nat} {x:List Prt} (hP:PartsAt w xa x) (hxl:x.length<=1000000) (hxc:x.length<=xc) {t:Int} (ht:connectAl b x=t) {mb:Bk} (hmb:(if t=0 then moreS b x else noBook)=mb) :
 Calls Tryz.prog 14 #[.agg #[vr,vg,vm,vs,vc],.agg #[.slice xa x.length xc]] w (BookRet w mb t):=by
 subst hmb;unfold connectAl at ht;by_cases h0:bookAl b=0
 ·rw [if_neg (by simp [h0])] at ht;exact connect_ok hB hN hK hP hxl hxc h0 ht
 ·rw [if_pos h0] at ht;subst ht;rw [if_neg h0];exact connect_no hB hN hK h0
end
end
section
open Go.RowKit Go.Maps Sp
end
section
open Go.RowKit Sp
def fewerI (x y:List Int):Bool:=decide (x.length < y.length) || (decide (x.length=y.length) && lesserI x y)
theorem cmp_lesser:∀ (l m:List Int),decide (cmpI l m < 0)=lesserI l m
 | [],[]=>rfl
 | [],_::_=>rfl
 | _::_,[]=>rfl
 | a::l,b::m=>by
  unfold cmpI lesserI;by_cases h:a=b
  ·subst h;rw [if_neg (by omega),if_neg (by omega),if_pos rfl];exact cmp_lesser l m
  ·rw [if_neg h];by_cases h1:a < b
   ·rw [if_pos h1];simp [h1]
   ·rw [if_neg h1,if_pos (by omega)];simp [h1]
theorem lesser_trans:∀ {a b c:List Int},lesserI a b=true->lesserI b c=true->lesserI a c=true
 | [],[],_,h,_=>by cases h
 | _::_,[],_,h,_=>by simp [lesserI] at h
 | [],_::_,[],_,h=>by simp [lesserI] at h
 | [],_::_,_::_,_,_=>rfl
 | _::_,_::_,[],_,h=>by simp [lesserI] at h
 | x::a,y::b,z::c,h,k=>by
  unfold lesserI at h k ⊢;by_cases e:x=y
  ·subst e;rw [if_pos rfl] at h;by_cases e2:x=z
   ·rw [if_pos e2] at k ⊢;exact lesser_trans h k
   ·rw [if_neg e2] at k ⊢;exact k
  ·rw [if_neg e] at h;by_cases e2:y=z
   ·subst e2;rw [if_neg e];exact h
   ·rw [if_neg e2] at k;simp only [decide_eq_true_eq] at h k;rw [if_neg (by omega)];simp only [decide_eq_true_eq];omega
theorem fewer_trans {a b c:List Int} (h:fewerI a b=true) (k:fewerI b c=true):fewerI a c=true:=by
 unfold fewerI at *;simp only [Bool.or_eq_true,Bool.and_eq_true,decide_eq_true_eq] at *;rcases h with h | ⟨h1,h2⟩
 ·rcases k with k | ⟨k1,k2⟩
  ·exact .inl (by omega)
  ·exact .inl (by omega)
 ·rcases k with k | ⟨k1,k2⟩
  ·exact .inl (by omega)
  ·exact .inr ⟨by omega,lesser_trans h2 k2⟩
theorem lesser_irrefl:∀ a:List Int,lesserI a a=false
 | []=>rfl
 | x::a=>by unfold lesserI;rw [if_pos rfl];exact lesser_irrefl a
theorem fewer_irrefl (a:List Int):fewerI a a=false:=by unfold fewerI;simp [lesser_irrefl]
def pickStep (n:Nat) (E:Nat->Bool) (st:Option (List Int)) (mask:Nat):Option (List Int) :=
 if (match st with | none=>false | some y=>decide (y.length < (idxI mask n).length) || (decide ((idxI mask n).length=y.length) && decide (0<=cmpI (idxI mask n) y))) then st
 else if E mask then some (idxI mask n) else st
def PickInv (n:Nat) (E:Nat->Bool) (k:Nat):Option (List Int)->Prop
 | none=>∀ m,m < k->E m=false
 | some y=>(∃ m,m < k/\E m=true/\y=idxI m n)/\∀ m,m < k->E m=true->fewerI (idxI m n) y=false
theorem stay_iff (x y:List Int):(decide (y.length < x.length) || (decide (x.length=y.length) && decide (0<=cmpI x y)))=!fewerI x y:=by
 have h:=cmp_lesser x y;unfold fewerI;rw [<- h];by_cases h1:x.length < y.length
 ·simp [h1];omega
 ·by_cases h2:y.length < x.length
  ·simp [h2];omega
  ·have:x.length=y.length:=by omega
   by_cases h3:cmpI x y < 0
   ·simp [this,h3]
   ·simp [this,h3];omega
theorem pick_inv (n:Nat) (E:Nat->Bool):∀ k,PickInv n E k ((List.range k).foldl (pickStep n E) none)
 | 0=>fun m h=>absurd h (Nat.not_lt_zero _)
 | k+1=>by
  have ih:=pick_inv n E k;rw [List.range_succ,List.foldl_append];generalize (List.range k).foldl (pickStep n E) none=st at ih;simp only [List.foldl_cons,List.foldl_nil]
  cases st with
  | none =>
   unfold pickStep;simp only [Bool.false_eq_true,if_false];by_cases he:E k=true
   ·rw [if_pos he];refine ⟨⟨k,by omega,he,rfl⟩,fun m hm hE=>?_⟩;by_cases e:m=k
    ·subst e;exact fewer_irrefl _
    ·have:=ih m (by omega);rw [this] at hE;cases hE
   ·rw [if_neg he];intro m hm;by_cases e:m=k
    ·subst e;simpa using he
    ·exact ih m (by omega)
  | some y =>
   obtain ⟨⟨m0,h0,hE0,hy⟩,hmin⟩:=ih;unfold pickStep;simp only [stay_iff];by_cases hf:fewerI (idxI k n) y=true
   ·rw [if_neg (by simp [hf])];by_cases he:E k=true
    ·rw [if_pos he];refine ⟨⟨k,by omega,he,rfl⟩,fun m hm hE=>?_⟩;by_cases e:m=k
     ·subst e;exact fewer_irrefl _
     ·cases hc:fewerI (idxI m n) (idxI k n) with
      | false=>rfl
      | true =>
       have:=fewer_trans hc hf;rw [hmin m (by omega) hE] at this;cases this
    ·rw [if_neg he];refine ⟨⟨m0,by omega,hE0,hy⟩,fun m hm hE=>?_⟩;by_cases e:m=k
     ·subst e;exact absurd hE he
     ·exact hmin m (by omega) hE
   ·rw [if_pos (by simp [hf])];refine ⟨⟨m0,by omega,hE0,hy⟩,fun m hm hE=>?_⟩;by_cases e:m=k
    ·subst e;simpa using hf
    ·exact hmin m (by omega) hE
theorem mask_of (p:Nat->Bool):∀ n,∃ m,m < 2 ^ n/\∀ i,i < n->m.testBit i=p i
 | 0=>⟨0,by simp,fun i h=>absurd h (Nat.not_lt_zero _)⟩
 | n+1=>by
  obtain ⟨m,h1,h2⟩:=mask_of p n;by_cases hp:p n=true
  ·refine ⟨2 ^ n+m,by rw [Nat.pow_succ];omega,fun i hi=>?_⟩;by_cases e:i=n
   ·subst e;rw [Nat.testBit_two_pow_add_eq,Nat.testBit_lt_two_pow h1,hp];rfl
   ·rw [Nat.testBit_two_pow_add_gt (by omega)];exact h2 i (by omega)
  ·refine ⟨m,by rw [Nat.pow_succ];omega,fun i hi=>?_⟩;by_cases e:i=n
   ·subst e;rw [Nat.testBit_lt_two_pow h1];simp at hp;exact hp.symm
   ·exact h2 i (by omega)
theorem idxs_of {p:Nat->Bool} {m n:Nat} (h:∀ i,i < n->m.testBit i=p i):idxs m n=(List.range n).filter p:=by
 unfold idxs;refine List.filter_congr fun i hi=>h i (by simpa using hi)
theorem idxs_mod (m n:Nat):idxs (m % 2 ^ n) n=idxs m n:=by
 unfold idxs;refine List.filter_congr fun i hi=>?_;rw [Nat.testBit_mod_two_pow];simp at hi;simp [hi]
theorem erase_filter:∀ {l:List Nat} {i:Nat} (h:i < l.length),l.Nodup->l.eraseIdx i=l.filter (fun x=>decide (x≠l[i]))
 | x::l,0,_,hn=>by
  rw [List.nodup_cons] at hn;simp only [List.eraseIdx_cons_zero,List.getElem_cons_zero];rw [List.filter_cons_of_neg (by simp)];rw [List.filter_eq_self.2];intro y hy;simp only [ne_eq,decide_eq_true_eq];intro e;subst e;exact hn.1 hy
 | x::l,i+1,h,hn=>by
  rw [List.nodup_cons] at hn;have hi:i < l.length:=by simpa using h
  simp only [List.eraseIdx_cons_succ,List.getElem_cons_succ];rw [List.filter_cons_of_pos,erase_filter hi hn.2];simp only [ne_eq,decide_eq_true_eq];intro e;exact hn.1 (e ▸ List.getElem_mem hi)
theorem idxs_nodup (m n:Nat):(idxs m n).Nodup:=List.Pairwise.filter _ List.nodup_range
theorem idxs_erase {m n i:Nat} (h:i < (idxs m n).length):∃ m',m' < 2 ^ n/\idxs m' n=(idxs m n).eraseIdx i:=by
 obtain ⟨m',h1,h2⟩:=mask_of (fun j=>m.testBit j && decide (j≠(idxs m n)[i])) n;refine ⟨m',h1,?_⟩;rw [idxs_of h2,erase_filter h (idxs_nodup m n)];show _=((List.range n).filter fun i=>m.testBit i).filter _;rw [List.filter_filter];refine List.filter_congr fun j _=>?_;rw [Bool.and_comm]
theorem map_erase {α β:Type} (f:α->β):∀ (l:List α) (i:Nat),(l.eraseIdx i).map f=(l.map f).eraseIdx i
 | [],_=>by simp
 | x::l,0=>rfl
 | x::l,i+1=>by simp only [List.eraseIdx_cons_succ,List.map_cons,map_erase f l i]
theorem idxI_erase {m n i:Nat} (h:i < (idxI m n).length):∃ m',m' < 2 ^ n/\idxI m' n=(idxI m n).eraseIdx i:=by
 obtain ⟨m',h1,h2⟩:=idxs_erase (m:=m) (n:=n) (i:=i) (by simpa [idxI] using h);refine ⟨m',h1,?_⟩;unfold idxI;rw [h2,map_erase]
theorem erase_fewer {l:List Int} {i:Nat} (h:i < l.length):fewerI (l.eraseIdx i) l=true:=by
 unfold fewerI;have:=List.length_eraseIdx_of_lt h;simp;left;omega
theorem full_idxs (n:Nat):idxs (2 ^ n - 1) n=List.range n:=by
 unfold idxs;rw [List.filter_eq_self];intro i hi;rw [Nat.testBit_two_pow_sub_one];simpa using hi
def aloneB (b:Bk) (l:List Int):Bk:={ b with rs:=l.filterMap fun i=>b.rs[i.toNat]? }
theorem alone_idx (b:Bk) (m:Nat):aloneB b (idxI m b.rs.length)=subB b m:=by
 unfold aloneB subB recsOf idxI;rw [List.filterMap_map];rfl
theorem pasts_norecs {b:Bk} (h:b.rs=[]):pasts b≠[]:=fun e=>by
 have:List.replicate b.ss.length (0:Int)∈pasts b:=by
  refine mem_pasts.2 ⟨by simp,fun i hi=>?_,by unfold right;rw [h];rfl⟩;rw [List.getElem_replicate];exact ⟨by omega,by simpa using hi,by omega⟩
 rw [e] at this;cases this
theorem fewer_no {a b:List Int} (h:fewerI a b=false) (k:fewerI a b=true):False:=by rw [h] at k;cases k
theorem range_all:∀ l:List Rec,(List.range l.length).filterMap (fun i=>l[i]?)=l
 | []=>rfl
 | x::l=>by
  rw [List.length_cons,List.range_succ_eq_map];simp only [List.filterMap_cons,List.getElem?_cons_zero,List.filterMap_map,Function.comp_def,List.getElem?_cons_succ,Nat.succ_eq_add_one];rw [range_all l]
theorem clash_law {b:Bk} (hp:pasts b=[]):(∃ m,m < 2 ^ b.rs.length/\clashI b=idxI m b.rs.length)/\clashI b≠[]/\pasts (aloneB b (clashI b))=[]/\(∀ i,i < (clashI b).length->pasts (aloneB b ((clashI b).eraseIdx i))≠[]) /\
 ∀ m,pasts (aloneB b (idxI m b.rs.length))=[]->fewerI (idxI m b.rs.length) (clashI b)=false:=by
 have hfold:clashStep b=pickStep b.rs.length (fun m=>(pasts (subB b m)).isEmpty):=rfl;have hinv:=pick_inv b.rs.length (fun m=>(pasts (subB b m)).isEmpty) (2 ^ b.rs.length);have hc:clashI b=((List.range (2 ^ b.rs.length)).foldl (pickStep b.rs.length fun m=>(pasts (subB b m)).isEmpty) none).getD []:=by unfold clashI;rw [hfold]
 have hpos:0 < 2 ^ b.rs.length:=Nat.two_pow_pos _;have hfull:pasts (subB b (2 ^ b.rs.length - 1))=[]:=by
  have e:subB b (2 ^ b.rs.length - 1)=b:=by
   unfold subB recsOf;rw [full_idxs,range_all]
  rw [e];exact hp
 generalize hst:(List.range (2 ^ b.rs.length)).foldl (pickStep b.rs.length fun m=>(pasts (subB b m)).isEmpty) none=st at hinv hc
 cases st with
 | none =>
  have:=hinv (2 ^ b.rs.length - 1) (by omega);simp only [hfull] at this;cases this
 | some y =>
  obtain ⟨⟨m0,h0,hE0,hy⟩,hmin⟩:=hinv;have hcy:clashI b=y:=hc;rw [hcy];have hmin':∀ m,pasts (aloneB b (idxI m b.rs.length))=[]->fewerI (idxI m b.rs.length) y=false:=fun m hm=>by
   have e:idxI (m % 2 ^ b.rs.length) b.rs.length=idxI m b.rs.length:=by unfold idxI;rw [idxs_mod]
   rw [<- e] at hm ⊢;refine hmin _ (Nat.mod_lt _ hpos) ?_;rw [alone_idx] at hm;show (pasts (subB b _)).isEmpty=true;rw [hm];rfl
  have hyp:pasts (aloneB b y)=[]:=by
   rw [hy,alone_idx];simpa using hE0
  refine ⟨⟨m0,h0,hy⟩,fun e=>?_,hyp,fun i hi e=>?_,hmin'⟩
  ·rw [e] at hyp;exact pasts_norecs (b:=aloneB b []) rfl hyp
  ·rw [hy] at e hi;obtain ⟨m',_,h2⟩:=idxI_erase hi;rw [<- h2] at e;have:=hmin' m' e;rw [h2,<- hy] at this;rw [<- hy] at hi;exact fewer_no this (erase_fewer hi)
end
section
open Go.RowKit Go.Maps Sp
section
variable {w:World} {la:Option Addr} {lc n:Nat} {l:List Int}
theorem fewer_at {ma:Option Addr} {mc mn:Nat} {m:List Int} (hL:IntsAt w la l) (hM:IntsAt w ma m) (hn:n=l.length) (hm:mn=m.length) (hl:l.length<=1000000) (hml:m.length<=1000000) {t:Bool} (ht:fewerI l m=t) :
 Calls Tryz.prog 38 #[.slice la n lc,.slice ma mn mc] w fun e w'=>e=.returned (.bool t)/\Below w.heap.size w w':=by
 subst hn hm;have HL:=Hh hL;have HM:=Hh hM;have HT:=Hh ht;clear hL hM ht;by_cases h1:l.length < m.length
 ·have e:t=true:=by rw [<- HT.out];unfold fewerI;simp [h1]
  subst e
  go_enter Tryz.func38,Tryz.ntmps38
  go_wp2;go_ret;exact ⟨rfl,bel⟩
 ·by_cases h2:l.length=m.length
  ·have e:lesserI l m=t:=by rw [<- HT.out];unfold fewerI;simp [h2]
   have HE:=Hh e;have hd:((l.length:Int) == (m.length:Int))=true:=by simp [h2]
   clear h2 e
   go_enter Tryz.func38,Tryz.ntmps38
   go_wp2_with (go_at_call 40;(with_reducible refine (lesser_at HL.out HM.out rfl rfl hl hml HE.out).mono ?_);rintro e w' ⟨rfl,hb⟩);go_ret;exact ⟨rfl,bel⟩
  ·have e:t=false:=by rw [<- HT.out];unfold fewerI;simp [h1,h2]
   subst e;have hd:((l.length:Int) == (m.length:Int))=false:=by simp;omega
   go_enter Tryz.func38,Tryz.ntmps38
   go_wp2;go_ret;exact ⟨rfl,bel⟩
end
def U16sAt (w:World) (a:Option Addr) (l:List Int):Prop:=∀ i (h:i < l.length),∃ b o,a=some ⟨b,o,none⟩/\b < w.heap.size/\w.cell? ⟨b,o+i,none⟩=some (.int .u16 l[i])/\0<=l[i]/\l[i]<=65535
theorem U16sAt.below {w w':World} {a:Option Addr} {l:List Int} (h:U16sAt w a l) (hb:Below w.heap.size w w'):U16sAt w' a l:=fun i hi=>by
 obtain ⟨b,o,e,hlt,h1,h2⟩:=h i hi;exact ⟨b,o,e,Nat.lt_of_lt_of_le hlt hb.size,(hb.cell hlt).trans h1,h2⟩
section
variable {w:World} {la:Option Addr} {lc n:Nat} {l:List Int}
end
section
variable {b:Bk} {vr vg vm vs vc:Value} {w:World} {la:Option Addr} {lc n:Nat} {l:List Int}
end
section
variable {b:Bk} {vr vg vm vs vc:Value} {w:World} {la:Option Addr} {lc n:Nat} {l:List Prt}
end
theorem neqMsg (s:ByteArray) (a b:Int) (w:World):(binOp .neq 48 (.agg #[.string s,.int .i64 a,.int .i64 b]) (.agg #[.string s,.int .i64 a,.int .i64 b])).run Tryz.prog w=.ok (.bool false) w:=by
 have u3:=Tryz.underlying3;have u4:=Tryz.underlying9;have hS:Tryz.prog.underlying 48=some (.struct (Tryz.prog.fieldsOf 48)):=by kernel_rfl
 have hp:Tryz.prog.stoodInHeld 48=false:=by kernel_rfl
 rw [run_neq_struct,show (10000:Nat)=9999+1 from rfl,run_equalIn_agg w 9999 48 _ _ hS hp];simp only [Program.fieldsOf,Tryz.underlying48];go_simp
theorem neqRec (k a b m:Int) (w:World):(binOp .neq 29 (.agg #[.int .i64 k,.int .i64 a,.int .i64 b,.int .i64 m]) (.agg #[.int .i64 k,.int .i64 a,.int .i64 b,.int .i64 m])).run Tryz.prog w=.ok (.bool false) w:=by
 have u3:=Tryz.underlying3;have u4:=Tryz.underlying27;have hS:Tryz.prog.underlying 29=some (.struct (Tryz.prog.fieldsOf 29)):=by kernel_rfl
 have hp:Tryz.prog.stoodInHeld 29=false:=by kernel_rfl
 rw [run_neq_struct,show (10000:Nat)=9999+1 from rfl,run_equalIn_agg w 9999 29 _ _ hS hp];simp only [Program.fieldsOf,Tryz.underlying29];go_simp
theorem same_at {w:World} {b:Bk} {vr vg vm vs vc ur ug um us uc:Value} (hB:BookAt w b vr vg vm vs vc) (hC:BookAt w b ur ug um us uc) :
 Calls Tryz.prog 13 #[.agg #[vr,vg,vm,vs,vc],.agg #[ur,ug,um,us,uc]] w fun e w'=>e=.returned (.bool true)/\Below w.heap.size w w':=by
 obtain ⟨rfl,rfl,⟨ma,mc,rfl,hM,hml⟩,⟨sa,sc,rfl,hS,hsl⟩,ra,rc,rfl,hR,hrl⟩:=hB;obtain ⟨rfl,rfl,⟨na,nc,rfl,hN,_⟩,⟨ta,tc,rfl,hT,_⟩,qa,qc,rfl,hQ,_⟩:=hC;have HM:=Hh hM;have HN:=Hh hN;have HS:=Hh hS;have HT:=Hh hT;have HR:=Hh hR;have HQ:=Hh hQ;clear hM hN hS hT hR hQ
 go_enter Tryz.func13,Tryz.ntmps13
 go_wp2;obtain ⟨W0,hW0⟩:∃ W0,W0=(w.alloc (.cells #[.int .i64 b.room,.int .i64 b.gap,.slice ma b.ms.length mc,.slice sa b.ss.length sc,.slice ra b.rs.length rc] 26)).alloc (.cells #[.int .i64 b.room,.int .i64 b.gap,.slice na b.ms.length nc,.slice ta b.ss.length tc,.slice qa b.rs.length qc] 26):=⟨_,rfl⟩;rw [<- hW0];have hb0:Below w.heap.size w W0:=by rw [hW0];(exact bel)
 have nn:∀ k u,(#[.int .i64 b.room,.int .i64 b.gap,.slice ma b.ms.length mc,.slice sa b.ss.length sc,.slice ra b.rs.length rc]:Array Value)[k]? = some u->W0.cell? ⟨w.heap.size,k,none⟩=some u:=fun k u hk=>by
  rw [hW0,World.cell?_alloc_past _ _ _ (by simp),World.cell?_alloc_at _ _ _ _ rfl];exact hk
 have zz:∀ k u,(#[.int .i64 b.room,.int .i64 b.gap,.slice na b.ms.length nc,.slice ta b.ss.length tc,.slice qa b.rs.length qc]:Array Value)[k]? = some u->W0.cell? ⟨w.heap.size+1,k,none⟩=some u:=fun k u hk=>by
  rw [hW0,World.cell?_alloc_at _ _ _ _ (by simp)];exact hk
 have hs0:w.heap.size+1 < W0.heap.size:=by rw [hW0];simp
 have hs1:w.heap.size < W0.heap.size:=by omega
 have NN:=Hh nn;have ZZ:=Hh zz;have HB0:=Hh hb0;clear hW0 nn zz hb0;go_loopw [5] (fun i wr=>∃ k:Nat,k<=b.ms.length/\i=.int .i64 k/\Below W0.heap.size W0 wr) (fun i _=>b.ms.length - (intOf i).toNat)
 case atStart=>exact ⟨0,Nat.zero_le _,rfl,Below.refl _ _⟩
 case round =>
  obtain ⟨k,hk,rfl,hW⟩:=hrel;have hWs:=hW.size;have hbr:=Below.next HB0.out hW;have x0:=(hW.cell (p:=⟨w.heap.size,2,none⟩) hs1).trans (NN.out 2 _ rfl);have y0:=(hW.cell (p:=⟨w.heap.size+1,2,none⟩) hs0).trans (ZZ.out 2 _ rfl);have hx1:w.heap.size < wr.heap.size:=by omega
  have hx2:w.heap.size+1 < wr.heap.size:=by omega
  by_cases hlt:k < b.ms.length
  ·obtain ⟨lb,lo,rfl,hlb,e0,e1,e2⟩:=HM.out k hlt;obtain ⟨nb,no,rfl,hnb,f0,f1,f2⟩:=HN.out k hlt;have e0:=(hbr.cell hlb).trans e0;have e1:=(hbr.cell hlb).trans e1;have e2:=(hbr.cell hlb).trans e2;have f0:=(hbr.cell hnb).trans f0;have f1:=(hbr.cell hnb).trans f1;have f2:=(hbr.cell hnb).trans f2;have hlb2:lb < wr.heap.size:=Nat.lt_of_lt_of_le hlb hbr.size;have hnb2:nb < wr.heap.size:=Nat.lt_of_lt_of_le hnb hbr.size;generalize b.ms[k]=m at e0 e1 e2 f0 f1 f2;have heq:=fun w=>neqMsg m.name m.groups m.due w;go_wp2;go_quiet (fail);go_wp2;go_roundw
   case rel=>exact ⟨k+1,by omega,by go_num,bel⟩
   case measure=>simp [intOf];omega
  ·obtain rfl:k=b.ms.length:=by omega
   clear hlt;go_wp2;go_loopw [6] (fun i wr=>∃ k:Nat,k<=b.ss.length/\i=.int .i64 k/\Below W0.heap.size W0 wr) (fun i _=>b.ss.length - (intOf i).toNat)
   case atStart=>exact ⟨0,Nat.zero_le _,rfl,hW⟩
   case round =>
    obtain ⟨k,hk,rfl,hW⟩:=hrel;have hWs:=hW.size;have hbr:=Below.next HB0.out hW;have x0:=(hW.cell (p:=⟨w.heap.size,3,none⟩) hs1).trans (NN.out 3 _ rfl);have y0:=(hW.cell (p:=⟨w.heap.size+1,3,none⟩) hs0).trans (ZZ.out 3 _ rfl);have hx1:w.heap.size < wr.heap.size:=by omega
    have hx2:w.heap.size+1 < wr.heap.size:=by omega
    by_cases hlt:k < b.ss.length
    ·obtain ⟨lb,lo,rfl,hlb,pa,pc,e0,g1,g2,g3⟩:=HS.out k hlt;obtain ⟨nb,no,rfl,hnb,pa2,pc2,f0,i1,i2,i3⟩:=HT.out k hlt;have e0:=(hbr.cell hlb).trans e0;have f0:=(hbr.cell hnb).trans f0;have hlb2:lb < wr.heap.size:=Nat.lt_of_lt_of_le hlb hbr.size;have hnb2:nb < wr.heap.size:=Nat.lt_of_lt_of_le hnb hbr.size;generalize b.ss[k]=m at e0 f0 g1 g2 g3 i1 i2 i3;have G3:=Hh (g3.below hbr);have I3:=Hh (i3.below hbr);clear g3 i3;go_wp2
     (refine wp_region_bel (by kernel_rfl) (by kernel_rfl) ?_;(repeat (go_big_quiet_step ((go_at_call 29;with_reducible exact Calls.bel_of (sameParts_at (t:=true) (G3.out.below (later_below _ _)) (I3.out.below (later_below _ _)) rfl rfl g2 g2 (by simp))))));refine wpQuiet_nil ?_;rintro _ ⟨xq,rfl⟩)
     go_wp2;go_roundw
     case rel=>exact ⟨k+1,by omega,by go_num,Below.next hW (later_below _ _)⟩
     case measure=>simp [intOf];omega
    ·obtain rfl:k=b.ss.length:=by omega
     clear hlt;go_wp2;go_loopw [7] (fun i wr=>∃ k:Nat,k<=b.rs.length/\i=.int .i64 k/\Below W0.heap.size W0 wr) (fun i _=>b.rs.length - (intOf i).toNat)
     case atStart=>exact ⟨0,Nat.zero_le _,rfl,hW⟩
     case round =>
      obtain ⟨k,hk,rfl,hW⟩:=hrel;have hWs:=hW.size;have hbr:=Below.next HB0.out hW;have x0:=(hW.cell (p:=⟨w.heap.size,4,none⟩) hs1).trans (NN.out 4 _ rfl);have y0:=(hW.cell (p:=⟨w.heap.size+1,4,none⟩) hs0).trans (ZZ.out 4 _ rfl);have hx1:w.heap.size < wr.heap.size:=by omega
      have hx2:w.heap.size+1 < wr.heap.size:=by omega
      by_cases hlt:k < b.rs.length
      ·obtain ⟨lb,lo,rfl,hlb,e0,e1,e2,e3⟩:=HR.out k hlt;obtain ⟨nb,no,rfl,hnb,f0,f1,f2,f3⟩:=HQ.out k hlt;have e0:=(hbr.cell hlb).trans e0;have e1:=(hbr.cell hlb).trans e1;have e2:=(hbr.cell hlb).trans e2;have e3:=(hbr.cell hlb).trans e3;have f0:=(hbr.cell hnb).trans f0;have f1:=(hbr.cell hnb).trans f1;have f2:=(hbr.cell hnb).trans f2;have f3:=(hbr.cell hnb).trans f3;have hlb2:lb < wr.heap.size:=Nat.lt_of_lt_of_le hlb hbr.size;have hnb2:nb < wr.heap.size:=Nat.lt_of_lt_of_le hnb hbr.size;generalize b.rs[k]=m at e0 e1 e2 e3 f0 f1 f2 f3;have heq:=fun w=>neqRec m.k m.a m.b m.m w;go_wp2;go_quiet (fail);go_wp2;go_roundw
       case rel=>exact ⟨k+1,by omega,by go_num,bel⟩
       case measure=>simp [intOf];omega
      ·obtain rfl:k=b.rs.length:=by omega
       clear hlt;go_wp2;go_ret;exact ⟨rfl,hbr⟩
end
section
open Go.RowKit Go.Maps Sp Mt Go.Conc
section
variable {w w1:World} {B n:Nat} {b:Bk} {vr vg vm vs vc:Value}
structure BxSt (w:World) (B:Nat) (b:Bk) (vr vg vm vs vc:Value):Prop where
 c0:w.cell? ⟨B,0,none⟩=some vr
 c1:w.cell? ⟨B,1,none⟩=some vg
 c2:w.cell? ⟨B,2,none⟩=some vm
 c3:w.cell? ⟨B,3,none⟩=some vs
 c4:w.cell? ⟨B,4,none⟩=some vc
 bk:BookAt w b vr vg vm vs vc
 kd:KindsAt w
theorem BxSt.of {l:List Int} {la:Option Addr} (h:LawAt w B b l vr vg vm vs vc la) (hs:SmallB b):BxSt w B b vr vg vm vs vc:=⟨h.c0,h.c1,h.c2,h.c3,h.c4,h.raw.book hs,h.kd⟩
theorem BxSt.old (h:BxSt w B b vr vg vm vs vc) (t:Old w w1):BxSt w1 B b vr vg vm vs vc:=⟨t.cell2 h.c0,t.cell2 h.c1,t.cell2 h.c2,t.cell2 h.c3,t.cell2 h.c4,t.book h.bk,t.kinds h.kd⟩
theorem BxSt.twin (h:BxSt w B b vr vg vm vs vc) (t:Twin n w w1):BxSt w1 B b vr vg vm vs vc:=⟨(t.cell _).trans h.c0,(t.cell _).trans h.c1,(t.cell _).trans h.c2,(t.cell _).trans h.c3,(t.cell _).trans h.c4,t.book h.bk,t.kinds h.kd⟩
theorem stored_lead3 {w':World} (hK:KindsAt w) (t:Twin 0 w w') (c:Frame) (cs:List Frame):Leads Tryz.prog (fun fr' cs' w1=>∃ v,fr'=c.finish v/\cs'=cs/\v=.bool true/\Old w w1) (Frame.enter Tryz.prog 5 #[] .normal) (c::cs) w':=by
 refine (stored_co (t.kinds hK) c cs).mono ?_;rintro fr' cs' w2 ⟨h1,h2,ho⟩;exact ⟨_,h1,h2,rfl,t.old0 ho⟩
structure SxSt (w:World) (X:Nat) (x:List Prt) (xa:Option Addr) (xc:Nat):Prop where
 c:w.cell? ⟨X,0,none⟩=some (.slice xa x.length xc)
 le:x.length<=xc
 at_:PartsAt w xa x
theorem SxSt.old {X:Nat} {x:List Prt} {xa:Option Addr} {xc:Nat} (h:SxSt w X x xa xc) (t:Old w w1):SxSt w1 X x xa xc:=⟨t.cell2 h.c,h.le,t.parts h.at_⟩
theorem SxSt.twin {X:Nat} {x:List Prt} {xa:Option Addr} {xc:Nat} (h:SxSt w X x xa xc) (t:Twin n w w1):SxSt w1 X x xa xc:=⟨(t.cell _).trans h.c,h.le,t.parts h.at_⟩
structure RxSt (w:World) (X:Nat) (r:Rec):Prop where
 c0:w.cell? ⟨X,0,none⟩=some (.int .i64 r.k)
 c1:w.cell? ⟨X,1,none⟩=some (.int .i64 r.a)
 c2:w.cell? ⟨X,2,none⟩=some (.int .i64 r.b)
 c3:w.cell? ⟨X,3,none⟩=some (.int .i64 r.m)
theorem RxSt.old {X:Nat} {r:Rec} (h:RxSt w X r) (t:Old w w1):RxSt w1 X r:=⟨t.cell2 h.c0,t.cell2 h.c1,t.cell2 h.c2,t.cell2 h.c3⟩
theorem RxSt.twin {X:Nat} {r:Rec} (h:RxSt w X r) (t:Twin n w w1):RxSt w1 X r:=⟨(t.cell _).trans h.c0,(t.cell _).trans h.c1,(t.cell _).trans h.c2,(t.cell _).trans h.c3⟩
end
end
section
open Go.RowKit Sp
def restC:List Int->List (List Int)
 | []=>[]
 | a::l=>([]::restC l).map (a::·) ++ restC l
def choicesI (l:List Int):List (List Int):=[]::restC l
theorem mem_restC:∀ {l x:List Int},x∈restC l↔x.Sublist l/\x≠[]
 | [],x=>by simp [restC]
 | a::l,x=>by
  unfold restC;rw [List.mem_append,List.mem_map,mem_restC];constructor
  ·rintro (⟨y,hy,rfl⟩ | ⟨h1,h2⟩)
   ·rcases List.mem_cons.1 hy with rfl | hy
    ·exact ⟨List.Sublist.cons_cons a (List.nil_sublist l),by simp⟩
    ·exact ⟨List.Sublist.cons_cons a (mem_restC.1 hy).1,by simp⟩
   ·exact ⟨h1.cons a,h2⟩
  ·rintro ⟨h1,h2⟩
   cases h1 with
   | cons _ h=>exact .inr ⟨h,h2⟩
   | cons_cons _ h =>
    rename_i y
    refine .inl ⟨y,?_,rfl⟩;by_cases e:y=[]
    ·subst e;exact List.mem_cons_self ..
    ·exact List.mem_cons_of_mem _ (mem_restC.2 ⟨h,e⟩)
theorem mem_choices {l x:List Int}:x∈choicesI l↔x.Sublist l:=by
 unfold choicesI;rw [List.mem_cons,mem_restC];constructor
 ·rintro (rfl | h)
  ·exact List.nil_sublist l
  ·exact h.1
 ·intro h;by_cases e:x=[]
  ·exact .inl e
  ·exact .inr ⟨h,e⟩
theorem restC_len:∀ l:List Int,(restC l).length+1=2 ^ l.length
 | []=>rfl
 | a::l=>by
  have:=restC_len l;unfold restC;rw [List.length_append,List.length_map,List.length_cons,List.length_cons,Nat.pow_succ];omega
theorem choices_len (l:List Int):(choicesI l).length=2 ^ l.length:=restC_len l
def upI (n:Nat):List Int:=(List.range n).map fun (i:Nat)=>(i:Int)
theorem upI_len (n:Nat):(upI n).length=n:=by simp [upI]
theorem idx_sub (m n:Nat):(idxI m n).Sublist (upI n):=(List.filter_sublist (l:=List.range n)).map _
theorem filter_sub {l x:List Int} (hn:l.Nodup) (h:x.Sublist l):l.filter (fun a=>decide (a∈x))=x:=by
 induction h with
 | slnil=>rfl
 | cons a h ih =>
  rw [List.nodup_cons] at hn;rw [List.filter_cons_of_neg (by simp only [decide_eq_true_eq];exact fun ha=>hn.1 (h.subset ha)),ih hn.2]
 | cons_cons a h ih =>
  rw [List.nodup_cons] at hn;rw [List.filter_cons_of_pos (by simp)];congr 1;refine Eq.trans (List.filter_congr fun c hc=>?_) (ih hn.2);rw [decide_eq_decide,List.mem_cons];constructor
  ·rintro (rfl | h)
   ·exact absurd hc hn.1
   ·exact h
  ·exact .inr
theorem upI_nodup (n:Nat):(upI n).Nodup:=by
 unfold upI;exact List.Pairwise.map _ (fun a b h e=>h (Int.ofNat_inj.1 e)) List.nodup_range
theorem sub_idx {n:Nat} {x:List Int} (h:x.Sublist (upI n)):∃ m,m < 2 ^ n/\idxI m n=x:=by
 obtain ⟨m,h1,h2⟩:=mask_of (fun i=>decide (((i:Nat):Int)∈x)) n;refine ⟨m,h1,?_⟩;have e:=filter_sub (upI_nodup n) h;unfold idxI;rw [idxs_of h2]
 conv=>rhs;rw [<- e]
 unfold upI;rw [List.filter_map];rfl
theorem lesser_tri:∀ {a b:List Int},a.length=b.length->lesserI a b=false->lesserI b a=false->a=b
 | [],[],_,_,_=>rfl
 | [],_::_,h,_,_=>by simp at h
 | _::_,[],h,_,_=>by simp at h
 | x::a,y::b,h,h1,h2=>by
  unfold lesserI at h1 h2;by_cases e:x=y
  ·subst e;rw [if_pos rfl] at h1 h2;rw [lesser_tri (by simpa using h) h1 h2]
  ·rw [if_neg e] at h1;rw [if_neg (Ne.symm e)] at h2;simp only [decide_eq_false_iff_not] at h1 h2;omega
theorem fewer_tri {a b:List Int} (h1:fewerI a b=false) (h2:fewerI b a=false):a=b:=by
 unfold fewerI at h1 h2;simp only [Bool.or_eq_false_iff,decide_eq_false_iff_not] at h1 h2;have hl:a.length=b.length:=by omega
 have g1:lesserI a b=false:=by simpa [hl] using h1.2
 have g2:lesserI b a=false:=by simpa [hl] using h2.2
 exact lesser_tri hl g1 g2
def bestStep (E:List Int->Bool) (best x:List Int):List Int:=if (fewerI x best && E x)=true then x else best
theorem best_inv (E:List Int->Bool):∀ (l:List (List Int)) (s:List Int),E s=true ->
 E (l.foldl (bestStep E) s)=true/\(l.foldl (bestStep E) s=s\/l.foldl (bestStep E) s∈l)/\(∀ x∈l,E x=true->fewerI x (l.foldl (bestStep E) s)=false)/\(l.foldl (bestStep E) s=s\/fewerI (l.foldl (bestStep E) s) s=true)
 | [],s,h=>⟨h,.inl rfl,fun x hx=>(by cases hx),.inl rfl⟩
 | x::l,s,h=>by
  rw [List.foldl_cons];by_cases hc:(fewerI x s && E x)=true
  ·have e:bestStep E s x=x:=if_pos hc;rw [Bool.and_eq_true] at hc;rw [e];obtain ⟨h1,h2,h3,h4⟩:=best_inv E l x hc.2;generalize l.foldl (bestStep E) x=r at h1 h2 h3 h4;refine ⟨h1,.inr ?_,fun y hy hE=>?_,.inr ?_⟩
   ·rcases h2 with rfl | h2
    ·exact List.mem_cons_self ..
    ·exact List.mem_cons_of_mem _ h2
   ·rcases List.mem_cons.1 hy with rfl | hy
    ·rcases h4 with rfl | h4
     ·exact fewer_irrefl _
     ·cases hf:fewerI y r with
      | false=>rfl
      | true=>have:=fewer_trans hf h4;rw [fewer_irrefl] at this;cases this
    ·exact h3 y hy hE
   ·rcases h4 with rfl | h4
    ·exact hc.1
    ·exact fewer_trans h4 hc.1
  ·have e:bestStep E s x=s:=if_neg hc;rw [e];obtain ⟨h1,h2,h3,h4⟩:=best_inv E l s h;generalize l.foldl (bestStep E) s=r at h1 h2 h3 h4;refine ⟨h1,h2.imp id (List.mem_cons_of_mem _),fun y hy hE=>?_,h4⟩;rcases List.mem_cons.1 hy with rfl | hy
   ·rw [hE,Bool.and_true] at hc
    cases hf:fewerI y r with
    | false=>rfl
    | true =>
     rcases h4 with rfl | h4
     ·exact absurd hf hc
     ·exact absurd (fewer_trans hf h4) hc
   ·exact h3 y hy hE
def noPast (b:Bk) (x:List Int):Bool:=(pasts (aloneB b x)).isEmpty
def rClashI (b:Bk):List Int:=(choicesI (upI b.rs.length)).foldl (bestStep (noPast b)) (upI b.rs.length)
theorem alone_up (b:Bk):aloneB b (upI b.rs.length)=b:=by
 have e:upI b.rs.length=idxI (2 ^ b.rs.length - 1) b.rs.length:=by unfold upI idxI;rw [full_idxs]
 rw [e,alone_idx];unfold subB recsOf;rw [full_idxs,range_all]
theorem rClash_eq {b:Bk} (hp:pasts b=[]):rClashI b=clashI b:=by
 obtain ⟨⟨m,_,hm⟩,_,hc,_,hmin⟩:=clash_law hp;have h0:noPast b (upI b.rs.length)=true:=by unfold noPast;rw [alone_up,hp];rfl
 obtain ⟨h1,h2,h3,_⟩:=best_inv (noPast b) (choicesI (upI b.rs.length)) _ h0;have hs:(rClashI b).Sublist (upI b.rs.length):=by
  rcases h2 with h | h
  ·show List.Sublist ((choicesI (upI b.rs.length)).foldl (bestStep (noPast b)) (upI b.rs.length)) _;rw [h];exact List.Sublist.refl _
  ·exact mem_choices.1 h
 obtain ⟨m',_,e⟩:=sub_idx hs;have hE:pasts (aloneB b (rClashI b))=[]:=by
  have:(pasts (aloneB b (rClashI b))).isEmpty=true:=h1;simpa using this
 have k1:fewerI (rClashI b) (clashI b)=false:=by rw [<- e];exact hmin m' (by rw [e];exact hE)
 have k2:fewerI (clashI b) (rClashI b)=false:=h3 _ (mem_choices.2 (by rw [hm];exact idx_sub _ _)) (by unfold noPast;rw [hc];rfl);exact fewer_tri k1 k2
end
section
open Go.RowKit Go.Maps Sp
theorem upI_succ (n:Nat):upI (n+1)=upI n ++ [(n:Int)]:=by unfold upI;rw [List.range_succ,List.map_append];rfl
theorem intsV_parts {w:World} {a:Option Addr} {n c:Nat} {l:List Int} (h:IntsV w (.slice a n c) l):n=l.length/\IntsAt w a l/\(a=none->c=0)/\l.length<=c:=by
 obtain ⟨a',c',e,h1,h2,h3⟩:=h.form;cases e;exact ⟨rfl,h1,h2,h3⟩
theorem upTo_at {w:World} {n:Nat} (hn:n<=1000) :
 Calls Tryz.prog 36 #[.int .i64 n] w (fun e w'=>∃ a c,e=.returned (.slice a n c)/\IntsV w' (.slice a n c) (upI n)/\Below w.heap.size w w'):=by
 obtain ⟨i0,hi0,hz0,hz1,hz2⟩:=info_parts intInfo
 go_enter Tryz.func36,Tryz.ntmps36
 go_wp2;go_loopw [3,4] (fun v t wr=>∃ (k:Nat) (a:Option Addr) (c:Nat),k<=n/\t=.int .i64 k/\v=.slice a k c/\wr.ownsRow w.heap.size 3 1 (.slice a k c) k ((upI k).map (Value.int .i64))/\Below w.heap.size w wr) (fun _ t _=>n - (intOf t).toNat)
 case atStart=>exact ⟨0,none,0,Nat.zero_le _,rfl,rfl,by simpa [upI] using World.ownsRow_nil _ _ _ _,Below.refl _ _⟩
 case round =>
  obtain ⟨k,a,c,hk,rfl,rfl,hrow,hW⟩:=hrel;have hWs:=hW.size;have HROW:=Hh hrow;clear hrow;by_cases hlt:k < n
  ·have HUP:=Hh (upI_succ k);generalize upI k=q at HROW HUP;go_wp2_with (at_builtin;go_loud (refine wpList_append_own _ rfl _ _ 35 rfl w.heap.size 3 i0 (.int .i64 0) 1 8 Tryz.underlying35 hi0 hz0 hz1 hz2 rfl (by decide) _ _ _ rfl (HROW.out.alloc _) ⟨wr.heap.size,0,none⟩ 1 1 [.int .i64 k] rfl rfl (cells_new _ _ _) (by simp [Value.oneCell']) (by unfold maxLen;omega) (by omega) (by simp;omega) ?_;intro v' w5 hown' hgrow _;obtain ⟨g',cap',rfl⟩:=ownsRow_succ hown';have hb5:=below_own (HROW.out.alloc (.cells #[.int .i64 k] 3)) hgrow (by simp;omega)));have hb6:Below w.heap.size w w5:=(hW.alloc (by omega) _).trans hb5;have hb7:=Hh hb6;have HO:=Hh hown';clear hb6 hb5 hown' hgrow;go_roundw
   case rel=>exact ⟨k+1,some ⟨g',0,none⟩,cap',by omega,by go_num,rfl,by rw [HUP.out,List.map_append];exact HO.out,hb7.out⟩
   case measure=>simp [intOf];omega
  ·obtain rfl:k=n:=by omega
   go_wp2;go_ret;exact ⟨a,c,rfl,IntsV.of HROW.out,hW⟩
def preC (l:List Int):Nat->List (List Int)
 | 0=>[[]]
 | i+1=>preC l i ++ (choicesI (l.drop (i+1))).map (l.getD i 0::·)
theorem preC_all (l:List Int):∀ i,i<=l.length->preC l i ++ restC (l.drop i)=choicesI l
 | 0,_=>rfl
 | i+1,h=>by
  have ih:=preC_all l i (by omega);rw [List.drop_eq_getElem_cons (show i < l.length by omega)] at ih;unfold restC at ih;unfold preC;rw [List.append_assoc,List.getD_eq_getElem?_getD,List.getElem?_eq_getElem (show i < l.length by omega),Option.getD_some];exact ih
theorem preC_end (l:List Int):preC l l.length=choicesI l:=by
 have h:=preC_all l l.length (Nat.le_refl _);rw [List.drop_length] at h;simpa [restC] using h
theorem preC_len (l:List Int) (h5:l.length<=5) {i:Nat} (hi:i<=l.length):(preC l i).length<=32:=by
 have h:=congrArg List.length (preC_all l i hi);rw [List.length_append,choices_len] at h;have:2 ^ l.length<=2 ^ 5:=Nat.pow_le_pow_right (by decide) h5;omega
end
end Go.Proofs.YtojkofjcblmnjaaGreatDoor
