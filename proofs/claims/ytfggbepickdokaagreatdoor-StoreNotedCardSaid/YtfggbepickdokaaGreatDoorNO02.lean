/- Leads to StoreNoted of chapter 6: CN4 U1 U10 U12 SM B3 NO1. -/
import Derived.Test.YtfggbepickdokaaGreatDoorNO01
import Derived.StillTailTactics
set_option maxHeartbeats 16000000
set_option maxRecDepth 100000
set_option linter.all false
namespace Go.Proofs.YtfggbepickdokaaGreatDoor
open Go.RowKit Go.Maps Sp Go.Conc
def noteAl (b:Bk) (r:Rec):Int:=if bookAl b≠0 then bookAl b else openAl (moreR b r) 0
section
variable {b:Bk} {vr vg vm vs vc:Value} {w:World}
theorem note_no (hB:BookAt w b vr vg vm vs vc) (hN:∀ m∈b.ms,m.name.size≤1000000) (hK:KindsAt w) {r:Rec} (h0:bookAl b≠0) :
 Calls Tryz.prog 22 #[.agg #[vr,vg,vm,vs,vc],.agg #[.int .i64 r.k,.int .i64 r.a,.int .i64 r.b,.int .i64 r.m]] w (BookRet w noBook (bookAl b)):=by
 have HB:=Hh hB
 have HN:=Hh hN
 have HK:=Hh hK
 obtain ⟨t,ht⟩:∃ t,bookAl b=t:=⟨_,rfl⟩
 rw [ht] at h0 ⊢
 have HT:=Hh ht
 have hz3:(t != 0)=true:=by simpa using h0
 obtain ⟨rfl,rfl,⟨ma,mc,rfl,_,_⟩,⟨sa,sc,rfl,_,_⟩,ra,rc,rfl,_,_⟩:=id hB
 clear hB hN hK ht
 go_enter Tryz.func22,Tryz.ntmps22
 go_wp2_with (go_at_call 71;(with_reducible refine (checkBook_at (HB.out.below (bel)) HN.out (HK.out.below (bel)) HT.out).mono ?_);rintro e w3 ⟨rfl,hb3⟩;have zy:∀ k u,(#[.int .i64 0,.int .i64 0,.slice none 0 0,.slice none 0 0,.slice none 0 0]:Array Value)[k]? = some u→w3.cell? ⟨w.heap.size+2,k,none⟩=some u:=fun k u hk=>(hb3.cell (p:=⟨w.heap.size+2,k,none⟩) (by first | (simp;done) | (simp;omega))).trans (by rw [World.cell?_alloc_at _ _ _ _ (by first | (simp;done) | (simp;omega))];exact hk);have zz:∀ k,w3.frozen? ⟨w.heap.size+2,k,none⟩=false:=fun k=>(hb3.frozen (p:=⟨w.heap.size+2,k,none⟩) (by first | (simp;done) | (simp;omega))).trans (by rw [World.frozen?_alloc_at _ _ _ _ (by first | (simp;done) | (simp;omega))]);have zc0:=zy 0 _ rfl;have zc1:=zy 1 _ rfl;have zc2:=zy 2 _ rfl;have zc3:=zy 3 _ rfl;have zc4:=zy 4 _ rfl;have zf0:=zz 0;have zf1:=zz 1;have zf2:=zz 2;have zf3:=zz 3;have zf4:=zz 4;clear zy zz;have hs2:w.heap.size+2 < w3.heap.size:=(by have:=hb3.size;simp at this;omega);have hs1:w.heap.size+1 < w3.heap.size:=(by omega);have hs0:w.heap.size < w3.heap.size:=(by omega))
 exact bodyPost_ret (v:=.tuple #[.agg #[.int .i64 0,.int .i64 0,.slice none 0 0,.slice none 0 0,.slice none 0 0],.int .i64 t]) (by simp [results,Tryz.results22,go_sem, *]) rfl (BookRet.no ⟨rfl,bel⟩)
theorem nt_4c {A:World} {B R X:Nat} {n c:Nat} {a:Option Addr} {news:List Value} {r:Rec} {cd:Code} {ac:Act} (hc:cd=ntK 2) (ha:ac=ntF B X R fun i=>ac.tmps.getD i undef) (cb:A.cell? ⟨B,4,none⟩=some (.slice a n c)) (hz:A.frozen? ⟨B,4,none⟩=false) (x0:A.cell? ⟨X,0,none⟩=some (.int .i64 r.k)) (x1:A.cell? ⟨X,1,none⟩=some (.int .i64 r.a)) (x2:A.cell? ⟨X,2,none⟩=some (.int .i64 r.b)) (x3:A.cell? ⟨X,3,none⟩=some (.int .i64 r.m)) (hl:news.length=n * 4) (hn:n≤1000) (hs:SrcK A a news) (h1:∀ u∈news,u.oneCell'=true) :
 cd.wp Tryz.prog (NQ fun a' w2=>(∃ d,a'=ntF B X R d)∧∃ r1 y1 w4,w2=w4.setCell ⟨B,4,none⟩ (.slice r1 (n+1) y1)∧Below A.heap.size A w4∧w4.ownsRow A.heap.size 49 4 (.slice r1 (n+1) y1) (n+1) (news ++ [.int .i64 r.k,.int .i64 r.a,.int .i64 r.b,.int .i64 r.m])) ac A:=by
 rw [hc,ha]
 exact note_4 cb hz x0 x1 x2 x3 hl hn hs h1
theorem note_ok (hB:BookAt w b vr vg vm vs vc) (hN:∀ m∈b.ms,m.name.size≤1000000) (hK:KindsAt w) {r:Rec} (h0:bookAl b=0) {t:Int} (ht:openAl (moreR b r) 0=t) :
 Calls Tryz.prog 22 #[.agg #[vr,vg,vm,vs,vc],.agg #[.int .i64 r.k,.int .i64 r.a,.int .i64 r.b,.int .i64 r.m]] w (BookRet w (if t=0 then moreR b r else noBook) t):=by
 obtain ⟨mb,hmb⟩:∃ mb,(if t=0 then moreR b r else noBook)=mb:=⟨_,rfl⟩
 rw [hmb]
 have HMB:=Hh hmb
 clear hmb
 have HB:=Hh hB
 have HN:=Hh hN
 have HK:=Hh hK
 have HT:=Hh ht
 have H0:=Hh h0
 have hr5:b.rs.length≤5:=recs_len h0
 obtain ⟨rfl,rfl,⟨ma,mc,rfl,hM,hml⟩,⟨sa,sc,rfl,hS,hsl⟩,ra,rc,rfl,hR,hrl⟩:=id hB
 have HSRC:=Hh (recs_srcK hR)
 have HONE:=Hh (recs_one b.rs)
 have HLEN:=Hh (recs_len4 b.rs)
 clear hB hN hK ht h0 hM hS hR
 go_enter Tryz.func22,Tryz.ntmps22
 go_wp2_with (go_at_call 71;(with_reducible refine (checkBook_at (HB.out.below (bel)) HN.out (HK.out.below (bel)) H0.out).mono ?_);rintro e w3 ⟨rfl,hb3⟩;have yy:∀ k u,(#[.int .i64 b.room,.int .i64 b.gap,.slice ma b.ms.length mc,.slice sa b.ss.length sc,.slice ra b.rs.length rc]:Array Value)[k]? = some u→w3.cell? ⟨w.heap.size,k,none⟩=some u:=fun k u hk=>(hb3.cell (p:=⟨w.heap.size,k,none⟩) (by first | (simp;done) | (simp;omega))).trans (by rw [World.cell?_alloc_past _ _ _ (by first | (simp;done) | (simp;omega)),World.cell?_alloc_past _ _ _ (by first | (simp;done) | (simp;omega)),World.cell?_alloc_at _ _ _ _ (by first | (simp;done) | (simp;omega))];exact hk);have yz:∀ k,w3.frozen? ⟨w.heap.size,k,none⟩=false:=fun k=>(hb3.frozen (p:=⟨w.heap.size,k,none⟩) (by first | (simp;done) | (simp;omega))).trans (by rw [World.frozen?_alloc_past _ _ _ (by first | (simp;done) | (simp;omega)),World.frozen?_alloc_past _ _ _ (by first | (simp;done) | (simp;omega)),World.frozen?_alloc_at _ _ _ _ (by first | (simp;done) | (simp;omega))]);have xy:∀ k u,(#[.int .i64 r.k,.int .i64 r.a,.int .i64 r.b,.int .i64 r.m]:Array Value)[k]? = some u→w3.cell? ⟨w.heap.size+1,k,none⟩=some u:=fun k u hk=>(hb3.cell (p:=⟨w.heap.size+1,k,none⟩) (by first | (simp;done) | (simp;omega))).trans (by rw [World.cell?_alloc_past _ _ _ (by first | (simp;done) | (simp;omega)),World.cell?_alloc_at _ _ _ _ (by first | (simp;done) | (simp;omega))];exact hk);have xz:∀ k,w3.frozen? ⟨w.heap.size+1,k,none⟩=false:=fun k=>(hb3.frozen (p:=⟨w.heap.size+1,k,none⟩) (by first | (simp;done) | (simp;omega))).trans (by rw [World.frozen?_alloc_past _ _ _ (by first | (simp;done) | (simp;omega)),World.frozen?_alloc_at _ _ _ _ (by first | (simp;done) | (simp;omega))]);have zy:∀ k u,(#[.int .i64 0,.int .i64 0,.slice none 0 0,.slice none 0 0,.slice none 0 0]:Array Value)[k]? = some u→w3.cell? ⟨w.heap.size+2,k,none⟩=some u:=fun k u hk=>(hb3.cell (p:=⟨w.heap.size+2,k,none⟩) (by first | (simp;done) | (simp;omega))).trans (by rw [World.cell?_alloc_at _ _ _ _ (by first | (simp;done) | (simp;omega))];exact hk);have zz:∀ k,w3.frozen? ⟨w.heap.size+2,k,none⟩=false:=fun k=>(hb3.frozen (p:=⟨w.heap.size+2,k,none⟩) (by first | (simp;done) | (simp;omega))).trans (by rw [World.frozen?_alloc_at _ _ _ _ (by first | (simp;done) | (simp;omega))]);have HY:=Hh (And.intro yy yz);have HX:=Hh xy;have HZ:=Hh (And.intro zy zz);clear yy yz xy xz zy zz;have hs2:w.heap.size+2 < w3.heap.size:=(by have:=hb3.size;simp at this;omega);have hs1:w.heap.size+1 < w3.heap.size:=(by omega);have hs0:w.heap.size < w3.heap.size:=(by omega))
 refine Code.wp_mono ?_ (nt_4c (B:=w.heap.size) (X:=w.heap.size+1) (R:=w.heap.size+2) (by kernel_rfl) (by kernel_rfl) (HY.out.1 4 _ rfl) (HY.out.2 4) (HX.out 0 _ rfl) (HX.out 1 _ rfl) (HX.out 2 _ rfl) (HX.out 3 _ rfl) HLEN.out (by omega) (HSRC.out.below (bel)) HONE.out)
 intro e a' w2 h
 cases e <;> try exact h.elim
 obtain ⟨⟨d,rfl⟩,r1,y1,w4,rfl,hb4,hrow⟩:=h
 obtain ⟨W5,hW5⟩:∃ W5,W5=w4.setCell ⟨w.heap.size,4,none⟩ (.slice r1 (b.rs.length+1) y1):=⟨_,rfl⟩
 have ya:∀ k u,(#[.int .i64 b.room,.int .i64 b.gap,.slice ma b.ms.length mc,.slice sa b.ss.length sc,.slice ra b.rs.length rc]:Array Value)[k]? = some u→w4.cell? ⟨w.heap.size,k,none⟩=some u:=fun k u hk=>(hb4.cell (p:=⟨w.heap.size,k,none⟩) hs0).trans (HY.out.1 k u hk)
 have za:∀ k u,(#[.int .i64 0,.int .i64 0,.slice none 0 0,.slice none 0 0,.slice none 0 0]:Array Value)[k]? = some u→w4.cell? ⟨w.heap.size+2,k,none⟩=some u:=fun k u hk=>(hb4.cell (p:=⟨w.heap.size+2,k,none⟩) hs2).trans (HZ.out.1 k u hk)
 have zf:∀ k,w4.frozen? ⟨w.heap.size+2,k,none⟩=false:=fun k=>(hb4.frozen (p:=⟨w.heap.size+2,k,none⟩) hs2).trans (HZ.out.2 k)
 have n:∀ {i j:Nat},i≠j→(⟨w.heap.size,i,none⟩:Addr)≠⟨w.heap.size,j,none⟩:=fun hij e=>hij (by injection e)
 have hk5:KS (fun k=>k≠w.heap.size) w4 W5:=by rw [hW5];exact KS.setCell (by simp) _ _
 have hs4:=hb4.size
 have hs5:=hk5.size
 have hb3w:Below w.heap.size w w3:=bel
 have hb5:Below w.heap.size w W5:=hb3w.trans ((hb4.mono (by omega)).trans (hk5.toBelow (n:=w.heap.size) (by omega) (fun k hk=>by show k≠_;omega)))
 have q0:W5.cell? ⟨w.heap.size,0,none⟩=some (.int .i64 b.room):=by rw [hW5];rw [World.cell?_setCell_other (h:=n (by decide))];exact ya 0 _ rfl
 have q1:W5.cell? ⟨w.heap.size,1,none⟩=some (.int .i64 b.gap):=by rw [hW5];rw [World.cell?_setCell_other (h:=n (by decide))];exact ya 1 _ rfl
 have q2:W5.cell? ⟨w.heap.size,2,none⟩=some (.slice ma b.ms.length mc):=by rw [hW5];rw [World.cell?_setCell_other (h:=n (by decide))];exact ya 2 _ rfl
 have q3:W5.cell? ⟨w.heap.size,3,none⟩=some (.slice sa b.ss.length sc):=by rw [hW5];rw [World.cell?_setCell_other (h:=n (by decide))];exact ya 3 _ rfl
 have q4:W5.cell? ⟨w.heap.size,4,none⟩=some (.slice r1 (b.rs.length+1) y1):=by rw [hW5];exact World.cell?_setCell_same' _ _ _ (by rw [ya 4 _ rfl];rfl)
 have zr:∀ k u,(#[.int .i64 0,.int .i64 0,.slice none 0 0,.slice none 0 0,.slice none 0 0]:Array Value)[k]? = some u→W5.cell? ⟨w.heap.size+2,k,none⟩=some u:=fun k u hk=>(hk5.cell (x:=⟨w.heap.size+2,k,none⟩) (lt_of_cell (za k u hk)) (by show _≠_;simp)).trans (za k u hk)
 have zq:∀ k,W5.frozen? ⟨w.heap.size+2,k,none⟩=false:=fun k=>(hk5.frozen (x:=⟨w.heap.size+2,k,none⟩) (by have:=lt_of_cell (za 0 _ rfl);exact this) (by show _≠_;simp)).trans (zf k)
 have hbk:BookAt W5 (moreR b r) (.int .i64 b.room) (.int .i64 b.gap) (.slice ma b.ms.length mc) (.slice sa b.ss.length sc) (.slice r1 (b.rs.length+1) y1):=by
  obtain ⟨h1,h2,h3,h4,_⟩:=HB.out.below hb5
  have h:=ownsRow_ks hrow hk5 (fun k hk=>by show k≠_;omega)
  have e:b.rs.flatMap cellsR ++ [.int .i64 r.k,.int .i64 r.a,.int .i64 r.b,.int .i64 r.m]=(b.rs ++ [r]).flatMap cellsR:=by rw [List.flatMap_append];rfl
  rw [e] at h
  exact ⟨h1,h2,h3,h4,r1,y1,by simp [moreR],recs_of_row h,by simp [moreR];omega⟩
 have HB5:=Hh hb5
 have HBK:=Hh hbk
 have hK5:=Hh (HK.out.below hb5)
 have HZR:=Hh (And.intro zr zq)
 have HN2:=Hh (show ∀ m∈(moreR b r).ms,m.name.size≤1000000 from HN.out)
 rw [← hW5]
 have hR5:w.heap.size+2 < W5.heap.size:=by omega
 have hB5:w.heap.size < W5.heap.size:=by omega
 clear hW5 ya za zf hk5 hb3w hb5 zr zq hb4 hrow hb3 HY HX HZ HB HK HSRC HONE HLEN hbk
 simp only [ntF]
 go_wp2_with (go_at_call 73;(with_reducible refine (agreed_at HBK.out HN2.out hK5.out HT.out HMB.out).mono ?_);rintro e w6 ⟨ur,ug,um,us,uc,rfl,hall,hb6⟩;obtain ⟨rfl,rfl,⟨ea,ec,rfl,_⟩,⟨ga,gc,rfl,_⟩,ia,ic,rfl,_⟩:=id (hall _ (KS.refl _ _));have hs6:=hb6.size;have zy:∀ k u,(#[.int .i64 0,.int .i64 0,.slice none 0 0,.slice none 0 0,.slice none 0 0]:Array Value)[k]? = some u→w6.cell? ⟨w.heap.size+2,k,none⟩=some u:=(fun k u hk=>(hb6.cell (p:=⟨w.heap.size+2,k,none⟩) hR5).trans (HZR.out.1 k u hk));have zz:∀ k,w6.frozen? ⟨w.heap.size+2,k,none⟩=false:=(fun k=>(hb6.frozen (p:=⟨w.heap.size+2,k,none⟩) hR5).trans (HZR.out.2 k));have zc0:=zy 0 _ rfl;have zc1:=zy 1 _ rfl;have zc2:=zy 2 _ rfl;have zc3:=zy 3 _ rfl;have zc4:=zy 4 _ rfl;have zf0:=zz 0;have zf1:=zz 1;have zf2:=zz 2;have zf3:=zz 3;have zf4:=zz 4;clear zy zz;have hR6:w.heap.size+2 < w6.heap.size:=(by omega);have HALL:=Hh hall;clear hall)
 have five:=Five.put (r:=w.heap.size+2) (v0:=(.int .i64 mb.room)) (v1:=(.int .i64 mb.gap)) (v2:=(.slice ea mb.ms.length ec)) (v3:=(.slice ga mb.ss.length gc)) (v4:=(.slice ia mb.rs.length ic)) (w:=w6) (by rw [zc0];rfl) (by rw [zc1];rfl) (by rw [zc2];rfl) (by rw [zc3];rfl) (by rw [zc4];rfl) hR6
 obtain ⟨W9,hW9⟩:∃ W9,W9=((((w6.setCell ⟨w.heap.size+2,0,none⟩ (.int .i64 mb.room)).setCell ⟨w.heap.size+2,1,none⟩ (.int .i64 mb.gap)).setCell ⟨w.heap.size+2,2,none⟩ (.slice ea mb.ms.length ec)).setCell ⟨w.heap.size+2,3,none⟩ (.slice ga mb.ss.length gc)).setCell ⟨w.heap.size+2,4,none⟩ (.slice ia mb.rs.length ic):=⟨_,rfl⟩
 have k9:KS (fun k=>k≠w.heap.size+2) w6 W9:=by
  rw [hW9]
  exact ((((KS.setCell (by simp) _ _).trans (KS.setCell (by simp) _ _)).trans (KS.setCell (by simp) _ _)).trans (KS.setCell (by simp) _ _)).trans (KS.setCell (by simp) _ _)
 rw [← hW9] at five ⊢
 clear hW9 zc0 zc1 zc2 zc3 zc4 zf0 zf1 zf2 zf3 zf4
 obtain ⟨c0,c1,c2,c3,c4,_⟩:=five
 have hbw:=HB5.out.trans ((hb6.mono HB5.out.size).trans (k9.toBelow (n:=w.heap.size) (by omega) (fun k hk=>by show k≠_;omega)))
 have hall:∀ W,KS (fun k=>w.heap.size≤k) W9 W→BookAt W mb (.int .i64 mb.room) (.int .i64 mb.gap) (.slice ea mb.ms.length ec) (.slice ga mb.ss.length gc) (.slice ia mb.rs.length ic):=fun W hkW=>HALL.out W ((k9.mono fun k _ h=>by show k≠_;have:W5.heap.size≤k:=h;omega).trans (hkW.mono fun k _ h=>by show _≤k;have:W5.heap.size≤k:=h;omega))
 exact bodyPost_ret (v:=.tuple #[.agg #[(.int .i64 mb.room),(.int .i64 mb.gap),(.slice ea mb.ms.length ec),(.slice ga mb.ss.length gc),(.slice ia mb.rs.length ic)],.int .i64 t]) (by simp [results,Tryz.results22,go_sem,c0,c1,c2,c3,c4]) rfl ⟨_,_,_,_,_,rfl,hall,hbw⟩
theorem note_at (hB:BookAt w b vr vg vm vs vc) (hN:∀ m∈b.ms,m.name.size≤1000000) (hK:KindsAt w) {r:Rec} {t:Int} (ht:noteAl b r=t) {mb:Bk} (hmb:(if t=0 then moreR b r else noBook)=mb) :
 Calls Tryz.prog 22 #[.agg #[vr,vg,vm,vs,vc],.agg #[.int .i64 r.k,.int .i64 r.a,.int .i64 r.b,.int .i64 r.m]] w (BookRet w mb t):=by
 subst hmb
 unfold noteAl at ht
 by_cases h0:bookAl b=0
 ·rw [if_neg (by simp [h0])] at ht
  exact note_ok hB hN hK  h0 ht
 ·rw [if_pos h0] at ht
  subst ht
  rw [if_neg h0]
  exact note_no hB hN hK h0
end
end Go.Proofs.YtfggbepickdokaaGreatDoor
namespace Go.Proofs.YtfggbepickdokaaGreatDoor
open Go.RowKit Go.Maps Sp
theorem hasNum_at {la:Option Addr} {lc n:Nat} {l:List Int} {x:Int} {w:World} {t:Bool} (hL:IntsAt w la l) (hn:n=l.length) (hl:l.length≤1000000) (h:decide (x∈l)=t) :
 Calls Tryz.prog 83 #[.slice la n lc,.int .i64 x] w fun e w'=>e=.returned (.bool t)∧w'=w:=by
 subst hn
 have H:=Hh h;clear h
 have HP:=Hh hL;clear hL
 go_enter Tryz.func83,Tryz.ntmps83
 go_wp2
 go_loop [5] (fun i=>∃ k:Nat,k≤l.length∧i=.int .i64 k∧Hid (x ∉ l.take k)) (fun i=>l.length - (intOf i).toNat)
 case atStart=>exact ⟨0,Nat.zero_le _,rfl,by simp [Hid]⟩
 case round =>
  obtain ⟨k,hk,rfl,hno⟩:=hrel
  by_cases hlt:k < l.length
  ·obtain ⟨lb,lo,rfl,hlb,e0⟩:=HP.out k hlt
   have htk:=List.take_succ_eq_append_getElem hlt
   have hin:l[k]∈l:=List.getElem_mem hlt
   generalize l[k]=q at e0 htk hin
   have HTK:=Hh htk
   have HIN:=Hh hin
   clear htk hin
   by_cases hq:q=x
   ·subst hq
    have ht:t=true:=by rw [← H.out];simpa using HIN.out
    subst ht
    go_wp2
    go_ret
    exact ⟨rfl,rfl⟩
   ·have hd:(q == x)=false:=by simpa using hq
    have hn2:x ∉ l.take (k+1):=by
     rw [HTK.out]
     simp only [List.mem_append,List.mem_singleton,not_or]
     exact ⟨hno.out,fun h=>hq h.symm⟩
    have HN:=Hh hn2
    clear hq hn2
    go_wp2
    go_round
    case rel=>exact ⟨k+1,by omega,by go_num,HN.out⟩
    case measure=>simp [intOf];omega
  ·have ht:t=false:=by
    have:=hno.out
    rw [List.take_of_length_le (by omega)] at this
    rw [← H.out];simpa using this
   subst ht
   go_wp2
   go_ret
   exact ⟨rfl,rfl⟩
def U16sAt (w:World) (a:Option Addr) (l:List Int):Prop:=∀ i (h:i < l.length),∃ b o,a=some ⟨b,o,none⟩∧b < w.heap.size∧w.cell? ⟨b,o+i,none⟩=some (.int .u16 l[i])∧0≤l[i]∧l[i]≤65535
theorem U16sAt.below {w w':World} {a:Option Addr} {l:List Int} (h:U16sAt w a l) (hb:Below w.heap.size w w'):U16sAt w' a l:=fun i hi=>by
 obtain ⟨b,o,e,hlt,h1,h2⟩:=h i hi
 exact ⟨b,o,e,Nat.lt_of_lt_of_le hlt hb.size,(hb.cell hlt).trans h1,h2⟩
section
variable {w:World} {la:Option Addr} {lc n:Nat} {l:List Int}
end
section
variable {b:Bk} {vr vg vm vs vc:Value} {w:World} {la:Option Addr} {lc n:Nat} {l:List Int}
end
theorem hasPart_at {pa:Option Addr} {pc n:Nat} {l:List Prt} {p:Prt} {w:World} {t:Bool} (hP:PartsAt w pa l) (hn:n=l.length) (hl:l.length≤1000000) (h:decide (p∈l)=t) :
 Calls Tryz.prog 31 #[.slice pa n pc,.agg #[.int .i64 p.1,.int .i64 p.2]] w fun e w'=>e=.returned (.bool t)∧Below w.heap.size w w':=by
 subst hn
 obtain ⟨pm,pg⟩:=p
 have H:=Hh h;clear h
 have HP:=Hh hP;clear hP
 go_enter Tryz.func31,Tryz.ntmps31
 go_wp2
 obtain ⟨W0,hW0⟩:∃ W0,W0=w.alloc (.cells #[.int .i64 pm,.int .i64 pg] 65):=⟨_,rfl⟩
 rw [← hW0]
 have hb0:Below w.heap.size w W0:=by rw [hW0];(exact bel)
 have c0:W0.cell? ⟨w.heap.size,0,none⟩=some (.int .i64 pm):=by rw [hW0,World.cell?_alloc_at _ _ _ _ rfl];rfl
 have c1:W0.cell? ⟨w.heap.size,1,none⟩=some (.int .i64 pg):=by rw [hW0,World.cell?_alloc_at _ _ _ _ rfl];rfl
 have hs0:w.heap.size < W0.heap.size:=by rw [hW0];simp
 clear hW0
 go_loopw [5] (fun i wr=>∃ k:Nat,k≤l.length∧i=.int .i64 k∧Hid ((pm,pg) ∉ l.take k)∧Below W0.heap.size W0 wr) (fun i _=>l.length - (intOf i).toNat)
 case atStart=>exact ⟨0,Nat.zero_le _,rfl,by simp [Hid],Below.refl _ _⟩
 case round =>
  obtain ⟨k,hk,rfl,hno,hW⟩:=hrel
  have hWs:=hW.size
  by_cases hlt:k < l.length
  ·obtain ⟨lb,lo,rfl,hlb,e0,e1⟩:=HP.out k hlt
   have hb1:=Below.next hb0 hW
   have d0:=(hb1.cell hlb).trans e0
   have d1:=(hb1.cell hlb).trans e1
   have x0:=(hW.cell (p:=⟨w.heap.size,0,none⟩) hs0).trans c0
   have x1:=(hW.cell (p:=⟨w.heap.size,1,none⟩) hs0).trans c1
   have hlb2:lb < wr.heap.size:=Nat.lt_of_lt_of_le hlb hb1.size
   have hx2:w.heap.size < wr.heap.size:=by omega
   have htk:=List.take_succ_eq_append_getElem hlt
   have hin:l[k]∈l:=List.getElem_mem hlt
   generalize l[k]=q at d0 d1 htk hin
   obtain ⟨qm,qg⟩:=q
   simp only at d0 d1
   have HTK:=Hh htk
   have HIN:=Hh hin
   clear htk e0 e1 c0 c1 hin
   by_cases hq:qm=pm∧qg=pg
   ·obtain ⟨rfl,rfl⟩:=hq
    have heq:=fun w=>(eqPart qm qg qm qg w).trans (by simp:_=Result.ok (Value.bool true) w)
    have ht:t=true:=by rw [← H.out];simpa using HIN.out
    subst ht
    go_wp2
    go_quiet (fail)
    go_wp2
    go_ret
    exact ⟨rfl,bel⟩
   ·have heq:=fun w=>(eqPart qm qg pm pg w).trans (show _=Result.ok (Value.bool false) w by
     have:(qm == pm && qg == pg)=false:=by simpa using hq
     rw [this])
    have hn2:(pm,pg) ∉ l.take (k+1):=by
     rw [HTK.out]
     simp only [List.mem_append,List.mem_singleton,Prod.mk.injEq,not_or]
     exact ⟨hno.out,fun h=>hq ⟨h.1.symm,h.2.symm⟩⟩
    have HN:=Hh hn2
    clear hq hn2
    go_wp2
    go_quiet (fail)
    go_wp2
    go_roundw
    case rel=>exact ⟨k+1,by omega,by go_num,HN.out,bel⟩
    case measure=>simp [intOf];omega
  ·have ht:t=false:=by
    have:=hno.out
    rw [List.take_of_length_le (by omega)] at this
    rw [← H.out];simpa using this
   subst ht
   go_wp2
   go_ret
   exact ⟨rfl,bel⟩
section
variable {b:Bk} {vr vg vm vs vc:Value} {w:World} {la:Option Addr} {lc n:Nat} {l:List Prt}
end
theorem neqMsg (s:ByteArray) (a b:Int) (w:World):(binOp .neq 76 (.agg #[.string s,.int .i64 a,.int .i64 b]) (.agg #[.string s,.int .i64 a,.int .i64 b])).run Tryz.prog w=.ok (.bool false) w:=by
 have u3:=Tryz.underlying3
 have u4:=Tryz.underlying9
 have hS:Tryz.prog.underlying 76=some (.struct (Tryz.prog.fieldsOf 76)):=by kernel_rfl
 have hp:Tryz.prog.stoodInHeld 76=false:=by kernel_rfl
 rw [run_neq_struct,show (10000:Nat)=9999+1 from rfl,run_equalIn_agg w 9999 76 _ _ hS hp]
 simp only [Program.fieldsOf,Tryz.underlying76]
 go_simp
theorem neqRec (k a b m:Int) (w:World):(binOp .neq 49 (.agg #[.int .i64 k,.int .i64 a,.int .i64 b,.int .i64 m]) (.agg #[.int .i64 k,.int .i64 a,.int .i64 b,.int .i64 m])).run Tryz.prog w=.ok (.bool false) w:=by
 have u3:=Tryz.underlying3
 have u4:=Tryz.underlying47
 have hS:Tryz.prog.underlying 49=some (.struct (Tryz.prog.fieldsOf 49)):=by kernel_rfl
 have hp:Tryz.prog.stoodInHeld 49=false:=by kernel_rfl
 rw [run_neq_struct,show (10000:Nat)=9999+1 from rfl,run_equalIn_agg w 9999 49 _ _ hS hp]
 simp only [Program.fieldsOf,Tryz.underlying49]
 go_simp
theorem same_at {w:World} {b:Bk} {vr vg vm vs vc ur ug um us uc:Value} (hB:BookAt w b vr vg vm vs vc) (hC:BookAt w b ur ug um us uc) :
 Calls Tryz.prog 24 #[.agg #[vr,vg,vm,vs,vc],.agg #[ur,ug,um,us,uc]] w fun e w'=>e=.returned (.bool true)∧Below w.heap.size w w':=by
 obtain ⟨rfl,rfl,⟨ma,mc,rfl,hM,hml⟩,⟨sa,sc,rfl,hS,hsl⟩,ra,rc,rfl,hR,hrl⟩:=hB
 obtain ⟨rfl,rfl,⟨na,nc,rfl,hN,_⟩,⟨ta,tc,rfl,hT,_⟩,qa,qc,rfl,hQ,_⟩:=hC
 have HM:=Hh hM
 have HN:=Hh hN
 have HS:=Hh hS
 have HT:=Hh hT
 have HR:=Hh hR
 have HQ:=Hh hQ
 clear hM hN hS hT hR hQ
 go_enter Tryz.func24,Tryz.ntmps24
 go_wp2
 obtain ⟨W0,hW0⟩:∃ W0,W0=(w.alloc (.cells #[.int .i64 b.room,.int .i64 b.gap,.slice ma b.ms.length mc,.slice sa b.ss.length sc,.slice ra b.rs.length rc] 26)).alloc (.cells #[.int .i64 b.room,.int .i64 b.gap,.slice na b.ms.length nc,.slice ta b.ss.length tc,.slice qa b.rs.length qc] 26):=⟨_,rfl⟩
 rw [← hW0]
 have hb0:Below w.heap.size w W0:=by rw [hW0];(exact bel)
 have nn:∀ k u,(#[.int .i64 b.room,.int .i64 b.gap,.slice ma b.ms.length mc,.slice sa b.ss.length sc,.slice ra b.rs.length rc]:Array Value)[k]? = some u→W0.cell? ⟨w.heap.size,k,none⟩=some u:=fun k u hk=>by
  rw [hW0,World.cell?_alloc_past _ _ _ (by simp),World.cell?_alloc_at _ _ _ _ rfl];exact hk
 have zz:∀ k u,(#[.int .i64 b.room,.int .i64 b.gap,.slice na b.ms.length nc,.slice ta b.ss.length tc,.slice qa b.rs.length qc]:Array Value)[k]? = some u→W0.cell? ⟨w.heap.size+1,k,none⟩=some u:=fun k u hk=>by
  rw [hW0,World.cell?_alloc_at _ _ _ _ (by simp)];exact hk
 have hs0:w.heap.size+1 < W0.heap.size:=by rw [hW0];simp
 have hs1:w.heap.size < W0.heap.size:=by omega
 have NN:=Hh nn
 have ZZ:=Hh zz
 have HB0:=Hh hb0
 clear hW0 nn zz hb0
 go_loopw [5] (fun i wr=>∃ k:Nat,k≤b.ms.length∧i=.int .i64 k∧Below W0.heap.size W0 wr) (fun i _=>b.ms.length - (intOf i).toNat)
 case atStart=>exact ⟨0,Nat.zero_le _,rfl,Below.refl _ _⟩
 case round =>
  obtain ⟨k,hk,rfl,hW⟩:=hrel
  have hWs:=hW.size
  have hbr:=Below.next HB0.out hW
  have x0:=(hW.cell (p:=⟨w.heap.size,2,none⟩) hs1).trans (NN.out 2 _ rfl)
  have y0:=(hW.cell (p:=⟨w.heap.size+1,2,none⟩) hs0).trans (ZZ.out 2 _ rfl)
  have hx1:w.heap.size < wr.heap.size:=by omega
  have hx2:w.heap.size+1 < wr.heap.size:=by omega
  by_cases hlt:k < b.ms.length
  ·obtain ⟨lb,lo,rfl,hlb,e0,e1,e2⟩:=HM.out k hlt
   obtain ⟨nb,no,rfl,hnb,f0,f1,f2⟩:=HN.out k hlt
   have e0:=(hbr.cell hlb).trans e0
   have e1:=(hbr.cell hlb).trans e1
   have e2:=(hbr.cell hlb).trans e2
   have f0:=(hbr.cell hnb).trans f0
   have f1:=(hbr.cell hnb).trans f1
   have f2:=(hbr.cell hnb).trans f2
   have hlb2:lb < wr.heap.size:=Nat.lt_of_lt_of_le hlb hbr.size
   have hnb2:nb < wr.heap.size:=Nat.lt_of_lt_of_le hnb hbr.size
   generalize b.ms[k]=m at e0 e1 e2 f0 f1 f2
   have heq:=fun w=>neqMsg m.name m.groups m.due w
   go_wp2
   go_quiet (fail)
   go_wp2
   go_roundw
   case rel=>exact ⟨k+1,by omega,by go_num,bel⟩
   case measure=>simp [intOf];omega
  ·obtain rfl:k=b.ms.length:=by omega
   clear hlt
   go_wp2
   go_loopw [6] (fun i wr=>∃ k:Nat,k≤b.ss.length∧i=.int .i64 k∧Below W0.heap.size W0 wr) (fun i _=>b.ss.length - (intOf i).toNat)
   case atStart=>exact ⟨0,Nat.zero_le _,rfl,hW⟩
   case round =>
    obtain ⟨k,hk,rfl,hW⟩:=hrel
    have hWs:=hW.size
    have hbr:=Below.next HB0.out hW
    have x0:=(hW.cell (p:=⟨w.heap.size,3,none⟩) hs1).trans (NN.out 3 _ rfl)
    have y0:=(hW.cell (p:=⟨w.heap.size+1,3,none⟩) hs0).trans (ZZ.out 3 _ rfl)
    have hx1:w.heap.size < wr.heap.size:=by omega
    have hx2:w.heap.size+1 < wr.heap.size:=by omega
    by_cases hlt:k < b.ss.length
    ·obtain ⟨lb,lo,rfl,hlb,pa,pc,e0,g1,g2,g3⟩:=HS.out k hlt
     obtain ⟨nb,no,rfl,hnb,pa2,pc2,f0,i1,i2,i3⟩:=HT.out k hlt
     have e0:=(hbr.cell hlb).trans e0
     have f0:=(hbr.cell hnb).trans f0
     have hlb2:lb < wr.heap.size:=Nat.lt_of_lt_of_le hlb hbr.size
     have hnb2:nb < wr.heap.size:=Nat.lt_of_lt_of_le hnb hbr.size
     generalize b.ss[k]=m at e0 f0 g1 g2 g3 i1 i2 i3
     have G3:=Hh (g3.below hbr)
     have I3:=Hh (i3.below hbr)
     clear g3 i3
     go_wp2
     (refine wp_region_bel (by kernel_rfl) (by kernel_rfl) ?_;(repeat (go_big_quiet_step ((go_at_call 33;with_reducible exact Calls.bel_of (sameParts_at (t:=true) (G3.out.below (later_below _ _)) (I3.out.below (later_below _ _)) rfl rfl g2 g2 (by simp))))));refine wpQuiet_nil ?_;rintro _ ⟨xq,rfl⟩)
     go_wp2
     go_roundw
     case rel=>exact ⟨k+1,by omega,by go_num,Below.next hW (later_below _ _)⟩
     case measure=>simp [intOf];omega
    ·obtain rfl:k=b.ss.length:=by omega
     clear hlt
     go_wp2
     go_loopw [7] (fun i wr=>∃ k:Nat,k≤b.rs.length∧i=.int .i64 k∧Below W0.heap.size W0 wr) (fun i _=>b.rs.length - (intOf i).toNat)
     case atStart=>exact ⟨0,Nat.zero_le _,rfl,hW⟩
     case round =>
      obtain ⟨k,hk,rfl,hW⟩:=hrel
      have hWs:=hW.size
      have hbr:=Below.next HB0.out hW
      have x0:=(hW.cell (p:=⟨w.heap.size,4,none⟩) hs1).trans (NN.out 4 _ rfl)
      have y0:=(hW.cell (p:=⟨w.heap.size+1,4,none⟩) hs0).trans (ZZ.out 4 _ rfl)
      have hx1:w.heap.size < wr.heap.size:=by omega
      have hx2:w.heap.size+1 < wr.heap.size:=by omega
      by_cases hlt:k < b.rs.length
      ·obtain ⟨lb,lo,rfl,hlb,e0,e1,e2,e3⟩:=HR.out k hlt
       obtain ⟨nb,no,rfl,hnb,f0,f1,f2,f3⟩:=HQ.out k hlt
       have e0:=(hbr.cell hlb).trans e0
       have e1:=(hbr.cell hlb).trans e1
       have e2:=(hbr.cell hlb).trans e2
       have e3:=(hbr.cell hlb).trans e3
       have f0:=(hbr.cell hnb).trans f0
       have f1:=(hbr.cell hnb).trans f1
       have f2:=(hbr.cell hnb).trans f2
       have f3:=(hbr.cell hnb).trans f3
       have hlb2:lb < wr.heap.size:=Nat.lt_of_lt_of_le hlb hbr.size
       have hnb2:nb < wr.heap.size:=Nat.lt_of_lt_of_le hnb hbr.size
       generalize b.rs[k]=m at e0 e1 e2 e3 f0 f1 f2 f3
       have heq:=fun w=>neqRec m.k m.a m.b m.m w
       go_wp2
       go_quiet (fail)
       go_wp2
       go_roundw
       case rel=>exact ⟨k+1,by omega,by go_num,bel⟩
       case measure=>simp [intOf];omega
      ·obtain rfl:k=b.rs.length:=by omega
       clear hlt
       go_wp2
       go_ret
       exact ⟨rfl,hbr⟩
theorem within_at {w:World} {la ma:Option Addr} {lc mc ln mn:Nat} {l m:List Int} (hL:IntsAt w la l) (hM:IntsAt w ma m) (hln:ln=l.length) (hmn:mn=m.length) (hl:l.length≤1000000) (hm:m.length≤1000000) (h:∀ x∈l,x∈m) :
 Calls Tryz.prog 30 #[.slice la ln lc,.slice ma mn mc] w fun e w'=>e=.returned (.bool true)∧Below w.heap.size w w':=by
 subst hln hmn
 have HL:=Hh hL
 have HM:=Hh hM
 have H:=Hh h
 clear hL hM h
 go_enter Tryz.func30,Tryz.ntmps30
 go_wp2
 go_loop [5] (fun i=>∃ k:Nat,k≤l.length∧i=.int .i64 k) (fun i=>l.length - (intOf i).toNat)
 case atStart=>exact ⟨0,Nat.zero_le _,rfl⟩
 case round =>
  obtain ⟨k,hk,rfl⟩:=hrel
  by_cases hlt:k < l.length
  ·obtain ⟨lb,lo,rfl,hlb,e0⟩:=HL.out k hlt
   have hin:=Hh (show decide (l[k]∈m)=true by rw [decide_eq_true_iff];exact H.out _ (List.getElem_mem hlt))
   generalize l[k]=x at e0 hin
   go_wp2_with (go_at_call 83;(with_reducible refine (hasNum_at HM.out rfl hm hin.out).mono ?_);rintro e w1 ⟨rfl,rfl⟩)
   go_round
   case rel=>exact ⟨k+1,by omega,by go_num⟩
   case measure=>simp [intOf];omega
  ·go_wp2
   go_ret
   exact ⟨rfl,Below.refl _ _⟩
end Go.Proofs.YtfggbepickdokaaGreatDoor
namespace Go.Proofs.YtfggbepickdokaaGreatDoor
open Go.RowKit Go.Maps Sp Mt Go.Conc
section
variable {w w1:World} {B n:Nat} {b:Bk} {vr vg vm vs vc:Value}
structure BxSt (w:World) (B:Nat) (b:Bk) (vr vg vm vs vc:Value):Prop where
 c0:w.cell? ⟨B,0,none⟩=some vr
 c1:w.cell? ⟨B,1,none⟩=some vg
 c2:w.cell? ⟨B,2,none⟩=some vm
 c3:w.cell? ⟨B,3,none⟩=some vs
 c4:w.cell? ⟨B,4,none⟩=some vc
 bk:BookAt w b vr vg vm vs vc
 kd:KindsAt w
theorem BxSt.of {l:List Int} {la:Option Addr} (h:LawAt w B b l vr vg vm vs vc la) (hs:SmallB b):BxSt w B b vr vg vm vs vc:=⟨h.c0,h.c1,h.c2,h.c3,h.c4,h.raw.book hs,h.kd⟩
theorem BxSt.old (h:BxSt w B b vr vg vm vs vc) (t:Old w w1):BxSt w1 B b vr vg vm vs vc:=⟨t.cell2 h.c0,t.cell2 h.c1,t.cell2 h.c2,t.cell2 h.c3,t.cell2 h.c4,t.book h.bk,t.kinds h.kd⟩
theorem BxSt.twin (h:BxSt w B b vr vg vm vs vc) (t:Twin n w w1):BxSt w1 B b vr vg vm vs vc:=⟨(t.cell _).trans h.c0,(t.cell _).trans h.c1,(t.cell _).trans h.c2,(t.cell _).trans h.c3,(t.cell _).trans h.c4,t.book h.bk,t.kinds h.kd⟩
theorem stored_lead3 {w':World} (hK:KindsAt w) (t:Twin 0 w w') (c:Frame) (cs:List Frame):Leads Tryz.prog (fun fr' cs' w1=>∃ v,fr'=c.finish v∧cs'=cs∧v=.bool true∧Old w w1) (Frame.enter Tryz.prog 8 #[] .normal) (c::cs) w':=by
 refine (stored_co (t.kinds hK) c cs).mono ?_
 rintro fr' cs' w2 ⟨h1,h2,ho⟩
 exact ⟨_,h1,h2,rfl,t.old0 ho⟩
structure SxSt (w:World) (X:Nat) (x:List Prt) (xa:Option Addr) (xc:Nat):Prop where
 c:w.cell? ⟨X,0,none⟩=some (.slice xa x.length xc)
 le:x.length≤xc
 at_:PartsAt w xa x
theorem SxSt.old {X:Nat} {x:List Prt} {xa:Option Addr} {xc:Nat} (h:SxSt w X x xa xc) (t:Old w w1):SxSt w1 X x xa xc:=⟨t.cell2 h.c,h.le,t.parts h.at_⟩
theorem SxSt.twin {X:Nat} {x:List Prt} {xa:Option Addr} {xc:Nat} (h:SxSt w X x xa xc) (t:Twin n w w1):SxSt w1 X x xa xc:=⟨(t.cell _).trans h.c,h.le,t.parts h.at_⟩
structure RxSt (w:World) (X:Nat) (r:Rec):Prop where
 c0:w.cell? ⟨X,0,none⟩=some (.int .i64 r.k)
 c1:w.cell? ⟨X,1,none⟩=some (.int .i64 r.a)
 c2:w.cell? ⟨X,2,none⟩=some (.int .i64 r.b)
 c3:w.cell? ⟨X,3,none⟩=some (.int .i64 r.m)
theorem RxSt.old {X:Nat} {r:Rec} (h:RxSt w X r) (t:Old w w1):RxSt w1 X r:=⟨t.cell2 h.c0,t.cell2 h.c1,t.cell2 h.c2,t.cell2 h.c3⟩
theorem RxSt.twin {X:Nat} {r:Rec} (h:RxSt w X r) (t:Twin n w w1):RxSt w1 X r:=⟨(t.cell _).trans h.c0,(t.cell _).trans h.c1,(t.cell _).trans h.c2,(t.cell _).trans h.c3⟩
end
variable {B X O P mc sc iN kN:Nat} {b:Bk} {r:Rec} {s s2 t n m u:Int} {vr vg vm vs vc ur ug um us uc y0:Value} {w w0:World} {d:Nat→Value}
noncomputable def no (k:Nat):Code:=sql (sqN k (Tryz.f4.body.getD .skip))
theorem noBody_eq:Tryz.f4.body=some (.seq (no 0) (.seq (no 1) (.seq (no 2) (.seq (no 3) (.seq (no 4) (.seq (no 5) (.seq (no 6) (.seq (no 7) (.seq (no 8) (.seq (no 9) (.seq (no 10) (.seq (no 11) (.seq (no 12) (.seq (no 13) (.seq (no 14) (.seq (no 15) (.seq (no 16) (.seq (no 17) (.seq (no 18) (.seq (no 19) (.seq (no 20) .ret))))))))))))))))))))):=by kernel_rfl
theorem no1_eq:no 1=.seq (sql (no 1)) (.cond (.tmp 44) (cnd (sqr (no 1))) .skip):=by kernel_rfl
theorem no9_eq:no 9=.seq (sql (no 9)) (.cond (.tmp 99) (cnd (sqr (no 9))) .skip):=by kernel_rfl
theorem no5_eq:no 5=.seq (sql (no 5)) (.seq (sql (sqr (no 5))) (.cond (.tmp 64) (cnd (sqr (sqr (no 5)))) .skip)):=by kernel_rfl
def nI (x0 x1 x2 x3:Value) (d:Nat→Value):Act:={ tmps:=#[x0,x1,x2,x3,d 4,d 5,d 6,d 7,d 8,d 9,d 10,d 11,d 12,d 13,d 14,d 15,d 16,d 17,d 18,d 19,d 20,d 21,d 22,d 23,d 24,d 25,d 26,d 27,d 28,d 29,d 30,d 31,d 32,d 33,d 34,d 35,d 36,d 37,d 38,d 39,d 40,d 41,d 42,d 43,d 44,d 45,d 46,d 47,d 48,d 49,d 50,d 51,d 52,d 53,d 54,d 55,d 56,d 57,d 58,d 59,d 60,d 61,d 62,d 63,d 64,d 65,d 66,d 67,d 68,d 69,d 70,d 71,d 72,d 73,d 74,d 75,d 76,d 77,d 78,d 79,d 80,d 81,d 82,d 83,d 84,d 85,d 86,d 87,d 88,d 89,d 90,d 91,d 92,d 93,d 94,d 95,d 96,d 97,d 98,d 99,d 100,d 101,d 102,d 103,d 104,d 105,d 106,d 107,d 108,d 109,d 110,d 111,d 112,d 113,d 114,d 115,d 116,d 117,d 118,d 119,d 120,d 121,d 122,d 123,d 124,d 125,d 126,d 127,d 128,d 129,d 130,d 131,d 132,d 133,d 134,d 135,d 136,d 137,d 138,d 139,d 140,d 141,d 142,d 143,d 144,d 145,d 146,d 147,d 148,d 149,d 150,d 151,d 152,d 153,d 154,d 155,d 156,d 157,d 158,d 159,d 160,d 161,d 162,d 163,d 164,d 165,d 166,d 167,d 168,d 169,d 170,d 171,d 172,d 173,d 174,d 175,d 176,d 177,d 178,d 179,d 180,d 181,d 182,d 183,d 184,d 185,d 186,d 187,d 188,d 189,d 190,d 191,d 192,d 193,d 194,d 195,d 196,d 197,d 198,d 199,d 200,d 201,d 202,d 203,d 204,d 205,d 206,d 207,d 208,d 209,d 210,d 211,d 212,d 213,d 214,d 215,d 216,d 217,d 218,d 219,d 220,d 221,d 222,d 223,d 224,d 225,d 226,d 227,d 228,d 229,d 230,d 231,d 232,d 233,d 234,d 235,d 236,d 237],defers:=[] }
def nG (B X:Nat) (s s2:Int) (y:Value) (d:Nat→Value):Act:={ tmps:=#[d 0,d 1,.int .u8 s,.int .u8 s2,.pointer (some ⟨B,0,none⟩),.pointer (some ⟨X,0,none⟩),d 6,d 7,.bool false,d 9,d 10,d 11,d 12,d 13,d 14,d 15,d 16,d 17,d 18,d 19,d 20,d 21,d 22,d 23,d 24,d 25,d 26,d 27,d 28,d 29,d 30,d 31,d 32,d 33,d 34,d 35,d 36,d 37,d 38,d 39,d 40,d 41,d 42,d 43,y,d 45,d 46,d 47,d 48,d 49,d 50,d 51,d 52,d 53,d 54,d 55,d 56,d 57,d 58,d 59,d 60,d 61,d 62,d 63,d 64,d 65,d 66,d 67,d 68,d 69,d 70,d 71,d 72,d 73,d 74,d 75,d 76,d 77,d 78,d 79,d 80,d 81,d 82,d 83,d 84,d 85,d 86,d 87,d 88,d 89,d 90,d 91,d 92,d 93,d 94,d 95,d 96,d 97,d 98,d 99,d 100,d 101,d 102,d 103,d 104,d 105,d 106,d 107,d 108,d 109,d 110,d 111,d 112,d 113,d 114,d 115,d 116,d 117,d 118,d 119,d 120,d 121,d 122,d 123,d 124,d 125,d 126,d 127,d 128,d 129,d 130,d 131,d 132,d 133,d 134,d 135,d 136,d 137,d 138,d 139,d 140,d 141,d 142,d 143,d 144,d 145,d 146,d 147,d 148,d 149,d 150,d 151,d 152,d 153,d 154,d 155,d 156,d 157,d 158,d 159,d 160,d 161,d 162,d 163,d 164,d 165,d 166,d 167,d 168,d 169,d 170,d 171,d 172,d 173,d 174,d 175,d 176,d 177,d 178,d 179,d 180,d 181,d 182,d 183,d 184,d 185,d 186,d 187,d 188,d 189,d 190,d 191,d 192,d 193,d 194,d 195,d 196,d 197,d 198,d 199,d 200,d 201,d 202,d 203,d 204,d 205,d 206,d 207,d 208,d 209,d 210,d 211,d 212,d 213,d 214,d 215,d 216,d 217,d 218,d 219,d 220,d 221,d 222,d 223,d 224,d 225,d 226,d 227,d 228,d 229,d 230,d 231,d 232,d 233,d 234,d 235,d 236,d 237],defers:=[] }
def nF (B X:Nat) (s s2:Int) (d:Nat→Value):Act:={ tmps:=#[d 0,d 1,.int .u8 s,.int .u8 s2,.pointer (some ⟨B,0,none⟩),.pointer (some ⟨X,0,none⟩),d 6,d 7,d 8,d 9,d 10,d 11,d 12,d 13,d 14,d 15,d 16,d 17,d 18,d 19,d 20,d 21,d 22,d 23,d 24,d 25,d 26,d 27,d 28,d 29,d 30,d 31,d 32,d 33,d 34,d 35,d 36,d 37,d 38,d 39,d 40,d 41,d 42,d 43,d 44,d 45,d 46,d 47,d 48,d 49,d 50,d 51,d 52,d 53,d 54,d 55,d 56,d 57,d 58,d 59,d 60,d 61,d 62,d 63,d 64,d 65,d 66,d 67,d 68,d 69,d 70,d 71,d 72,d 73,d 74,d 75,d 76,d 77,d 78,d 79,d 80,d 81,d 82,d 83,d 84,d 85,d 86,d 87,d 88,d 89,d 90,d 91,d 92,d 93,d 94,d 95,d 96,d 97,d 98,d 99,d 100,d 101,d 102,d 103,d 104,d 105,d 106,d 107,d 108,d 109,d 110,d 111,d 112,d 113,d 114,d 115,d 116,d 117,d 118,d 119,d 120,d 121,d 122,d 123,d 124,d 125,d 126,d 127,d 128,d 129,d 130,d 131,d 132,d 133,d 134,d 135,d 136,d 137,d 138,d 139,d 140,d 141,d 142,d 143,d 144,d 145,d 146,d 147,d 148,d 149,d 150,d 151,d 152,d 153,d 154,d 155,d 156,d 157,d 158,d 159,d 160,d 161,d 162,d 163,d 164,d 165,d 166,d 167,d 168,d 169,d 170,d 171,d 172,d 173,d 174,d 175,d 176,d 177,d 178,d 179,d 180,d 181,d 182,d 183,d 184,d 185,d 186,d 187,d 188,d 189,d 190,d 191,d 192,d 193,d 194,d 195,d 196,d 197,d 198,d 199,d 200,d 201,d 202,d 203,d 204,d 205,d 206,d 207,d 208,d 209,d 210,d 211,d 212,d 213,d 214,d 215,d 216,d 217,d 218,d 219,d 220,d 221,d 222,d 223,d 224,d 225,d 226,d 227,d 228,d 229,d 230,d 231,d 232,d 233,d 234,d 235,d 236,d 237],defers:=[] }
def nO (B X O:Nat) (s s2:Int) (d:Nat→Value):Act:={ tmps:=#[d 0,d 1,.int .u8 s,.int .u8 s2,.pointer (some ⟨B,0,none⟩),.pointer (some ⟨X,0,none⟩),d 6,d 7,d 8,.pointer (some ⟨O,0,none⟩),d 10,d 11,d 12,d 13,d 14,d 15,d 16,d 17,d 18,d 19,d 20,d 21,d 22,d 23,d 24,d 25,d 26,d 27,d 28,d 29,d 30,d 31,d 32,d 33,d 34,d 35,d 36,d 37,d 38,d 39,d 40,d 41,d 42,d 43,d 44,d 45,d 46,d 47,d 48,d 49,d 50,d 51,d 52,d 53,d 54,d 55,d 56,d 57,d 58,d 59,d 60,d 61,d 62,d 63,d 64,d 65,d 66,d 67,d 68,d 69,d 70,d 71,d 72,d 73,d 74,d 75,d 76,d 77,d 78,d 79,d 80,d 81,d 82,d 83,d 84,d 85,d 86,d 87,d 88,d 89,d 90,d 91,d 92,d 93,d 94,d 95,d 96,d 97,d 98,d 99,d 100,d 101,d 102,d 103,d 104,d 105,d 106,d 107,d 108,d 109,d 110,d 111,d 112,d 113,d 114,d 115,d 116,d 117,d 118,d 119,d 120,d 121,d 122,d 123,d 124,d 125,d 126,d 127,d 128,d 129,d 130,d 131,d 132,d 133,d 134,d 135,d 136,d 137,d 138,d 139,d 140,d 141,d 142,d 143,d 144,d 145,d 146,d 147,d 148,d 149,d 150,d 151,d 152,d 153,d 154,d 155,d 156,d 157,d 158,d 159,d 160,d 161,d 162,d 163,d 164,d 165,d 166,d 167,d 168,d 169,d 170,d 171,d 172,d 173,d 174,d 175,d 176,d 177,d 178,d 179,d 180,d 181,d 182,d 183,d 184,d 185,d 186,d 187,d 188,d 189,d 190,d 191,d 192,d 193,d 194,d 195,d 196,d 197,d 198,d 199,d 200,d 201,d 202,d 203,d 204,d 205,d 206,d 207,d 208,d 209,d 210,d 211,d 212,d 213,d 214,d 215,d 216,d 217,d 218,d 219,d 220,d 221,d 222,d 223,d 224,d 225,d 226,d 227,d 228,d 229,d 230,d 231,d 232,d 233,d 234,d 235,d 236,d 237],defers:=[] }
def nA (B X O P:Nat) (s s2 t:Int) (d:Nat→Value):Act:={ tmps:=#[d 0,d 1,.int .u8 s,.int .u8 s2,.pointer (some ⟨B,0,none⟩),.pointer (some ⟨X,0,none⟩),d 6,d 7,d 8,.pointer (some ⟨O,0,none⟩),.pointer (some ⟨P,0,none⟩),.int .i64 t,d 12,d 13,d 14,d 15,d 16,d 17,d 18,d 19,d 20,d 21,d 22,d 23,d 24,d 25,d 26,d 27,d 28,d 29,d 30,d 31,d 32,d 33,d 34,d 35,d 36,d 37,d 38,d 39,d 40,d 41,d 42,d 43,d 44,d 45,d 46,d 47,d 48,d 49,d 50,d 51,d 52,d 53,d 54,d 55,d 56,d 57,d 58,d 59,d 60,d 61,d 62,d 63,d 64,d 65,d 66,d 67,d 68,d 69,d 70,d 71,d 72,d 73,d 74,d 75,d 76,d 77,d 78,d 79,d 80,d 81,d 82,d 83,d 84,d 85,d 86,d 87,d 88,d 89,d 90,d 91,d 92,d 93,d 94,d 95,d 96,d 97,d 98,d 99,d 100,d 101,d 102,d 103,d 104,d 105,d 106,d 107,d 108,d 109,d 110,d 111,d 112,d 113,d 114,d 115,d 116,d 117,d 118,d 119,d 120,d 121,d 122,d 123,d 124,d 125,d 126,d 127,d 128,d 129,d 130,d 131,d 132,d 133,d 134,d 135,d 136,d 137,d 138,d 139,d 140,d 141,d 142,d 143,d 144,d 145,d 146,d 147,d 148,d 149,d 150,d 151,d 152,d 153,d 154,d 155,d 156,d 157,d 158,d 159,d 160,d 161,d 162,d 163,d 164,d 165,d 166,d 167,d 168,d 169,d 170,d 171,d 172,d 173,d 174,d 175,d 176,d 177,d 178,d 179,d 180,d 181,d 182,d 183,d 184,d 185,d 186,d 187,d 188,d 189,d 190,d 191,d 192,d 193,d 194,d 195,d 196,d 197,d 198,d 199,d 200,d 201,d 202,d 203,d 204,d 205,d 206,d 207,d 208,d 209,d 210,d 211,d 212,d 213,d 214,d 215,d 216,d 217,d 218,d 219,d 220,d 221,d 222,d 223,d 224,d 225,d 226,d 227,d 228,d 229,d 230,d 231,d 232,d 233,d 234,d 235,d 236,d 237],defers:=[] }
def NZ0 (b:Bk) (r:Rec) (s s2:Int) (vr vg vm vs vc:Value) (a':Act) (w2:World):Prop:=∃ B X y,(∃ d,a'=nG B X s s2 y d)∧LawAt w2 B b [] vr vg vm vs vc none∧RxSt w2 X r
theorem no_0 (hR:RawAt w b vr vg vm vs vc) (hK:KindsAt w):(no 0).wp Tryz.prog (PZ w (NZ0 b r s s2 vr vg vm vs vc)) (nI (.agg #[vr,vg,vm,vs,vc]) (.agg #[.int .i64 r.k,.int .i64 r.a,.int .i64 r.b,.int .i64 r.m]) (.int .u8 s) (.int .u8 s2) d) w:=by
 simp only [no,sqN,sql,sqr,cnd,blk,lpc,Tryz.f4,Option.getD_some,nI]
 have HR:=Hh hR
 have HK:=Hh hK
 clear hR hK
 go_wp2
 have hbw:Below w.heap.size w ((w.alloc (.cells #[vr,vg,vm,vs,vc] 26)).alloc (.cells #[.int .i64 r.k,.int .i64 r.a,.int .i64 r.b,.int .i64 r.m] 49)):=bel
 refine ⟨rfl,⟨w.heap.size,w.heap.size+1,d 44,fr_of (by kernel_rfl),⟨?_,?_,?_,?_,?_,HR.out.below hbw,HK.out.below hbw,ints_nil⟩,⟨?_,?_,?_,?_⟩⟩,hbw⟩
 ·rw [World.cell?_alloc_past _ _ _ (by simp),World.cell?_alloc_at _ _ _ _ rfl];rfl
 ·rw [World.cell?_alloc_past _ _ _ (by simp),World.cell?_alloc_at _ _ _ _ rfl];rfl
 ·rw [World.cell?_alloc_past _ _ _ (by simp),World.cell?_alloc_at _ _ _ _ rfl];rfl
 ·rw [World.cell?_alloc_past _ _ _ (by simp),World.cell?_alloc_at _ _ _ _ rfl];rfl
 ·rw [World.cell?_alloc_past _ _ _ (by simp),World.cell?_alloc_at _ _ _ _ rfl];rfl
 ·rw [World.cell?_alloc_at _ _ _ _ (by simp)];rfl
 ·rw [World.cell?_alloc_at _ _ _ _ (by simp)];rfl
 ·rw [World.cell?_alloc_at _ _ _ _ (by simp)];rfl
 ·rw [World.cell?_alloc_at _ _ _ _ (by simp)];rfl
def NZ1 (B X:Nat) (s s2:Int) (y:Bool) (a':Act) (w2:World):Prop:=∃ d,a'=nG B X s s2 (.bool y) d
theorem no_1 {y:Bool} (hE:LawAt w B b [] vr vg vm vs vc none) (hx:y=true↔¬ (SmallB b∧bookAl b=0∧0 < b.ss.length∧0 < b.ms.length)):(sql (no 1)).wp Tryz.prog (PZ w (NZ1 B X s s2 y)) (nG B X s s2 y0 d) w:=by
 simp only [no,sqN,sql,sqr,cnd,blk,lpc,Tryz.f4,Option.getD_some,nG]
 have hrw:=hE.raw
 obtain ⟨x0,x1,x2,x3,x4,_,_,_⟩:=hE
 have HRW:=Hh hrw
 have hB0:=lt_of_cell x0
 simp only at hB0
 obtain ⟨rfl,rfl,⟨ma,mc,rfl,_⟩,⟨sa,sc,rfl,_⟩,ra,rc,rfl,_⟩:=id hrw
 by_cases hs:SmallB b∧bookAl b=0
 ·have HG:=Hh (show (true=true↔SmallB b∧bookAl b=0) by simp [hs])
  by_cases hl:0 < b.ss.length
  ·have hg:((b.ss.length:Int) == 0)=false:=by rw [beq_eq_false_iff_ne];omega
   by_cases hm:0 < b.ms.length
   ·obtain rfl:y=false:=by
     cases y with
     | false=>rfl
     | true=>exact absurd ⟨hs.1,hs.2,hl,hm⟩ (hx.1 rfl)
    have hg2:((b.ms.length:Int) == 0)=false:=by rw [beq_eq_false_iff_ne];omega
    clear hs hx hrw
    go_wp2_with (go_at_call 21;(with_reducible refine (fit_at HRW.out HG.out).mono ?_);rintro e w1 ⟨rfl,hb1⟩;have x3:=(hb1.cell (p:=⟨B,3,none⟩) hB0).trans x3;have x2:=(hb1.cell (p:=⟨B,2,none⟩) hB0).trans x2)
    exact ⟨rfl,fr_of (by kernel_rfl),hb1⟩
   ·obtain rfl:y=true:=hx.2 fun h=>hm h.2.2.2
    have hg2:((b.ms.length:Int) == 0)=true:=by rw [beq_iff_eq];omega
    clear hs hx hrw
    go_wp2_with (go_at_call 21;(with_reducible refine (fit_at HRW.out HG.out).mono ?_);rintro e w1 ⟨rfl,hb1⟩;have x3:=(hb1.cell (p:=⟨B,3,none⟩) hB0).trans x3;have x2:=(hb1.cell (p:=⟨B,2,none⟩) hB0).trans x2)
    exact ⟨rfl,fr_of (by kernel_rfl),hb1⟩
  ·obtain rfl:y=true:=hx.2 fun h=>hl h.2.2.1
   have hg:((b.ss.length:Int) == 0)=true:=by rw [beq_iff_eq];omega
   clear hs hx hrw
   go_wp2_with (go_at_call 21;(with_reducible refine (fit_at HRW.out HG.out).mono ?_);rintro e w1 ⟨rfl,hb1⟩;have x3:=(hb1.cell (p:=⟨B,3,none⟩) hB0).trans x3;have x2:=(hb1.cell (p:=⟨B,2,none⟩) hB0).trans x2)
   exact ⟨rfl,fr_of (by kernel_rfl),hb1⟩
 ·have HG:=Hh (show (false=true↔SmallB b∧bookAl b=0) by simp [hs])
  obtain rfl:y=true:=hx.2 fun h=>hs ⟨h.1,h.2.1⟩
  clear hs hx hrw
  go_wp2_with (go_at_call 21;(with_reducible refine (fit_at HRW.out HG.out).mono ?_);rintro e w1 ⟨rfl,hb1⟩)
  exact ⟨rfl,fr_of (by kernel_rfl),hb1⟩
end Go.Proofs.YtfggbepickdokaaGreatDoor
