/- Leads to StoreConnects of chapter 6: CN4 U10 SM B3 CX1 CX2. -/
import Derived.Test.YtfggbepickdokaaGreatDoorCX01
import Derived.StillTailTactics
set_option maxHeartbeats 16000000
set_option maxRecDepth 100000
set_option linter.all false
namespace Go.Proofs.YtfggbepickdokaaGreatDoor
open Go.RowKit Go.Maps Sp Go.Conc
def connectAl (b:Bk) (x:List Prt):Int:=if bookAl b≠0 then bookAl b else openAl (moreS b x) 0
section
variable {b:Bk} {vr vg vm vs vc:Value} {w:World}
theorem connect_no (hB:BookAt w b vr vg vm vs vc) (hN:∀ m∈b.ms,m.name.size≤1000000) (hK:KindsAt w) {xa:Option Addr} {xc:Nat} {x:List Prt} (h0:bookAl b≠0) :
 Calls Tryz.prog 32 #[.agg #[vr,vg,vm,vs,vc],.agg #[.slice xa x.length xc]] w (BookRet w noBook (bookAl b)):=by
 have HB:=Hh hB
 have HN:=Hh hN
 have HK:=Hh hK
 obtain ⟨t,ht⟩:∃ t,bookAl b=t:=⟨_,rfl⟩
 rw [ht] at h0 ⊢
 have HT:=Hh ht
 have hz3:(t != 0)=true:=by simpa using h0
 obtain ⟨rfl,rfl,⟨ma,mc,rfl,_,_⟩,⟨sa,sc,rfl,_,_⟩,ra,rc,rfl,_,_⟩:=id hB
 clear hB hN hK ht
 go_enter Tryz.func32,Tryz.ntmps32
 go_wp2_with (go_at_call 71;(with_reducible refine (checkBook_at (HB.out.below (bel)) HN.out (HK.out.below (bel)) HT.out).mono ?_);rintro e w3 ⟨rfl,hb3⟩;have zy:∀ k u,(#[.int .i64 0,.int .i64 0,.slice none 0 0,.slice none 0 0,.slice none 0 0]:Array Value)[k]? = some u→w3.cell? ⟨w.heap.size+2,k,none⟩=some u:=fun k u hk=>(hb3.cell (p:=⟨w.heap.size+2,k,none⟩) (by first | (simp;done) | (simp;omega))).trans (by rw [World.cell?_alloc_at _ _ _ _ (by first | (simp;done) | (simp;omega))];exact hk);have zz:∀ k,w3.frozen? ⟨w.heap.size+2,k,none⟩=false:=fun k=>(hb3.frozen (p:=⟨w.heap.size+2,k,none⟩) (by first | (simp;done) | (simp;omega))).trans (by rw [World.frozen?_alloc_at _ _ _ _ (by first | (simp;done) | (simp;omega))]);have zc0:=zy 0 _ rfl;have zc1:=zy 1 _ rfl;have zc2:=zy 2 _ rfl;have zc3:=zy 3 _ rfl;have zc4:=zy 4 _ rfl;have zf0:=zz 0;have zf1:=zz 1;have zf2:=zz 2;have zf3:=zz 3;have zf4:=zz 4;clear zy zz;have hs2:w.heap.size+2 < w3.heap.size:=(by have:=hb3.size;simp at this;omega);have hs1:w.heap.size+1 < w3.heap.size:=(by omega);have hs0:w.heap.size < w3.heap.size:=(by omega))
 exact bodyPost_ret (v:=.tuple #[.agg #[.int .i64 0,.int .i64 0,.slice none 0 0,.slice none 0 0,.slice none 0 0],.int .i64 t]) (by simp [results,Tryz.results32,go_sem, *]) rfl (BookRet.no ⟨rfl,bel⟩)
theorem cc_4c {A:World} {B R X:Nat} {n c:Nat} {a:Option Addr} {news:List Value} {xa:Option Addr} {m xc:Nat} {cd:Code} {ac:Act} (hc:cd=ccK 2) (ha:ac=ccF B X R fun i=>ac.tmps.getD i undef) (cb:A.cell? ⟨B,3,none⟩=some (.slice a n c)) (hz:A.frozen? ⟨B,3,none⟩=false) (x0:A.cell? ⟨X,0,none⟩=some (.slice xa m xc)) (hl:news.length=n * 1) (hn:n≤1000) (hs:SrcK A a news) (h1:∀ u∈news,u.oneCell'=true) :
 cd.wp Tryz.prog (NQ fun a' w2=>(∃ d,a'=ccF B X R d)∧∃ r1 y1 w4,w2=w4.setCell ⟨B,3,none⟩ (.slice r1 (n+1) y1)∧Below A.heap.size A w4∧w4.ownsRow A.heap.size 40 1 (.slice r1 (n+1) y1) (n+1) (news ++ [.slice xa m xc])) ac A:=by
 rw [hc,ha]
 exact conn_4 cb hz x0 hl hn hs h1
theorem connect_ok (hB:BookAt w b vr vg vm vs vc) (hN:∀ m∈b.ms,m.name.size≤1000000) (hK:KindsAt w) {xa:Option Addr} {xc:Nat} {x:List Prt} (hP:PartsAt w xa x) (hxl:x.length≤1000000) (hxc:x.length≤xc) (h0:bookAl b=0) {t:Int} (ht:openAl (moreS b x) 0=t) :
 Calls Tryz.prog 32 #[.agg #[vr,vg,vm,vs,vc],.agg #[.slice xa x.length xc]] w (BookRet w (if t=0 then moreS b x else noBook) t):=by
 obtain ⟨mb,hmb⟩:∃ mb,(if t=0 then moreS b x else noBook)=mb:=⟨_,rfl⟩
 rw [hmb]
 have HMB:=Hh hmb
 clear hmb
 have HB:=Hh hB
 have HN:=Hh hN
 have HK:=Hh hK
 have HT:=Hh ht
 have H0:=Hh h0
 have hr5:b.ss.length≤4:=(bookAl_ok h0).1.sl
 have HP:=Hh hP
 obtain ⟨rfl,rfl,⟨ma,mc,rfl,hM,hml⟩,⟨sa,sc,rfl,hS,hsl⟩,ra,rc,rfl,hR,hrl⟩:=id hB
 obtain ⟨vs,hvs,hsv,hso⟩:=sess_src hS
 have HVS:=Hh hvs
 have HSRC:=Hh hsv
 have HONE:=Hh hso
 have HLEN:=Hh (show vs.length=b.ss.length * 1 by rw [hvs.1,Nat.mul_one])
 clear hB hN hK ht h0 hM hS hR hP hvs hsv hso
 go_enter Tryz.func32,Tryz.ntmps32
 go_wp2_with (go_at_call 71;(with_reducible refine (checkBook_at (HB.out.below (bel)) HN.out (HK.out.below (bel)) H0.out).mono ?_);rintro e w3 ⟨rfl,hb3⟩;have yy:∀ k u,(#[.int .i64 b.room,.int .i64 b.gap,.slice ma b.ms.length mc,.slice sa b.ss.length sc,.slice ra b.rs.length rc]:Array Value)[k]? = some u→w3.cell? ⟨w.heap.size,k,none⟩=some u:=fun k u hk=>(hb3.cell (p:=⟨w.heap.size,k,none⟩) (by first | (simp;done) | (simp;omega))).trans (by rw [World.cell?_alloc_past _ _ _ (by first | (simp;done) | (simp;omega)),World.cell?_alloc_past _ _ _ (by first | (simp;done) | (simp;omega)),World.cell?_alloc_at _ _ _ _ (by first | (simp;done) | (simp;omega))];exact hk);have yz:∀ k,w3.frozen? ⟨w.heap.size,k,none⟩=false:=fun k=>(hb3.frozen (p:=⟨w.heap.size,k,none⟩) (by first | (simp;done) | (simp;omega))).trans (by rw [World.frozen?_alloc_past _ _ _ (by first | (simp;done) | (simp;omega)),World.frozen?_alloc_past _ _ _ (by first | (simp;done) | (simp;omega)),World.frozen?_alloc_at _ _ _ _ (by first | (simp;done) | (simp;omega))]);have xy:∀ k u,(#[.slice xa x.length xc]:Array Value)[k]? = some u→w3.cell? ⟨w.heap.size+1,k,none⟩=some u:=fun k u hk=>(hb3.cell (p:=⟨w.heap.size+1,k,none⟩) (by first | (simp;done) | (simp;omega))).trans (by rw [World.cell?_alloc_past _ _ _ (by first | (simp;done) | (simp;omega)),World.cell?_alloc_at _ _ _ _ (by first | (simp;done) | (simp;omega))];exact hk);have xz:∀ k,w3.frozen? ⟨w.heap.size+1,k,none⟩=false:=fun k=>(hb3.frozen (p:=⟨w.heap.size+1,k,none⟩) (by first | (simp;done) | (simp;omega))).trans (by rw [World.frozen?_alloc_past _ _ _ (by first | (simp;done) | (simp;omega)),World.frozen?_alloc_at _ _ _ _ (by first | (simp;done) | (simp;omega))]);have zy:∀ k u,(#[.int .i64 0,.int .i64 0,.slice none 0 0,.slice none 0 0,.slice none 0 0]:Array Value)[k]? = some u→w3.cell? ⟨w.heap.size+2,k,none⟩=some u:=fun k u hk=>(hb3.cell (p:=⟨w.heap.size+2,k,none⟩) (by first | (simp;done) | (simp;omega))).trans (by rw [World.cell?_alloc_at _ _ _ _ (by first | (simp;done) | (simp;omega))];exact hk);have zz:∀ k,w3.frozen? ⟨w.heap.size+2,k,none⟩=false:=fun k=>(hb3.frozen (p:=⟨w.heap.size+2,k,none⟩) (by first | (simp;done) | (simp;omega))).trans (by rw [World.frozen?_alloc_at _ _ _ _ (by first | (simp;done) | (simp;omega))]);have HY:=Hh (And.intro yy yz);have HX:=Hh xy;have HZ:=Hh (And.intro zy zz);clear yy yz xy xz zy zz;have hs2:w.heap.size+2 < w3.heap.size:=(by have:=hb3.size;simp at this;omega);have hs1:w.heap.size+1 < w3.heap.size:=(by omega);have hs0:w.heap.size < w3.heap.size:=(by omega))
 refine Code.wp_mono ?_ (cc_4c (B:=w.heap.size) (X:=w.heap.size+1) (R:=w.heap.size+2) (by kernel_rfl) (by kernel_rfl) (HY.out.1 3 _ rfl) (HY.out.2 3) (HX.out 0 _ rfl) HLEN.out (by omega) (HSRC.out.below (bel)) HONE.out)
 intro e a' w2 h
 cases e <;> try exact h.elim
 obtain ⟨⟨d,rfl⟩,r1,y1,w4,rfl,hb4,hrow⟩:=h
 obtain ⟨W5,hW5⟩:∃ W5,W5=w4.setCell ⟨w.heap.size,3,none⟩ (.slice r1 (b.ss.length+1) y1):=⟨_,rfl⟩
 have ya:∀ k u,(#[.int .i64 b.room,.int .i64 b.gap,.slice ma b.ms.length mc,.slice sa b.ss.length sc,.slice ra b.rs.length rc]:Array Value)[k]? = some u→w4.cell? ⟨w.heap.size,k,none⟩=some u:=fun k u hk=>(hb4.cell (p:=⟨w.heap.size,k,none⟩) hs0).trans (HY.out.1 k u hk)
 have za:∀ k u,(#[.int .i64 0,.int .i64 0,.slice none 0 0,.slice none 0 0,.slice none 0 0]:Array Value)[k]? = some u→w4.cell? ⟨w.heap.size+2,k,none⟩=some u:=fun k u hk=>(hb4.cell (p:=⟨w.heap.size+2,k,none⟩) hs2).trans (HZ.out.1 k u hk)
 have zf:∀ k,w4.frozen? ⟨w.heap.size+2,k,none⟩=false:=fun k=>(hb4.frozen (p:=⟨w.heap.size+2,k,none⟩) hs2).trans (HZ.out.2 k)
 have n:∀ {i j:Nat},i≠j→(⟨w.heap.size,i,none⟩:Addr)≠⟨w.heap.size,j,none⟩:=fun hij e=>hij (by injection e)
 have hk5:KS (fun k=>k≠w.heap.size) w4 W5:=by rw [hW5];exact KS.setCell (by simp) _ _
 have hs4:=hb4.size
 have hs5:=hk5.size
 have hb3w:Below w.heap.size w w3:=bel
 have hb5:Below w.heap.size w W5:=hb3w.trans ((hb4.mono (by omega)).trans (hk5.toBelow (n:=w.heap.size) (by omega) (fun k hk=>by show k≠_;omega)))
 have q0:W5.cell? ⟨w.heap.size,0,none⟩=some (.int .i64 b.room):=by rw [hW5];rw [World.cell?_setCell_other (h:=n (by decide))];exact ya 0 _ rfl
 have q1:W5.cell? ⟨w.heap.size,1,none⟩=some (.int .i64 b.gap):=by rw [hW5];rw [World.cell?_setCell_other (h:=n (by decide))];exact ya 1 _ rfl
 have q2:W5.cell? ⟨w.heap.size,2,none⟩=some (.slice ma b.ms.length mc):=by rw [hW5];rw [World.cell?_setCell_other (h:=n (by decide))];exact ya 2 _ rfl
 have q3:W5.cell? ⟨w.heap.size,3,none⟩=some (.slice r1 (b.ss.length+1) y1):=by rw [hW5];exact World.cell?_setCell_same' _ _ _ (by rw [ya 3 _ rfl];rfl)
 have q4:W5.cell? ⟨w.heap.size,4,none⟩=some (.slice ra b.rs.length rc):=by rw [hW5];rw [World.cell?_setCell_other (h:=n (by decide))];exact ya 4 _ rfl
 have zr:∀ k u,(#[.int .i64 0,.int .i64 0,.slice none 0 0,.slice none 0 0,.slice none 0 0]:Array Value)[k]? = some u→W5.cell? ⟨w.heap.size+2,k,none⟩=some u:=fun k u hk=>(hk5.cell (x:=⟨w.heap.size+2,k,none⟩) (lt_of_cell (za k u hk)) (by show _≠_;simp)).trans (za k u hk)
 have zq:∀ k,W5.frozen? ⟨w.heap.size+2,k,none⟩=false:=fun k=>(hk5.frozen (x:=⟨w.heap.size+2,k,none⟩) (by have:=lt_of_cell (za 0 _ rfl);exact this) (by show _≠_;simp)).trans (zf k)
 have hki:KI w W5:=(KI.below hb3w).trans ((KI.below hb4).trans (by rw [hW5];exact KI.set (ya 3 _ rfl) _))
 have hbk:BookAt W5 (moreS b x) (.int .i64 b.room) (.int .i64 b.gap) (.slice ma b.ms.length mc) (.slice r1 (b.ss.length+1) y1) (.slice ra b.rs.length rc):=by
  obtain ⟨h1,h2,h3,_,h5⟩:=HB.out.below hb5
  exact ⟨h1,h2,h3,⟨r1,y1,by simp [moreS],sess_row (ownsRow_ks hrow hk5 (fun k hk=>by show k≠_;omega)) (HVS.out.snoc hxc hxl HP.out) hki,by simp [moreS];omega⟩,h5⟩
 have HB5:=Hh hb5
 have HBK:=Hh hbk
 have hK5:=Hh (HK.out.below hb5)
 have HZR:=Hh (And.intro zr zq)
 have HN2:=Hh (show ∀ m∈(moreS b x).ms,m.name.size≤1000000 from HN.out)
 rw [← hW5]
 have hR5:w.heap.size+2 < W5.heap.size:=by omega
 have hB5:w.heap.size < W5.heap.size:=by omega
 clear hW5 ya za zf hk5 hb3w hb5 zr zq hb4 hrow hb3 HY HX HZ HB HK HSRC HONE HLEN hbk hki
 simp only [ccF]
 go_wp2_with (go_at_call 73;(with_reducible refine (agreed_at HBK.out HN2.out hK5.out HT.out HMB.out).mono ?_);rintro e w6 ⟨ur,ug,um,us,uc,rfl,hall,hb6⟩;obtain ⟨rfl,rfl,⟨ea,ec,rfl,_⟩,⟨ga,gc,rfl,_⟩,ia,ic,rfl,_⟩:=id (hall _ (KS.refl _ _));have hs6:=hb6.size;have zy:∀ k u,(#[.int .i64 0,.int .i64 0,.slice none 0 0,.slice none 0 0,.slice none 0 0]:Array Value)[k]? = some u→w6.cell? ⟨w.heap.size+2,k,none⟩=some u:=(fun k u hk=>(hb6.cell (p:=⟨w.heap.size+2,k,none⟩) hR5).trans (HZR.out.1 k u hk));have zz:∀ k,w6.frozen? ⟨w.heap.size+2,k,none⟩=false:=(fun k=>(hb6.frozen (p:=⟨w.heap.size+2,k,none⟩) hR5).trans (HZR.out.2 k));have zc0:=zy 0 _ rfl;have zc1:=zy 1 _ rfl;have zc2:=zy 2 _ rfl;have zc3:=zy 3 _ rfl;have zc4:=zy 4 _ rfl;have zf0:=zz 0;have zf1:=zz 1;have zf2:=zz 2;have zf3:=zz 3;have zf4:=zz 4;clear zy zz;have hR6:w.heap.size+2 < w6.heap.size:=(by omega);have HALL:=Hh hall;clear hall)
 have five:=Five.put (r:=w.heap.size+2) (v0:=(.int .i64 mb.room)) (v1:=(.int .i64 mb.gap)) (v2:=(.slice ea mb.ms.length ec)) (v3:=(.slice ga mb.ss.length gc)) (v4:=(.slice ia mb.rs.length ic)) (w:=w6) (by rw [zc0];rfl) (by rw [zc1];rfl) (by rw [zc2];rfl) (by rw [zc3];rfl) (by rw [zc4];rfl) hR6
 obtain ⟨W9,hW9⟩:∃ W9,W9=((((w6.setCell ⟨w.heap.size+2,0,none⟩ (.int .i64 mb.room)).setCell ⟨w.heap.size+2,1,none⟩ (.int .i64 mb.gap)).setCell ⟨w.heap.size+2,2,none⟩ (.slice ea mb.ms.length ec)).setCell ⟨w.heap.size+2,3,none⟩ (.slice ga mb.ss.length gc)).setCell ⟨w.heap.size+2,4,none⟩ (.slice ia mb.rs.length ic):=⟨_,rfl⟩
 have k9:KS (fun k=>k≠w.heap.size+2) w6 W9:=by
  rw [hW9]
  exact ((((KS.setCell (by simp) _ _).trans (KS.setCell (by simp) _ _)).trans (KS.setCell (by simp) _ _)).trans (KS.setCell (by simp) _ _)).trans (KS.setCell (by simp) _ _)
 rw [← hW9] at five ⊢
 clear hW9 zc0 zc1 zc2 zc3 zc4 zf0 zf1 zf2 zf3 zf4
 obtain ⟨c0,c1,c2,c3,c4,_⟩:=five
 have hbw:=HB5.out.trans ((hb6.mono HB5.out.size).trans (k9.toBelow (n:=w.heap.size) (by omega) (fun k hk=>by show k≠_;omega)))
 have hall:∀ W,KS (fun k=>w.heap.size≤k) W9 W→BookAt W mb (.int .i64 mb.room) (.int .i64 mb.gap) (.slice ea mb.ms.length ec) (.slice ga mb.ss.length gc) (.slice ia mb.rs.length ic):=fun W hkW=>HALL.out W ((k9.mono fun k _ h=>by show k≠_;have:W5.heap.size≤k:=h;omega).trans (hkW.mono fun k _ h=>by show _≤k;have:W5.heap.size≤k:=h;omega))
 exact bodyPost_ret (v:=.tuple #[.agg #[(.int .i64 mb.room),(.int .i64 mb.gap),(.slice ea mb.ms.length ec),(.slice ga mb.ss.length gc),(.slice ia mb.rs.length ic)],.int .i64 t]) (by simp [results,Tryz.results32,go_sem,c0,c1,c2,c3,c4]) rfl ⟨_,_,_,_,_,rfl,hall,hbw⟩
theorem connect_at (hB:BookAt w b vr vg vm vs vc) (hN:∀ m∈b.ms,m.name.size≤1000000) (hK:KindsAt w) {xa:Option Addr} {xc:Nat} {x:List Prt} (hP:PartsAt w xa x) (hxl:x.length≤1000000) (hxc:x.length≤xc) {t:Int} (ht:connectAl b x=t) {mb:Bk} (hmb:(if t=0 then moreS b x else noBook)=mb) :
 Calls Tryz.prog 32 #[.agg #[vr,vg,vm,vs,vc],.agg #[.slice xa x.length xc]] w (BookRet w mb t):=by
 subst hmb
 unfold connectAl at ht
 by_cases h0:bookAl b=0
 ·rw [if_neg (by simp [h0])] at ht
  exact connect_ok hB hN hK hP hxl hxc h0 ht
 ·rw [if_pos h0] at ht
  subst ht
  rw [if_neg h0]
  exact connect_no hB hN hK h0
end
end Go.Proofs.YtfggbepickdokaaGreatDoor
namespace Go.Proofs.YtfggbepickdokaaGreatDoor
open Go.RowKit Go.Maps Sp
def U16sAt (w:World) (a:Option Addr) (l:List Int):Prop:=∀ i (h:i < l.length),∃ b o,a=some ⟨b,o,none⟩∧b < w.heap.size∧w.cell? ⟨b,o+i,none⟩=some (.int .u16 l[i])∧0≤l[i]∧l[i]≤65535
theorem U16sAt.below {w w':World} {a:Option Addr} {l:List Int} (h:U16sAt w a l) (hb:Below w.heap.size w w'):U16sAt w' a l:=fun i hi=>by
 obtain ⟨b,o,e,hlt,h1,h2⟩:=h i hi
 exact ⟨b,o,e,Nat.lt_of_lt_of_le hlt hb.size,(hb.cell hlt).trans h1,h2⟩
section
variable {w:World} {la:Option Addr} {lc n:Nat} {l:List Int}
end
section
variable {b:Bk} {vr vg vm vs vc:Value} {w:World} {la:Option Addr} {lc n:Nat} {l:List Int}
end
theorem neqMsg (s:ByteArray) (a b:Int) (w:World):(binOp .neq 76 (.agg #[.string s,.int .i64 a,.int .i64 b]) (.agg #[.string s,.int .i64 a,.int .i64 b])).run Tryz.prog w=.ok (.bool false) w:=by
 have u3:=Tryz.underlying3
 have u4:=Tryz.underlying9
 have hS:Tryz.prog.underlying 76=some (.struct (Tryz.prog.fieldsOf 76)):=by kernel_rfl
 have hp:Tryz.prog.stoodInHeld 76=false:=by kernel_rfl
 rw [run_neq_struct,show (10000:Nat)=9999+1 from rfl,run_equalIn_agg w 9999 76 _ _ hS hp]
 simp only [Program.fieldsOf,Tryz.underlying76]
 go_simp
theorem neqRec (k a b m:Int) (w:World):(binOp .neq 49 (.agg #[.int .i64 k,.int .i64 a,.int .i64 b,.int .i64 m]) (.agg #[.int .i64 k,.int .i64 a,.int .i64 b,.int .i64 m])).run Tryz.prog w=.ok (.bool false) w:=by
 have u3:=Tryz.underlying3
 have u4:=Tryz.underlying47
 have hS:Tryz.prog.underlying 49=some (.struct (Tryz.prog.fieldsOf 49)):=by kernel_rfl
 have hp:Tryz.prog.stoodInHeld 49=false:=by kernel_rfl
 rw [run_neq_struct,show (10000:Nat)=9999+1 from rfl,run_equalIn_agg w 9999 49 _ _ hS hp]
 simp only [Program.fieldsOf,Tryz.underlying49]
 go_simp
theorem same_at {w:World} {b:Bk} {vr vg vm vs vc ur ug um us uc:Value} (hB:BookAt w b vr vg vm vs vc) (hC:BookAt w b ur ug um us uc) :
 Calls Tryz.prog 24 #[.agg #[vr,vg,vm,vs,vc],.agg #[ur,ug,um,us,uc]] w fun e w'=>e=.returned (.bool true)∧Below w.heap.size w w':=by
 obtain ⟨rfl,rfl,⟨ma,mc,rfl,hM,hml⟩,⟨sa,sc,rfl,hS,hsl⟩,ra,rc,rfl,hR,hrl⟩:=hB
 obtain ⟨rfl,rfl,⟨na,nc,rfl,hN,_⟩,⟨ta,tc,rfl,hT,_⟩,qa,qc,rfl,hQ,_⟩:=hC
 have HM:=Hh hM
 have HN:=Hh hN
 have HS:=Hh hS
 have HT:=Hh hT
 have HR:=Hh hR
 have HQ:=Hh hQ
 clear hM hN hS hT hR hQ
 go_enter Tryz.func24,Tryz.ntmps24
 go_wp2
 obtain ⟨W0,hW0⟩:∃ W0,W0=(w.alloc (.cells #[.int .i64 b.room,.int .i64 b.gap,.slice ma b.ms.length mc,.slice sa b.ss.length sc,.slice ra b.rs.length rc] 26)).alloc (.cells #[.int .i64 b.room,.int .i64 b.gap,.slice na b.ms.length nc,.slice ta b.ss.length tc,.slice qa b.rs.length qc] 26):=⟨_,rfl⟩
 rw [← hW0]
 have hb0:Below w.heap.size w W0:=by rw [hW0];(exact bel)
 have nn:∀ k u,(#[.int .i64 b.room,.int .i64 b.gap,.slice ma b.ms.length mc,.slice sa b.ss.length sc,.slice ra b.rs.length rc]:Array Value)[k]? = some u→W0.cell? ⟨w.heap.size,k,none⟩=some u:=fun k u hk=>by
  rw [hW0,World.cell?_alloc_past _ _ _ (by simp),World.cell?_alloc_at _ _ _ _ rfl];exact hk
 have zz:∀ k u,(#[.int .i64 b.room,.int .i64 b.gap,.slice na b.ms.length nc,.slice ta b.ss.length tc,.slice qa b.rs.length qc]:Array Value)[k]? = some u→W0.cell? ⟨w.heap.size+1,k,none⟩=some u:=fun k u hk=>by
  rw [hW0,World.cell?_alloc_at _ _ _ _ (by simp)];exact hk
 have hs0:w.heap.size+1 < W0.heap.size:=by rw [hW0];simp
 have hs1:w.heap.size < W0.heap.size:=by omega
 have NN:=Hh nn
 have ZZ:=Hh zz
 have HB0:=Hh hb0
 clear hW0 nn zz hb0
 go_loopw [5] (fun i wr=>∃ k:Nat,k≤b.ms.length∧i=.int .i64 k∧Below W0.heap.size W0 wr) (fun i _=>b.ms.length - (intOf i).toNat)
 case atStart=>exact ⟨0,Nat.zero_le _,rfl,Below.refl _ _⟩
 case round =>
  obtain ⟨k,hk,rfl,hW⟩:=hrel
  have hWs:=hW.size
  have hbr:=Below.next HB0.out hW
  have x0:=(hW.cell (p:=⟨w.heap.size,2,none⟩) hs1).trans (NN.out 2 _ rfl)
  have y0:=(hW.cell (p:=⟨w.heap.size+1,2,none⟩) hs0).trans (ZZ.out 2 _ rfl)
  have hx1:w.heap.size < wr.heap.size:=by omega
  have hx2:w.heap.size+1 < wr.heap.size:=by omega
  by_cases hlt:k < b.ms.length
  ·obtain ⟨lb,lo,rfl,hlb,e0,e1,e2⟩:=HM.out k hlt
   obtain ⟨nb,no,rfl,hnb,f0,f1,f2⟩:=HN.out k hlt
   have e0:=(hbr.cell hlb).trans e0
   have e1:=(hbr.cell hlb).trans e1
   have e2:=(hbr.cell hlb).trans e2
   have f0:=(hbr.cell hnb).trans f0
   have f1:=(hbr.cell hnb).trans f1
   have f2:=(hbr.cell hnb).trans f2
   have hlb2:lb < wr.heap.size:=Nat.lt_of_lt_of_le hlb hbr.size
   have hnb2:nb < wr.heap.size:=Nat.lt_of_lt_of_le hnb hbr.size
   generalize b.ms[k]=m at e0 e1 e2 f0 f1 f2
   have heq:=fun w=>neqMsg m.name m.groups m.due w
   go_wp2
   go_quiet (fail)
   go_wp2
   go_roundw
   case rel=>exact ⟨k+1,by omega,by go_num,bel⟩
   case measure=>simp [intOf];omega
  ·obtain rfl:k=b.ms.length:=by omega
   clear hlt
   go_wp2
   go_loopw [6] (fun i wr=>∃ k:Nat,k≤b.ss.length∧i=.int .i64 k∧Below W0.heap.size W0 wr) (fun i _=>b.ss.length - (intOf i).toNat)
   case atStart=>exact ⟨0,Nat.zero_le _,rfl,hW⟩
   case round =>
    obtain ⟨k,hk,rfl,hW⟩:=hrel
    have hWs:=hW.size
    have hbr:=Below.next HB0.out hW
    have x0:=(hW.cell (p:=⟨w.heap.size,3,none⟩) hs1).trans (NN.out 3 _ rfl)
    have y0:=(hW.cell (p:=⟨w.heap.size+1,3,none⟩) hs0).trans (ZZ.out 3 _ rfl)
    have hx1:w.heap.size < wr.heap.size:=by omega
    have hx2:w.heap.size+1 < wr.heap.size:=by omega
    by_cases hlt:k < b.ss.length
    ·obtain ⟨lb,lo,rfl,hlb,pa,pc,e0,g1,g2,g3⟩:=HS.out k hlt
     obtain ⟨nb,no,rfl,hnb,pa2,pc2,f0,i1,i2,i3⟩:=HT.out k hlt
     have e0:=(hbr.cell hlb).trans e0
     have f0:=(hbr.cell hnb).trans f0
     have hlb2:lb < wr.heap.size:=Nat.lt_of_lt_of_le hlb hbr.size
     have hnb2:nb < wr.heap.size:=Nat.lt_of_lt_of_le hnb hbr.size
     generalize b.ss[k]=m at e0 f0 g1 g2 g3 i1 i2 i3
     have G3:=Hh (g3.below hbr)
     have I3:=Hh (i3.below hbr)
     clear g3 i3
     go_wp2
     (refine wp_region_bel (by kernel_rfl) (by kernel_rfl) ?_;(repeat (go_big_quiet_step ((go_at_call 33;with_reducible exact Calls.bel_of (sameParts_at (t:=true) (G3.out.below (later_below _ _)) (I3.out.below (later_below _ _)) rfl rfl g2 g2 (by simp))))));refine wpQuiet_nil ?_;rintro _ ⟨xq,rfl⟩)
     go_wp2
     go_roundw
     case rel=>exact ⟨k+1,by omega,by go_num,Below.next hW (later_below _ _)⟩
     case measure=>simp [intOf];omega
    ·obtain rfl:k=b.ss.length:=by omega
     clear hlt
     go_wp2
     go_loopw [7] (fun i wr=>∃ k:Nat,k≤b.rs.length∧i=.int .i64 k∧Below W0.heap.size W0 wr) (fun i _=>b.rs.length - (intOf i).toNat)
     case atStart=>exact ⟨0,Nat.zero_le _,rfl,hW⟩
     case round =>
      obtain ⟨k,hk,rfl,hW⟩:=hrel
      have hWs:=hW.size
      have hbr:=Below.next HB0.out hW
      have x0:=(hW.cell (p:=⟨w.heap.size,4,none⟩) hs1).trans (NN.out 4 _ rfl)
      have y0:=(hW.cell (p:=⟨w.heap.size+1,4,none⟩) hs0).trans (ZZ.out 4 _ rfl)
      have hx1:w.heap.size < wr.heap.size:=by omega
      have hx2:w.heap.size+1 < wr.heap.size:=by omega
      by_cases hlt:k < b.rs.length
      ·obtain ⟨lb,lo,rfl,hlb,e0,e1,e2,e3⟩:=HR.out k hlt
       obtain ⟨nb,no,rfl,hnb,f0,f1,f2,f3⟩:=HQ.out k hlt
       have e0:=(hbr.cell hlb).trans e0
       have e1:=(hbr.cell hlb).trans e1
       have e2:=(hbr.cell hlb).trans e2
       have e3:=(hbr.cell hlb).trans e3
       have f0:=(hbr.cell hnb).trans f0
       have f1:=(hbr.cell hnb).trans f1
       have f2:=(hbr.cell hnb).trans f2
       have f3:=(hbr.cell hnb).trans f3
       have hlb2:lb < wr.heap.size:=Nat.lt_of_lt_of_le hlb hbr.size
       have hnb2:nb < wr.heap.size:=Nat.lt_of_lt_of_le hnb hbr.size
       generalize b.rs[k]=m at e0 e1 e2 e3 f0 f1 f2 f3
       have heq:=fun w=>neqRec m.k m.a m.b m.m w
       go_wp2
       go_quiet (fail)
       go_wp2
       go_roundw
       case rel=>exact ⟨k+1,by omega,by go_num,bel⟩
       case measure=>simp [intOf];omega
      ·obtain rfl:k=b.rs.length:=by omega
       clear hlt
       go_wp2
       go_ret
       exact ⟨rfl,hbr⟩
end Go.Proofs.YtfggbepickdokaaGreatDoor
namespace Go.Proofs.YtfggbepickdokaaGreatDoor
open Go.RowKit Go.Maps Sp Mt Go.Conc
section
variable {w w1:World} {B n:Nat} {b:Bk} {vr vg vm vs vc:Value}
structure BxSt (w:World) (B:Nat) (b:Bk) (vr vg vm vs vc:Value):Prop where
 c0:w.cell? ⟨B,0,none⟩=some vr
 c1:w.cell? ⟨B,1,none⟩=some vg
 c2:w.cell? ⟨B,2,none⟩=some vm
 c3:w.cell? ⟨B,3,none⟩=some vs
 c4:w.cell? ⟨B,4,none⟩=some vc
 bk:BookAt w b vr vg vm vs vc
 kd:KindsAt w
theorem BxSt.of {l:List Int} {la:Option Addr} (h:LawAt w B b l vr vg vm vs vc la) (hs:SmallB b):BxSt w B b vr vg vm vs vc:=⟨h.c0,h.c1,h.c2,h.c3,h.c4,h.raw.book hs,h.kd⟩
theorem BxSt.old (h:BxSt w B b vr vg vm vs vc) (t:Old w w1):BxSt w1 B b vr vg vm vs vc:=⟨t.cell2 h.c0,t.cell2 h.c1,t.cell2 h.c2,t.cell2 h.c3,t.cell2 h.c4,t.book h.bk,t.kinds h.kd⟩
theorem BxSt.twin (h:BxSt w B b vr vg vm vs vc) (t:Twin n w w1):BxSt w1 B b vr vg vm vs vc:=⟨(t.cell _).trans h.c0,(t.cell _).trans h.c1,(t.cell _).trans h.c2,(t.cell _).trans h.c3,(t.cell _).trans h.c4,t.book h.bk,t.kinds h.kd⟩
theorem stored_lead3 {w':World} (hK:KindsAt w) (t:Twin 0 w w') (c:Frame) (cs:List Frame):Leads Tryz.prog (fun fr' cs' w1=>∃ v,fr'=c.finish v∧cs'=cs∧v=.bool true∧Old w w1) (Frame.enter Tryz.prog 8 #[] .normal) (c::cs) w':=by
 refine (stored_co (t.kinds hK) c cs).mono ?_
 rintro fr' cs' w2 ⟨h1,h2,ho⟩
 exact ⟨_,h1,h2,rfl,t.old0 ho⟩
structure SxSt (w:World) (X:Nat) (x:List Prt) (xa:Option Addr) (xc:Nat):Prop where
 c:w.cell? ⟨X,0,none⟩=some (.slice xa x.length xc)
 le:x.length≤xc
 at_:PartsAt w xa x
theorem SxSt.old {X:Nat} {x:List Prt} {xa:Option Addr} {xc:Nat} (h:SxSt w X x xa xc) (t:Old w w1):SxSt w1 X x xa xc:=⟨t.cell2 h.c,h.le,t.parts h.at_⟩
theorem SxSt.twin {X:Nat} {x:List Prt} {xa:Option Addr} {xc:Nat} (h:SxSt w X x xa xc) (t:Twin n w w1):SxSt w1 X x xa xc:=⟨(t.cell _).trans h.c,h.le,t.parts h.at_⟩
structure RxSt (w:World) (X:Nat) (r:Rec):Prop where
 c0:w.cell? ⟨X,0,none⟩=some (.int .i64 r.k)
 c1:w.cell? ⟨X,1,none⟩=some (.int .i64 r.a)
 c2:w.cell? ⟨X,2,none⟩=some (.int .i64 r.b)
 c3:w.cell? ⟨X,3,none⟩=some (.int .i64 r.m)
theorem RxSt.old {X:Nat} {r:Rec} (h:RxSt w X r) (t:Old w w1):RxSt w1 X r:=⟨t.cell2 h.c0,t.cell2 h.c1,t.cell2 h.c2,t.cell2 h.c3⟩
theorem RxSt.twin {X:Nat} {r:Rec} (h:RxSt w X r) (t:Twin n w w1):RxSt w1 X r:=⟨(t.cell _).trans h.c0,(t.cell _).trans h.c1,(t.cell _).trans h.c2,(t.cell _).trans h.c3⟩
end
variable {B X O P m xc sc:Nat} {b:Bk} {x:List Prt} {t n:Int} {vr vg vm vs vc ur ug um us uc us1 y0:Value} {w w0:World} {xa sa:Option Addr} {u v:List Prt} {d:Nat→Value}
noncomputable def cx (k:Nat):Code:=sql (sqN k (Tryz.f5.body.getD .skip))
theorem cxBody_eq:Tryz.f5.body=some (.seq (cx 0) (.seq (cx 1) (.seq (cx 2) (.seq (cx 3) (.seq (cx 4) (.seq (cx 5) (.seq (cx 6) (.seq (cx 7) (.seq (cx 8) (.seq (cx 9) (.seq (cx 10) (.seq (cx 11) (.seq (cx 12) (.seq (cx 13) (.seq (cx 14) .ret))))))))))))))):=by kernel_rfl
theorem cx1_eq:cx 1=.seq (sql (cx 1)) (.cond (.tmp 25) (cnd (sqr (cx 1))) .skip):=by kernel_rfl
theorem cx9_eq:cx 9=.seq (sql (cx 9)) (.cond (.tmp 89) (cnd (sqr (cx 9))) .skip):=by kernel_rfl
theorem cx6_eq:cx 6=.seq (sql (cx 6)) (.seq (sql (sqr (cx 6))) (.cond (.tmp 69) (cnd (sqr (sqr (cx 6)))) .skip)):=by kernel_rfl
noncomputable def cxB:Code:=(lpc (blk (sqr (cx 2))))
theorem cx2_eq:cx 2=.seq (sql (cx 2)) (.block 0 (.loop cxB)):=by kernel_rfl
theorem cxB_eq:cxB=.seq (sql cxB) (.seq (.block 1 (.seq (sql (blk (sql (sqr cxB)))) (.cond (.tmp 49) (cnd (sqr (blk (sql (sqr cxB))))) .skip))) (sqr (sqr cxB))):=by kernel_rfl
def cI (x0 x1:Value) (d:Nat→Value):Act:={ tmps:=#[x0,x1,d 2,d 3,d 4,d 5,d 6,d 7,d 8,d 9,d 10,d 11,d 12,d 13,d 14,d 15,d 16,d 17,d 18,d 19,d 20,d 21,d 22,d 23,d 24,d 25,d 26,d 27,d 28,d 29,d 30,d 31,d 32,d 33,d 34,d 35,d 36,d 37,d 38,d 39,d 40,d 41,d 42,d 43,d 44,d 45,d 46,d 47,d 48,d 49,d 50,d 51,d 52,d 53,d 54,d 55,d 56,d 57,d 58,d 59,d 60,d 61,d 62,d 63,d 64,d 65,d 66,d 67,d 68,d 69,d 70,d 71,d 72,d 73,d 74,d 75,d 76,d 77,d 78,d 79,d 80,d 81,d 82,d 83,d 84,d 85,d 86,d 87,d 88,d 89,d 90,d 91,d 92,d 93,d 94,d 95,d 96,d 97,d 98,d 99,d 100,d 101,d 102,d 103,d 104,d 105,d 106,d 107,d 108,d 109,d 110,d 111,d 112,d 113,d 114,d 115,d 116,d 117,d 118,d 119,d 120,d 121,d 122,d 123,d 124,d 125,d 126,d 127,d 128,d 129,d 130,d 131,d 132,d 133,d 134,d 135,d 136,d 137,d 138,d 139,d 140,d 141,d 142,d 143,d 144,d 145,d 146,d 147,d 148,d 149,d 150],defers:=[] }
def cG (B X:Nat) (y:Value) (d:Nat→Value):Act:={ tmps:=#[d 0,d 1,.pointer (some ⟨B,0,none⟩),.pointer (some ⟨X,0,none⟩),.bool false,d 5,d 6,d 7,d 8,d 9,d 10,d 11,d 12,d 13,d 14,d 15,d 16,d 17,d 18,d 19,d 20,d 21,d 22,d 23,d 24,y,d 26,d 27,d 28,d 29,d 30,d 31,d 32,d 33,d 34,d 35,d 36,d 37,d 38,d 39,d 40,d 41,d 42,d 43,d 44,d 45,d 46,d 47,d 48,d 49,d 50,d 51,d 52,d 53,d 54,d 55,d 56,d 57,d 58,d 59,d 60,d 61,d 62,d 63,d 64,d 65,d 66,d 67,d 68,d 69,d 70,d 71,d 72,d 73,d 74,d 75,d 76,d 77,d 78,d 79,d 80,d 81,d 82,d 83,d 84,d 85,d 86,d 87,d 88,d 89,d 90,d 91,d 92,d 93,d 94,d 95,d 96,d 97,d 98,d 99,d 100,d 101,d 102,d 103,d 104,d 105,d 106,d 107,d 108,d 109,d 110,d 111,d 112,d 113,d 114,d 115,d 116,d 117,d 118,d 119,d 120,d 121,d 122,d 123,d 124,d 125,d 126,d 127,d 128,d 129,d 130,d 131,d 132,d 133,d 134,d 135,d 136,d 137,d 138,d 139,d 140,d 141,d 142,d 143,d 144,d 145,d 146,d 147,d 148,d 149,d 150],defers:=[] }
def cF (B X:Nat) (d:Nat→Value):Act:={ tmps:=#[d 0,d 1,.pointer (some ⟨B,0,none⟩),.pointer (some ⟨X,0,none⟩),d 4,d 5,d 6,d 7,d 8,d 9,d 10,d 11,d 12,d 13,d 14,d 15,d 16,d 17,d 18,d 19,d 20,d 21,d 22,d 23,d 24,d 25,d 26,d 27,d 28,d 29,d 30,d 31,d 32,d 33,d 34,d 35,d 36,d 37,d 38,d 39,d 40,d 41,d 42,d 43,d 44,d 45,d 46,d 47,d 48,d 49,d 50,d 51,d 52,d 53,d 54,d 55,d 56,d 57,d 58,d 59,d 60,d 61,d 62,d 63,d 64,d 65,d 66,d 67,d 68,d 69,d 70,d 71,d 72,d 73,d 74,d 75,d 76,d 77,d 78,d 79,d 80,d 81,d 82,d 83,d 84,d 85,d 86,d 87,d 88,d 89,d 90,d 91,d 92,d 93,d 94,d 95,d 96,d 97,d 98,d 99,d 100,d 101,d 102,d 103,d 104,d 105,d 106,d 107,d 108,d 109,d 110,d 111,d 112,d 113,d 114,d 115,d 116,d 117,d 118,d 119,d 120,d 121,d 122,d 123,d 124,d 125,d 126,d 127,d 128,d 129,d 130,d 131,d 132,d 133,d 134,d 135,d 136,d 137,d 138,d 139,d 140,d 141,d 142,d 143,d 144,d 145,d 146,d 147,d 148,d 149,d 150],defers:=[] }
def cL (B X k:Nat) (d:Nat→Value):Act:={ tmps:=#[d 0,d 1,.pointer (some ⟨B,0,none⟩),.pointer (some ⟨X,0,none⟩),d 4,.int .i64 (k:Int),d 6,d 7,d 8,d 9,d 10,d 11,d 12,d 13,d 14,d 15,d 16,d 17,d 18,d 19,d 20,d 21,d 22,d 23,d 24,d 25,d 26,d 27,d 28,d 29,d 30,d 31,d 32,d 33,d 34,d 35,d 36,d 37,d 38,d 39,d 40,d 41,d 42,d 43,d 44,d 45,d 46,d 47,d 48,d 49,d 50,d 51,d 52,d 53,d 54,d 55,d 56,d 57,d 58,d 59,d 60,d 61,d 62,d 63,d 64,d 65,d 66,d 67,d 68,d 69,d 70,d 71,d 72,d 73,d 74,d 75,d 76,d 77,d 78,d 79,d 80,d 81,d 82,d 83,d 84,d 85,d 86,d 87,d 88,d 89,d 90,d 91,d 92,d 93,d 94,d 95,d 96,d 97,d 98,d 99,d 100,d 101,d 102,d 103,d 104,d 105,d 106,d 107,d 108,d 109,d 110,d 111,d 112,d 113,d 114,d 115,d 116,d 117,d 118,d 119,d 120,d 121,d 122,d 123,d 124,d 125,d 126,d 127,d 128,d 129,d 130,d 131,d 132,d 133,d 134,d 135,d 136,d 137,d 138,d 139,d 140,d 141,d 142,d 143,d 144,d 145,d 146,d 147,d 148,d 149,d 150],defers:=[] }
def cO (B X O:Nat) (d:Nat→Value):Act:={ tmps:=#[d 0,d 1,.pointer (some ⟨B,0,none⟩),.pointer (some ⟨X,0,none⟩),d 4,d 5,.pointer (some ⟨O,0,none⟩),d 7,d 8,d 9,d 10,d 11,d 12,d 13,d 14,d 15,d 16,d 17,d 18,d 19,d 20,d 21,d 22,d 23,d 24,d 25,d 26,d 27,d 28,d 29,d 30,d 31,d 32,d 33,d 34,d 35,d 36,d 37,d 38,d 39,d 40,d 41,d 42,d 43,d 44,d 45,d 46,d 47,d 48,d 49,d 50,d 51,d 52,d 53,d 54,d 55,d 56,d 57,d 58,d 59,d 60,d 61,d 62,d 63,d 64,d 65,d 66,d 67,d 68,d 69,d 70,d 71,d 72,d 73,d 74,d 75,d 76,d 77,d 78,d 79,d 80,d 81,d 82,d 83,d 84,d 85,d 86,d 87,d 88,d 89,d 90,d 91,d 92,d 93,d 94,d 95,d 96,d 97,d 98,d 99,d 100,d 101,d 102,d 103,d 104,d 105,d 106,d 107,d 108,d 109,d 110,d 111,d 112,d 113,d 114,d 115,d 116,d 117,d 118,d 119,d 120,d 121,d 122,d 123,d 124,d 125,d 126,d 127,d 128,d 129,d 130,d 131,d 132,d 133,d 134,d 135,d 136,d 137,d 138,d 139,d 140,d 141,d 142,d 143,d 144,d 145,d 146,d 147,d 148,d 149,d 150],defers:=[] }
def cA (B X O P:Nat) (t:Int) (d:Nat→Value):Act:={ tmps:=#[d 0,d 1,.pointer (some ⟨B,0,none⟩),.pointer (some ⟨X,0,none⟩),d 4,d 5,.pointer (some ⟨O,0,none⟩),.pointer (some ⟨P,0,none⟩),.int .i64 t,d 9,d 10,d 11,d 12,d 13,d 14,d 15,d 16,d 17,d 18,d 19,d 20,d 21,d 22,d 23,d 24,d 25,d 26,d 27,d 28,d 29,d 30,d 31,d 32,d 33,d 34,d 35,d 36,d 37,d 38,d 39,d 40,d 41,d 42,d 43,d 44,d 45,d 46,d 47,d 48,d 49,d 50,d 51,d 52,d 53,d 54,d 55,d 56,d 57,d 58,d 59,d 60,d 61,d 62,d 63,d 64,d 65,d 66,d 67,d 68,d 69,d 70,d 71,d 72,d 73,d 74,d 75,d 76,d 77,d 78,d 79,d 80,d 81,d 82,d 83,d 84,d 85,d 86,d 87,d 88,d 89,d 90,d 91,d 92,d 93,d 94,d 95,d 96,d 97,d 98,d 99,d 100,d 101,d 102,d 103,d 104,d 105,d 106,d 107,d 108,d 109,d 110,d 111,d 112,d 113,d 114,d 115,d 116,d 117,d 118,d 119,d 120,d 121,d 122,d 123,d 124,d 125,d 126,d 127,d 128,d 129,d 130,d 131,d 132,d 133,d 134,d 135,d 136,d 137,d 138,d 139,d 140,d 141,d 142,d 143,d 144,d 145,d 146,d 147,d 148,d 149,d 150],defers:=[] }
def CX0 (b:Bk) (x:List Prt) (xa:Option Addr) (xc:Nat) (vr vg vm vs vc:Value) (a':Act) (w2:World):Prop:=∃ B X y,(∃ d,a'=cG B X y d)∧LawAt w2 B b [] vr vg vm vs vc none∧SxSt w2 X x xa xc
theorem cx_0 (hR:RawAt w b vr vg vm vs vc) (hK:KindsAt w) (hP:PartsAt w xa x) (hxc:x.length≤xc):(cx 0).wp Tryz.prog (PZ w (CX0 b x xa xc vr vg vm vs vc)) (cI (.agg #[vr,vg,vm,vs,vc]) (.agg #[.slice xa x.length xc]) d) w:=by
 simp only [cx,sqN,sql,sqr,cnd,blk,lpc,Tryz.f5,Option.getD_some,cI]
 have HR:=Hh hR
 have HK:=Hh hK
 have HP:=Hh hP
 clear hR hK hP
 go_wp2
 have hbw:Below w.heap.size w ((w.alloc (.cells #[vr,vg,vm,vs,vc] 26)).alloc (.cells #[.slice xa x.length xc] 40)):=bel
 refine ⟨rfl,⟨w.heap.size,w.heap.size+1,d 25,fr_of (by kernel_rfl),⟨?_,?_,?_,?_,?_,HR.out.below hbw,HK.out.below hbw,ints_nil⟩,?_,hxc,HP.out.below hbw⟩,hbw⟩
 ·rw [World.cell?_alloc_past _ _ _ (by simp),World.cell?_alloc_at _ _ _ _ rfl];rfl
 ·rw [World.cell?_alloc_past _ _ _ (by simp),World.cell?_alloc_at _ _ _ _ rfl];rfl
 ·rw [World.cell?_alloc_past _ _ _ (by simp),World.cell?_alloc_at _ _ _ _ rfl];rfl
 ·rw [World.cell?_alloc_past _ _ _ (by simp),World.cell?_alloc_at _ _ _ _ rfl];rfl
 ·rw [World.cell?_alloc_past _ _ _ (by simp),World.cell?_alloc_at _ _ _ _ rfl];rfl
 ·rw [World.cell?_alloc_at _ _ _ _ (by simp)];rfl
def CX1 (B X:Nat) (y:Bool) (a':Act) (w2:World):Prop:=∃ d,a'=cG B X (.bool y) d
theorem cx_1 {y:Bool} (hE:LawAt w B b [] vr vg vm vs vc none) (hX:SxSt w X x xa xc) (hx:y=true↔¬ (SmallB b∧bookAl b=0∧x.length≤20)):(sql (cx 1)).wp Tryz.prog (PZ w (CX1 B X y)) (cG B X y0 d) w:=by
 simp only [cx,sqN,sql,sqr,cnd,blk,lpc,Tryz.f5,Option.getD_some,cG]
 have hrw:=hE.raw
 obtain ⟨x0,x1,x2,x3,x4,_,_,_⟩:=hE
 have HRW:=Hh hrw
 have hB0:=lt_of_cell x0
 have cX:=hX.c
 have hX0:=lt_of_cell cX
 simp only at hB0 hX0
 by_cases hs:SmallB b∧bookAl b=0
 ·have HG:=Hh (show (true=true↔SmallB b∧bookAl b=0) by simp [hs])
  by_cases hl:x.length≤20
  ·obtain rfl:y=false:=by
    cases y with
    | false=>rfl
    | true=>exact absurd ⟨hs.1,hs.2,hl⟩ (hx.1 rfl)
   have hg:decide ((20:Int) < (x.length:Int))=false:=by rw [decide_eq_false_iff_not];omega
   clear hs hx hrw hX
   go_wp2_with (go_at_call 21;(with_reducible refine (fit_at HRW.out HG.out).mono ?_);rintro e w1 ⟨rfl,hb1⟩;have cX:=(hb1.cell (p:=⟨X,0,none⟩) hX0).trans cX)
   exact ⟨rfl,fr_of (by kernel_rfl),hb1⟩
  ·obtain rfl:y=true:=hx.2 fun h=>hl h.2.2
   have hg:decide ((20:Int) < (x.length:Int))=true:=by rw [decide_eq_true_iff];omega
   clear hs hx hrw hX
   go_wp2_with (go_at_call 21;(with_reducible refine (fit_at HRW.out HG.out).mono ?_);rintro e w1 ⟨rfl,hb1⟩;have cX:=(hb1.cell (p:=⟨X,0,none⟩) hX0).trans cX)
   exact ⟨rfl,fr_of (by kernel_rfl),hb1⟩
 ·have HG:=Hh (show (false=true↔SmallB b∧bookAl b=0) by simp [hs])
  obtain rfl:y=true:=hx.2 fun h=>hs ⟨h.1,h.2.1⟩
  clear hs hx hrw hX
  go_wp2_with (go_at_call 21;(with_reducible refine (fit_at HRW.out HG.out).mono ?_);rintro e w1 ⟨rfl,hb1⟩)
  exact ⟨rfl,fr_of (by kernel_rfl),hb1⟩
variable {B X O P m xc sc:Nat} {b:Bk} {x:List Prt} {t n:Int} {vr vg vm vs vc ur ug um us uc us1 y0:Value} {w w0:World} {xa sa:Option Addr} {u v:List Prt} {d:Nat→Value}
def CF (B X:Nat) (a':Act) (w2:World):Prop:=∃ d,a'=cF B X d
theorem cx_2 (hE:BxSt w B b vr vg vm vs vc) (hn:NoCounts b):(cx 2).wp Tryz.prog (NQ fun a' w2=>CF B X a' w2∧w2=w) (cF B X d) w:=by
 simp only [cx,sqN,sql,sqr,cnd,blk,lpc,Tryz.f5,Option.getD_some,cF]
 obtain ⟨c0,c1,c2,c3,c4,hbk,_⟩:=hE
 obtain ⟨_,_,_,_,ra,rc,rfl,hR,hrl⟩:=hbk
 have hB0:=lt_of_cell c0
 simp only at hB0
 have HR:=Hh hR
 have HN:=Hh hn
 clear hR hn
 go_wp2
 go_loop [5] (fun i=>∃ k:Nat,k≤b.rs.length∧i=.int .i64 k) (fun i=>b.rs.length - (intOf i).toNat)
 case atStart=>exact ⟨0,Nat.zero_le _,rfl⟩
 case round =>
  obtain ⟨k,hk,rfl⟩:=hrel
  by_cases hlt:k < b.rs.length
  ·obtain ⟨rb,ro,rfl,hrb,e0,_,_,_⟩:=HR.out k hlt
   have hkk:=HN.out _ (List.getElem_mem hlt)
   generalize b.rs[k]=r at e0 hkk
   have h4:(r.k == 4)=false:=by rw [beq_eq_false_iff_ne];exact hkk.1
   have h5:(r.k == 5)=false:=by rw [beq_eq_false_iff_ne];exact hkk.2
   clear hkk
   go_wp2
   go_round
   case rel=>exact ⟨k+1,by omega,by go_num⟩
   case measure=>simp [intOf];omega
  ·obtain rfl:k=b.rs.length:=by omega
   go_wp2
   exact ⟨fr_of (F:=cF B X) (by kernel_rfl),rfl⟩
def CL (B X k:Nat) (a':Act) (w2:World):Prop:=∃ d,a'=cL B X k d
theorem cx_l0:(sql (cx 2)).wp Tryz.prog (PZ w (CL B X 0)) (cF B X d) w:=by
 simp only [cx,sqN,sql,sqr,cnd,blk,lpc,Tryz.f5,Option.getD_some,cF]
 go_wp2
 exact ⟨rfl,fr_of (by kernel_rfl),bel⟩
theorem cx_head {k:Nat} (hE:BxSt w B b vr vg vm vs vc) (hk:k < b.rs.length):(sql cxB).wp Tryz.prog (PZ w (CL B X k)) (cL B X k d) w:=by
 simp only [cxB,cx,sqN,sql,sqr,cnd,blk,lpc,Tryz.f5,Option.getD_some,cL]
 obtain ⟨c0,c1,c2,c3,c4,hbk,_⟩:=hE
 obtain ⟨_,_,_,_,ra,rc,rfl,hR,hrl⟩:=hbk
 have hB0:=lt_of_cell c0
 simp only at hB0
 clear hR
 go_wp2
 exact ⟨rfl,fr_of (by kernel_rfl),bel⟩
theorem cx_body {k:Nat} (hE:BxSt w B b vr vg vm vs vc) (hk:k < b.rs.length) (hkk:b.rs[k].k≠4∧b.rs[k].k≠5):cxB.wp Tryz.prog (PZ w (CL B X (k+1))) (cL B X k d) w:=by
 simp only [cxB,cx,sqN,sql,sqr,cnd,blk,lpc,Tryz.f5,Option.getD_some,cL]
 obtain ⟨c0,c1,c2,c3,c4,hbk,_⟩:=hE
 obtain ⟨_,_,_,_,ra,rc,rfl,hR,hrl⟩:=hbk
 have hB0:=lt_of_cell c0
 simp only at hB0
 obtain ⟨rb,ro,rfl,hrb,e0,_,_,_⟩:=hR k hk
 generalize b.rs[k]=r at e0 hkk
 have h4:(r.k == 4)=false:=by rw [beq_eq_false_iff_ne];exact hkk.1
 have h5:(r.k == 5)=false:=by rw [beq_eq_false_iff_ne];exact hkk.2
 clear hkk hR
 go_wp2
 exact ⟨rfl,fr_of (F:=cL B X (k+1)) (by kernel_rfl),bel⟩
theorem cx_hit {k:Nat} (hE:BxSt w B b vr vg vm vs vc) (hk:k < b.rs.length) (hkk:b.rs[k].k=4∨b.rs[k].k=5):(sql (blk (sql (sqr cxB)))).wp Tryz.prog (PZ w (fun a' _=>a'.tmps[49]? = some (.bool true)∧Kn a' 151 [])) (cL B X k d) w:=by
 simp only [cxB,cx,sqN,sql,sqr,cnd,blk,lpc,Tryz.f5,Option.getD_some,cL]
 obtain ⟨c0,c1,c2,c3,c4,hbk,_⟩:=hE
 obtain ⟨_,_,_,_,ra,rc,rfl,hR,hrl⟩:=hbk
 have hB0:=lt_of_cell c0
 simp only at hB0
 obtain ⟨rb,ro,rfl,hrb,e0,_,_,_⟩:=hR k hk
 generalize b.rs[k]=r at e0 hkk
 by_cases h4:r.k=4
 ·have h4:(r.k == 4)=true:=by rw [beq_iff_eq];exact h4
  clear hkk hR
  go_wp2
  exact ⟨rfl,⟨rfl,rfl,rfl,trivial⟩,bel⟩
 ·have h5:(r.k == 5)=true:=by rw [beq_iff_eq];exact hkk.resolve_left h4
  have h4:(r.k == 4)=false:=by rw [beq_eq_false_iff_ne];exact h4
  clear hkk hR
  go_wp2
  exact ⟨rfl,⟨rfl,rfl,rfl,trivial⟩,bel⟩
end Go.Proofs.YtfggbepickdokaaGreatDoor
