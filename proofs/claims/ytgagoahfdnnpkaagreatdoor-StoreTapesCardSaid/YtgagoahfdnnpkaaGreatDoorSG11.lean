/- StoreTapes -/
import Derived.Test.YtgagoahfdnnpkaaGreatDoorSG10
import Derived.Laws.CopyOwn
set_option maxHeartbeats 4000000
set_option maxRecDepth 100000
set_option linter.all false
namespace Go.Proofs.YtgagoahfdnnpkaaGreatDoor
open Go.RowKit Go.Maps Sp
section
variable {b:Bk} {vr vg vm vs vc:Value} {w:World}
theorem rPasts_at (hO:BkOk b) (hr:∀ r∈b.rs,recAl b r=0):∀ (l:List (List Prt)) (pre:List Int) (w:World) (la:Option Addr) (lc:Nat),BookAt w b vr vg vm vs vc->b.ss.drop pre.length=l->pre.length<=b.ss.length->PreIn b.ss pre->IntsV w (.slice la pre.length lc) pre ->
 Calls Tryz.prog 84 #[.agg #[vr,vg,vm,vs,vc],.slice la pre.length lc] w (PastsOut w (pastsFrom b pre l))
 | [],pre,w,la,lc,hB,hs,hle,hp,hL=>by
  have hl:pre.length=b.ss.length:=by
   apply Classical.byContradiction;intro h;have:=congrArg List.length hs;rw [List.length_drop,List.length_nil] at this;omega
  unfold pastsFrom;exact rPasts_leaf hB hO hr hl hp hL
 | s::l,pre,w,la,lc,hB,hs,hle,hp,hL=>by
  have hlt:pre.length < b.ss.length:=by
   apply Classical.byContradiction;intro h;rw [List.drop_eq_nil_of_le (by omega)] at hs;cases hs
  have hd:=List.drop_eq_getElem_cons hlt;rw [hs] at hd;obtain ⟨h1,h2⟩:=List.cons.inj hd;unfold pastsFrom;refine rPasts_step hB hO.pl hO.sl hs (fun n hn W la' lc' hW hL'=>?_) hL;have:=rPasts_at hO hr l (pre ++ [(n:Int)]) W la' lc' (hB.below hW) (by rw [List.length_append];exact h2.symm) (by rw [List.length_append];simp;omega) (fun i hi=>?_) (by rw [List.length_append];exact hL')
  ·rw [List.length_append] at this;exact this
  ·rw [List.length_append] at hi;by_cases hip:i < pre.length
   ·rw [List.getElem_append_left hip];exact hp i hip
   ·obtain rfl:i=pre.length:=by simp at hi;omega
    rw [List.getElem_append_right (Nat.le_refl _)];simp only [Nat.sub_self,List.getElem_cons_zero];exact ⟨by omega,hlt,by rw [<- h1];omega⟩
theorem rPastsOf_at (hB:BookAt w b vr vg vm vs vc) (hO:BkOk b) (hr:∀ r∈b.rs,recAl b r=0) :
 Calls Tryz.prog 53 #[.agg #[vr,vg,vm,vs,vc]] w (PastsOut w (pasts b)):=by
 have hc:∀ (W:World) (hb:Below w.heap.size w W),Calls Tryz.prog 84 #[.agg #[vr,vg,vm,vs,vc],.slice none 0 0] W (PastsOut W (pasts b)):=fun (W:World) (hb:Below w.heap.size w W)=>rPasts_at (vr:=vr) (vg:=vg) (vm:=vm) (vs:=vs) (vc:=vc) hO hr b.ss [] W none 0 (hB.below hb) rfl (Nat.zero_le _) (fun i hi=>absurd hi (Nat.not_lt_zero _)) (IntsV.nil _);have HC:=Hh hc;clear hc hB hO hr
 go_enter Tryz.func53,Tryz.ntmps53
 go_wp2_with (go_at_call 84;(with_reducible refine (HC.out _ (bel)).mono ?_);rintro e w1 ⟨a,c,vs',rfl,h1,h2,h3⟩);go_ret;exact ⟨a,c,vs',rfl,ownsRow_base h1 (by simp),h2,bel⟩
def askedAl (b:Bk) (is:Bool):Int:=if bookAl b≠0 then bookAl b else if is=false then 6 else if pasts b=[] then 10 else 0
theorem askedAl_ok {b:Bk} {is:Bool} (h:askedAl b is=0):bookAl b=0/\is=true/\pasts b≠[]:=by
 unfold askedAl at h;split at h
 ·rename_i hh;exact absurd h hh
 ·rename_i hh
  split at h
  ·cases h
  ·rename_i h2
   split at h
   ·cases h
   ·rename_i h3;exact ⟨Classical.not_not.1 hh,by simpa using h2,h3⟩
theorem rAsked_no (hB:BookAt w b vr vg vm vs vc) (hN:∀ m∈b.ms,m.name.size<=1000000) (is:Bool) {t:Int} (ht:askedAl b is=t) (h0:t≠0) :
 Calls Tryz.prog 39 #[.agg #[vr,vg,vm,vs,vc],.bool is] w fun e w'=>e=.returned (.tuple #[.slice none 0 0,.int .i64 t])/\Below w.heap.size w w':=by
 have HB:=Hh hB;have HN:=Hh hN;obtain ⟨rfl,rfl,⟨ma,mc,rfl,_,_⟩,⟨sa,sc,rfl,_,_⟩,ra,rc,rfl,_,_⟩:=id hB;clear hB hN;by_cases hk:bookAl b=0
 case neg =>
  have h1:askedAl b is=bookAl b:=by unfold askedAl;rw [if_pos hk]
  rw [h1] at ht;have H0:=Hh ht;have hz3:(t != 0)=true:=by simpa using h0
  clear ht h1 hk h0
  go_enter Tryz.func39,Tryz.ntmps39
  go_wp2_with (go_at_call 37;(with_reducible refine (rCheckBook_at (HB.out.below (bel)) HN.out H0.out).mono ?_);rintro e w1 ⟨rfl,hb1⟩;obtain ⟨hc1,hf1⟩:=bcell hb1;have hz1:w.heap.size < w1.heap.size:=(by have:=hb1.size;simp at this;omega));exact bodyPost_ret (v:=.tuple #[.slice none 0 0,.int .i64 t]) (by simp [results,Tryz.results39,go_sem, *]) rfl ⟨rfl,bel⟩
 have H0:=Hh hk;have HO:=Hh (bookAl_ok hk).1;have HR:=Hh (bookAl_ok hk).2;cases is
 ·have h1:t=6:=by rw [<- ht];unfold askedAl;rw [if_neg (by simpa using hk),if_pos rfl]
  subst h1;clear ht hk h0
  go_enter Tryz.func39,Tryz.ntmps39
  go_wp2_with (go_at_call 37;(with_reducible refine (rCheckBook_at (HB.out.below (bel)) HN.out H0.out).mono ?_);rintro e w1 ⟨rfl,hb1⟩;obtain ⟨hc1,hf1⟩:=bcell hb1;have hz1:w.heap.size < w1.heap.size:=(by have:=hb1.size;simp at this;omega));exact bodyPost_ret (v:=.tuple #[.slice none 0 0,.int .i64 6]) (by simp [results,Tryz.results39,go_sem, *]) rfl ⟨rfl,bel⟩
 ·have hp:pasts b=[]:=by
   apply Classical.byContradiction;intro hp;apply h0;rw [<- ht];unfold askedAl;rw [if_neg (by simpa using hk),if_neg (by simp),if_neg hp]
  have h1:t=10:=by rw [<- ht];unfold askedAl;rw [if_neg (by simpa using hk),if_neg (by simp),if_pos hp]
  subst h1;have hpl:(pasts b).length=0:=by rw [hp];rfl
  have HP:=Hh hpl;clear ht hk h0 hp hpl
  go_enter Tryz.func39,Tryz.ntmps39
  go_wp2_with (first
   | (go_at_call 37;(with_reducible refine (rCheckBook_at (HB.out.below (bel)) HN.out H0.out).mono ?_);rintro e w1 ⟨rfl,hb1⟩;obtain ⟨hc1,hf1⟩:=bcell hb1;have hz1:w.heap.size < w1.heap.size:=(by have:=hb1.size;simp at this;omega))
   | (go_at_call 53;(with_reducible refine (rPastsOf_at (HB.out.below (bel)) HO.out HR.out).mono ?_);rintro e w3 ⟨a,c,vs',rfl,h1,h2,hb3⟩;rw [HP.out]))
  exact bodyPost_ret (v:=.tuple #[.slice none 0 0,.int .i64 10]) (by simp [results,Tryz.results39,go_sem, *]) rfl ⟨rfl,bel⟩
def AskedOut (W:World) (ls:List (List Int)) (e:Ending) (W':World):Prop:=∃ a c vs,e=.returned (.tuple #[.slice a ls.length c,.int .i64 0])/\W'.ownsRow W.heap.size 27 1 (.slice a ls.length c) ls.length vs/\ListsV W' vs ls/\Below W.heap.size W W'
theorem rAsked_ok (hB:BookAt w b vr vg vm vs vc) (hN:∀ m∈b.ms,m.name.size<=1000000) (ht:askedAl b true=0) :
 Calls Tryz.prog 39 #[.agg #[vr,vg,vm,vs,vc],.bool true] w (AskedOut w (pasts b)):=by
 obtain ⟨hk,_,hp⟩:=askedAl_ok ht;have HB:=Hh hB;have HN:=Hh hN;obtain ⟨rfl,rfl,⟨ma,mc,rfl,_,_⟩,⟨sa,sc,rfl,_,_⟩,ra,rc,rfl,_,_⟩:=id hB;have H0:=Hh hk;have HO:=Hh (bookAl_ok hk).1;have HR:=Hh (bookAl_ok hk).2;have hpl:(((pasts b).length:Nat):Int) == 0↔False:=by
  have:(pasts b).length≠0:=fun h=>hp (List.length_eq_zero_iff.1 h);simp;exact hp
 have hpl2:((((pasts b).length:Nat):Int) == 0)=false:=by simpa using hp
 clear hB hN hk hp ht hpl
 go_enter Tryz.func39,Tryz.ntmps39
 go_wp2_with (first
  | (go_at_call 37;(with_reducible refine (rCheckBook_at (HB.out.below (bel)) HN.out H0.out).mono ?_);rintro e w1 ⟨rfl,hb1⟩;obtain ⟨hc1,hf1⟩:=bcell hb1;have hz1:w.heap.size < w1.heap.size:=(by have:=hb1.size;simp at this;omega))
  | (go_at_call 53;(with_reducible refine (rPastsOf_at (HB.out.below (bel)) HO.out HR.out).mono ?_);rintro e w3 ⟨a,c,vs',rfl,h1,h2,hb3⟩))
 have hbw:Below w.heap.size w w1:=bel;exact bodyPost_ret (v:=.tuple #[.slice a (pasts b).length c,.int .i64 0]) (by simp [results,Tryz.results39,go_sem, *]) rfl ⟨a,c,vs',rfl,ownsRow_base h1 hbw.size,h2,bel⟩
end
section
variable {b:Bk} {vr vg vm vs vc:Value} {w:World}
end
attribute [local go_sem] Oper.semAt_some
theorem mem_pastsFrom {b:Bk}:∀ (l:List (List Prt)) (pre x:List Int),x∈pastsFrom b pre l↔∃ suf,x=pre ++ suf/\suf.length=l.length/\(∀ i (h:i < suf.length),0<=suf[i]/\∃ h2:i < l.length,suf[i]<=(l[i].length:Int))/\right b x=true
 | [],pre,x=>by
  unfold pastsFrom;constructor
  ·intro h;split at h
   ·rename_i hr
    simp only [List.mem_singleton] at h;exact ⟨[],by simp [h],rfl,fun i hi=>absurd hi (Nat.not_lt_zero _),by rw [h];exact hr⟩
   ·simp at h
  ·rintro ⟨suf,rfl,hl,_,hr⟩;obtain rfl:suf=[]:=List.length_eq_zero_iff.1 hl;rw [List.append_nil] at hr ⊢;rw [if_pos hr];simp
 | s::l,pre,x=>by
  unfold pastsFrom;rw [List.mem_flatMap];constructor
  ·rintro ⟨n,hn,hx⟩;obtain ⟨suf,rfl,hl,hr,hri⟩:=(mem_pastsFrom l _ x).1 hx;rw [List.mem_range] at hn;refine ⟨(n:Int)::suf,by simp,by simp [hl],fun i hi=>?_,hri⟩
   cases i with
   | zero=>simp;omega
   | succ i =>
    obtain ⟨h1,h2,h3⟩:=hr i (by simpa using hi);exact ⟨by simpa using h1,by simpa using h2,by simpa using h3⟩
  ·rintro ⟨suf,rfl,hl,hr,hri⟩
   match suf,hl with
   | y::suf,hl =>
    obtain ⟨h1,_,h3⟩:=hr 0 (by simp);simp only [List.getElem_cons_zero] at h1 h3;refine ⟨y.toNat,List.mem_range.2 (by omega),(mem_pastsFrom l _ _).2 ⟨suf,?_,by simpa using hl,fun i hi=>?_,?_⟩⟩
    ·rw [Int.toNat_of_nonneg h1];simp
    ·obtain ⟨h4,h5,h6⟩:=hr (i+1) (by simpa using hi);exact ⟨by simpa using h4,by simpa using h5,by simpa using h6⟩
    ·exact hri
section
variable {b:Bk} {vr vg vm vs vc:Value} {w:World}
end
end Go.Proofs.YtgagoahfdnnpkaaGreatDoor
namespace Go.Proofs.YtgagoahfdnnpkaaGreatDoor
open Go.RowKit Sp
end Go.Proofs.YtgagoahfdnnpkaaGreatDoor
namespace Go.Proofs.YtgagoahfdnnpkaaGreatDoor
open Go.RowKit Go.Maps Sp
section
variable {b:Bk} {vr vg vm vs vc:Value} {w:World}
def PartsRet (w:World) (l:List Prt) (e:Ending) (w':World):Prop:=∃ a c,e=.returned (.tuple #[.slice a l.length c,.int .i64 0])/\PartsAt w' a l/\Below w.heap.size w w'
theorem missingApi_ok (hB:BookAt w b vr vg vm vs vc) (hN:∀ m∈b.ms,m.name.size<=1000000) (hK:KindsAt w) (ht:openAl b 0=0) :
 Calls Tryz.prog 24 #[.agg #[vr,vg,vm,vs,vc]] w (PartsRet w (missI b)):=by
 have HB:=Hh hB;have HN:=Hh hN;have HK:=Hh hK;obtain ⟨hk,hpt,hps⟩:=openAl_ok ht;have hbo:=(bookAl_ok hk).1;have HO:=Hh hbo;have HBA:=Hh hk;have HPS:=Hh hps;have hpl:=pasts_le hbo;have HPC:=Hh (fun x (hx:x∈pasts b)=>pasts_came hbo hx);obtain ⟨rfl,rfl,⟨ma,mc,rfl,_,_⟩,⟨sa,sc,rfl,_,_⟩,ra,rc,rfl,_,_⟩:=id hB;clear hB hN hK ht hk hpt hps hbo
 go_enter Tryz.func24,Tryz.ntmps24
 go_wp2_with (first
  | (go_at_call 31;(with_reducible refine (open_nothing_ok (HB.out.below (bel)) HN.out (HK.out.below (bel)) (al:=0) (fun hk W hW=>nothing_any _ _ _ _ _ _) HBA.out rfl HPS.out).mono ?_);rintro e w3 ⟨la,rfl,hrow,hb3⟩;obtain ⟨la,lc,rfl⟩:=ownsRow_slice hrow;have HCM:=Hh (cames_of_row hrow);clear hrow;obtain ⟨hc3,hf3⟩:=bcell hb3;have hz3:=hb3.size;(try simp at hz3))
  | (go_at_call 50;(with_reducible refine (missing_at (HB.out.below (bel)) HO.out (HCM.out.below (bel)) HPC.out (by omega)).mono ?_);rintro e w4 ⟨v4,rfl,hr4,hb4⟩;obtain ⟨a4,c4,rfl⟩:=ownsRow_slice hr4;have HP4:=Hh (show PartsAt w4 a4 (missI b) from parts_of_row hr4);clear hr4;have hz4:=hb4.size;(try simp at hz4)))
 exact bodyPost_ret (v:=.tuple #[.slice a4 (missI b).length c4,.int .i64 0]) (by simp [results,Tryz.results24,go_sem,missI, *]) rfl ⟨a4,c4,rfl,HP4.out,bel⟩
end
attribute [local go_sem] Oper.semAt_some
namespace Sp
def isWhole (b:Bk) (i:Nat) (x:List Int):Bool:=decide (haveOf b (pad x) i=(b.ms[i]?).elim 0 Msg.groups)
def wholeI (b:Bk) (l:List (List Int)) (i:Nat):Int:=((l.countP (isWhole b i):Nat):Int)
def deliveredTo (b:Bk) (k:Nat):List Int:=(List.range k).map fun i=>sayI (wholeI b (pasts b) i) ((pasts b).length:Int)
def deliveredI (b:Bk):List Int:=deliveredTo b b.ms.length
theorem deliveredTo_succ (b:Bk) (k:Nat):deliveredTo b (k+1)=deliveredTo b k ++ [sayI (wholeI b (pasts b) k) ((pasts b).length:Int)]:=by
 unfold deliveredTo;rw [List.range_succ,List.map_append];rfl
theorem deliveredTo_length (b:Bk) (k:Nat):(deliveredTo b k).length=k:=by simp [deliveredTo]
theorem wholeI_snoc (b:Bk) (l:List (List Int)) (i:Nat) (x:List Int):wholeI b (l ++ [x]) i=wholeI b l i+if isWhole b i x=true then 1 else 0:=by
 unfold wholeI;rw [List.countP_append,List.countP_cons,List.countP_nil];split <;> simp_all
theorem wholeI_bd (b:Bk) (l:List (List Int)) (i:Nat):0<=wholeI b l i/\wholeI b l i<=l.length:=by
 unfold wholeI;have:=List.countP_le_length (p:=isWhole b i) (l:=l);omega
end Sp
theorem claimInfo:(Tryz.prog.info? 53).map (fun i=>(i.zero,i.size,i.bytes))=some (some (.int .i64 0),1,8):=by kernel_rfl
section
variable {b:Bk} {vr vg vm vs vc:Value} {w:World}
def ClaimsRet (w:World) (l:List Int) (e:Ending) (w':World):Prop:=∃ a c,e=.returned (.tuple #[.slice a l.length c,.int .i64 0])/\IntsAt w' a l/\Below w.heap.size w w'
theorem ints_of_row2 {w:World} {a:Option Addr} {t:TypeId} {base n c:Nat} {l:List Int} (h:w.ownsRow base t 1 (.slice a n c) n (l.map (Value.int .i64))):IntsAt w a l:=fun i hi=>by
 obtain ⟨g,rfl,_,h2,h3⟩:=row_cell h i (by simpa using hi);refine ⟨g,0,rfl,h2,?_⟩;rw [Nat.zero_add,h3];simp [hi]
theorem delivered_ok (hB:BookAt w b vr vg vm vs vc) (hN:∀ m∈b.ms,m.name.size<=1000000) (hK:KindsAt w) (ht:openAl b 0=0) :
 Calls Tryz.prog 23 #[.agg #[vr,vg,vm,vs,vc]] w (ClaimsRet w (deliveredI b)):=by
 have HB:=Hh hB;have HN:=Hh hN;have HK:=Hh hK;obtain ⟨hk,hpt,hps⟩:=openAl_ok ht;have hbo:=(bookAl_ok hk).1;have HO:=Hh hbo;have HBA:=Hh hk;have HPS:=Hh hps;have hpl:=pasts_le hbo;have hml5:=hbo.ml;have HGR:=Hh hbo.groups;have HPC:=Hh (fun x (hx:x∈pasts b)=>pasts_came hbo hx);obtain ⟨rfl,rfl,⟨ma,mc,rfl,hms,_⟩,⟨sa,sc,rfl,_,_⟩,ra,rc,rfl,_,_⟩:=id hB;have HMS:=Hh hms;clear hB hN hK ht hk hpt hps hbo hms
 go_enter Tryz.func23,Tryz.ntmps23
 go_wp2_with (go_at_call 31;(with_reducible refine (open_nothing_ok (HB.out.below (bel)) HN.out (HK.out.below (bel)) (al:=0) (fun hk W hW=>nothing_any _ _ _ _ _ _) HBA.out rfl HPS.out).mono ?_);rintro e w3 ⟨la,rfl,hrow,hb3⟩;obtain ⟨la,lc,rfl⟩:=ownsRow_slice hrow;have HCM:=Hh (cames_of_row hrow);clear hrow;obtain ⟨hc3,hf3⟩:=bcell hb3;have hz3:=hb3.size;(try simp at hz3));obtain ⟨W0,hW0⟩:∃ W0,W0=w3.alloc (.cells #[.int .i64 b.room,.int .i64 b.gap,.slice ma b.ms.length mc,.slice sa b.ss.length sc,.slice ra b.rs.length rc] 78):=⟨_,rfl⟩;rw [<- hW0];have hb0:Below w.heap.size w W0:=by rw [hW0];(exact bel)
 have q:∀ k u,(#[.int .i64 b.room,.int .i64 b.gap,.slice ma b.ms.length mc,.slice sa b.ss.length sc,.slice ra b.rs.length rc]:Array Value)[k]? = some u->W0.cell? ⟨w3.heap.size,k,none⟩=some u:=fun k u hk=>by rw [hW0,World.cell?_alloc_at _ _ _ _ rfl];exact hk
 have hs0:w3.heap.size < W0.heap.size:=by rw [hW0];simp
 have HCM0:=Hh (HCM.out.below (w':=W0) (by rw [hW0];(exact bel)));have hwl:w.heap.size < w3.heap.size:=by omega
 have HQ:=Hh q;clear hW0 hc3 hf3 hb3 hz3 q;go_loopw [7,26] (fun v i wr=>∃ (k:Nat) (a:Option Addr) (c:Nat),k<=b.ms.length/\i=.int .i64 k/\v=.slice a k c/\wr.ownsRow W0.heap.size 53 1 (.slice a k c) k ((deliveredTo b k).map (Value.int .i64))/\Below W0.heap.size W0 wr) (fun _ i _=>b.ms.length - (intOf i).toNat)
 case atStart=>exact ⟨0,none,0,Nat.zero_le _,rfl,rfl,by simpa [deliveredTo] using World.ownsRow_nil _ _ _ _,Below.refl _ _⟩
 case round =>
  obtain ⟨k,a,c,hk,rfl,rfl,hrow,hW⟩:=hrel;have hWs:=hW.size;obtain ⟨wo,rfl⟩:∃ x,x=wr:=⟨_,rfl⟩;by_cases hlt:k < b.ms.length
  ·have hbw:=Below.next hb0 hW;obtain ⟨mb,mo,rfl,hmb,m0,m1,m2⟩:=HMS.out k hlt;have dm0:=(hbw.cell (p:=⟨mb,mo+k * 3,none⟩) hmb).trans m0;have dm1:=(hbw.cell (p:=⟨mb,mo+k * 3+1,none⟩) hmb).trans m1;have dm2:=(hbw.cell (p:=⟨mb,mo+k * 3+2,none⟩) hmb).trans m2;have hmb2:mb < wo.heap.size:=Nat.lt_of_lt_of_le hmb hbw.size;have hgk:=HGR.out _ (List.getElem_mem hlt);have hek:(b.ms[k]?).elim 0 Msg.groups=b.ms[k].groups:=by rw [List.getElem?_eq_getElem hlt];rfl
   have hds:=deliveredTo_succ b k;have HDS:=Hh hds;generalize b.ms[k]=mk at dm0 dm1 dm2 hgk hek;obtain ⟨gn,gk,gd⟩:=mk;simp only at dm0 dm1 dm2 hgk hek;have HEK:=Hh hek;have HROW:=Hh hrow;have HBW:=Hh hbw;clear m0 m1 m2 hds hek hrow;obtain ⟨n0,n1,n2,n3,n4⟩:_/\_/\_/\_/\_:=⟨(hW.cell (p:=⟨w3.heap.size,0,none⟩) (by simp;omega)).trans (HQ.out 0 _ rfl),(hW.cell (p:=⟨w3.heap.size,1,none⟩) (by simp;omega)).trans (HQ.out 1 _ rfl),(hW.cell (p:=⟨w3.heap.size,2,none⟩) (by simp;omega)).trans (HQ.out 2 _ rfl),(hW.cell (p:=⟨w3.heap.size,3,none⟩) (by simp;omega)).trans (HQ.out 3 _ rfl),(hW.cell (p:=⟨w3.heap.size,4,none⟩) (by simp;omega)).trans (HQ.out 4 _ rfl)⟩;have hs5:w3.heap.size < wo.heap.size:=by omega
   go_wp2;obtain ⟨W1,hW1⟩:∃ W1,W1=wo.alloc (.cells #[.string gn,.int .i64 gk,.int .i64 gd] 48):=⟨_,rfl⟩;rw [<- hW1];have hb1:Below wo.heap.size wo W1:=by rw [hW1];(exact bel)
   have hb1w:Below w.heap.size w W1:=Below.next hbw hb1;have hs1:wo.heap.size < W1.heap.size:=by rw [hW1];simp
   have g1:W1.cell? ⟨wo.heap.size,1,none⟩=some (.int .i64 gk):=by rw [hW1,World.cell?_alloc_at _ _ _ _ rfl];rfl
   have b0:=(hb1.cell (p:=⟨w3.heap.size,0,none⟩) (by simp;omega)).trans n0;have b1:=(hb1.cell (p:=⟨w3.heap.size,1,none⟩) (by simp;omega)).trans n1;have b2:=(hb1.cell (p:=⟨w3.heap.size,2,none⟩) (by simp;omega)).trans n2;have b3:=(hb1.cell (p:=⟨w3.heap.size,3,none⟩) (by simp;omega)).trans n3;have b4:=(hb1.cell (p:=⟨w3.heap.size,4,none⟩) (by simp;omega)).trans n4;have HB1:=Hh (⟨b0,b1,b2,b3,b4,g1⟩:_/\_/\_/\_/\_/\_);have HCM1:=Hh ((HCM0.out.below hW).below hb1);have HB1W:=Hh hb1w;have HBB:=Hh hb1;clear hW1 b0 b1 b2 b3 b4 g1 n0 n1 n2 n3 n4 dm0 dm1 dm2 hb1w hb1 hbw;go_loopw [10,33] (fun v i wr=>∃ j:Nat,j<=(pasts b).length/\i=.int .i64 j/\v=.int .i64 (wholeI b ((pasts b).take j) k)/\Below W1.heap.size W1 wr) (fun _ i _=>(pasts b).length - (intOf i).toNat)
   case atStart=>exact ⟨0,Nat.zero_le _,rfl,by simp [wholeI],Below.refl _ _⟩
   case round =>
    obtain ⟨j,hj,rfl,rfl,hX⟩:=hrel;have hXs:=hX.size;by_cases hjt:j < (pasts b).length
    ·obtain ⟨lb,lo,rfl,hlb,e0,e1,e2,e3⟩:=HCM1.out j hjt;have d0:=(hX.cell hlb).trans e0;have d1:=(hX.cell hlb).trans e1;have d2:=(hX.cell hlb).trans e2;have d3:=(hX.cell hlb).trans e3;have hlb2:lb < wr.heap.size:=Nat.lt_of_lt_of_le hlb hX.size;obtain ⟨hcm,hc4,_⟩:=HPC.out _ (List.getElem_mem hjt);have htk:=List.take_succ_eq_append_getElem hjt;have hwn:=wholeI_snoc b ((pasts b).take j) k (pasts b)[j];rw [<- htk] at hwn;have hwb:=wholeI_bd b ((pasts b).take j) k;have hwl2:((pasts b).take j).length<=1296:=Nat.le_trans (List.length_take_le' _ _) hpl;have hhv:=fun (W':World) (hb:Below w.heap.size w W')=>have_at (HB.out.below hb) HO.out hcm hc4 (m:=(k:Int)) ⟨by omega,by simpa using hlt⟩;have hiw:isWhole b k (pasts b)[j]=decide (haveOf b (pad (pasts b)[j]) (k:Int)=gk):=by unfold isWhole;rw [HEK.out]
     rw [hiw] at hwn;generalize haveOf b (pad (pasts b)[j]) (k:Int)=hv at hhv hwn;obtain ⟨x0,x1,x2,x3,hxp⟩:=four hc4;rw [hxp] at d0 d1 d2 d3 hhv;simp only [List.getD_cons_zero,List.getD_cons_succ] at d0 d1 d2 d3;have hhv2:∀ (W':World),Below w.heap.size w W'->Calls Tryz.prog 69 #[.agg #[.int .i64 b.room,.int .i64 b.gap,.slice (some ⟨mb,mo,none⟩) b.ms.length mc,.slice sa b.ss.length sc,.slice ra b.rs.length rc],.agg #[.int .i64 x0,.int .i64 x1,.int .i64 x2,.int .i64 x3],.int .i64 k] W' fun e w'=>e=.returned (.int .i64 hv)/\Below W'.heap.size W' w':=hhv;have HHV:=Hh hhv2;generalize wholeI b ((pasts b).take j) k=ww at hwn hwb ⊢;have hwr:IntKind.i64.wrap (ww+1)=ww+1:=IntWalk.i64_in _ (by omega);have HWN:=Hh hwn;have HXX:=Hh hX;clear e0 e1 e2 e3 hcm hc4 htk hwn hhv hhv2 hiw hxp hwl2;go_wp2;obtain ⟨W2,hW2⟩:∃ W2,W2=wr.alloc (.cells #[.int .i64 x0,.int .i64 x1,.int .i64 x2,.int .i64 x3] 113):=⟨_,rfl⟩;rw [<- hW2];have hb2:Below wr.heap.size wr W2:=by rw [hW2];(exact bel)
     have hs2:wr.heap.size < W2.heap.size:=by rw [hW2];simp
     have hx2:Below W1.heap.size W1 W2:=Below.next HXX.out hb2;have c:∀ i u,(#[.int .i64 x0,.int .i64 x1,.int .i64 x2,.int .i64 x3]:Array Value)[i]? = some u->W2.cell? ⟨wr.heap.size,i,none⟩=some u:=fun i u hi=>by rw [hW2,World.cell?_alloc_at _ _ _ _ rfl];exact hi
     have hall:∀ w':World,Below W2.heap.size W2 w'->(Below W2.heap.size W2 w'/\w'.cell? ⟨w3.heap.size,0,none⟩=some (.int .i64 b.room)/\w'.cell? ⟨w3.heap.size,1,none⟩=some (.int .i64 b.gap)/\w'.cell? ⟨w3.heap.size,2,none⟩=some (.slice (some ⟨mb,mo,none⟩) b.ms.length mc)/\w'.cell? ⟨w3.heap.size,3,none⟩=some (.slice sa b.ss.length sc)/\w'.cell? ⟨w3.heap.size,4,none⟩=some (.slice ra b.rs.length rc)/\w'.cell? ⟨wo.heap.size,1,none⟩=some (.int .i64 gk)/\w'.cell? ⟨wr.heap.size,0,none⟩=some (.int .i64 x0)/\w'.cell? ⟨wr.heap.size,1,none⟩=some (.int .i64 x1)/\w'.cell? ⟨wr.heap.size,2,none⟩=some (.int .i64 x2)/\w'.cell? ⟨wr.heap.size,3,none⟩=some (.int .i64 x3)):=fun w' h=>by
      have h1:=Below.next hx2 h;obtain ⟨b0,b1,b2,b3,b4,g1⟩:=HB1.out;exact ⟨h,(h1.cell (by simp;omega)).trans b0,(h1.cell (by simp;omega)).trans b1,(h1.cell (by simp;omega)).trans b2,(h1.cell (by simp;omega)).trans b3,(h1.cell (by simp;omega)).trans b4,(h1.cell (by simp;omega)).trans g1,(h.cell (by simp;omega)).trans (c 0 _ rfl),(h.cell (by simp;omega)).trans (c 1 _ rfl),(h.cell (by simp;omega)).trans (c 2 _ rfl),(h.cell (by simp;omega)).trans (c 3 _ rfl)⟩
     have HALL:=Hh hall;have HX2:=Hh (Below.next HB1W.out hx2);have hs6:w3.heap.size < W2.heap.size:=by omega
     have hs7:wo.heap.size < W2.heap.size:=by omega
     clear hW2 c hall;go_region_held3 (fun w'=>Below W2.heap.size W2 w'/\w'.cell? ⟨w3.heap.size,0,none⟩=some (.int .i64 b.room)/\w'.cell? ⟨w3.heap.size,1,none⟩=some (.int .i64 b.gap)/\w'.cell? ⟨w3.heap.size,2,none⟩=some (.slice (some ⟨mb,mo,none⟩) b.ms.length mc)/\w'.cell? ⟨w3.heap.size,3,none⟩=some (.slice sa b.ss.length sc)/\w'.cell? ⟨w3.heap.size,4,none⟩=some (.slice ra b.rs.length rc)/\w'.cell? ⟨wo.heap.size,1,none⟩=some (.int .i64 gk)/\w'.cell? ⟨wr.heap.size,0,none⟩=some (.int .i64 x0)/\w'.cell? ⟨wr.heap.size,1,none⟩=some (.int .i64 x1)/\w'.cell? ⟨wr.heap.size,2,none⟩=some (.int .i64 x2)/\w'.cell? ⟨wr.heap.size,3,none⟩=some (.int .i64 x3))
      ((go_split_ands;exact HALL.out _ (bel)))
      ((go_at_call 69;go_split_ands;(with_reducible refine (HHV.out _ (Below.next HX2.out (by with_reducible assumption))).mono ?_);rintro e w5 ⟨rfl,hb5⟩;obtain ⟨hc5,hf5⟩:=bcell hb5;have hz5:=hb5.size;(try simp at hz5)))
     have hx5:Below W1.heap.size W1 w5:=Below.next hx2 (bel);by_cases hvg:hv=gk
     ·have hd:(hv == gk)=true:=by simpa using hvg
      have hwn:=HWN.out;rw [if_pos (by simpa using hvg)] at hwn;have HWN2:=Hh hwn;subst hvg;clear hwn;go_wp2;go_roundw
      case rel=>exact ⟨j+1,by omega,by go_num,by rw [HWN2.out],hx5⟩
      case measure=>simp [intOf];omega
     ·have hd:(hv == gk)=false:=by simpa using hvg
      have hwn:=HWN.out;rw [if_neg (by simpa using hvg),Int.add_zero] at hwn;have HWN2:=Hh hwn;clear hwn;go_wp2;go_roundw
      case rel=>exact ⟨j+1,by omega,by go_num,by rw [HWN2.out],hx5⟩
      case measure=>simp [intOf];omega
    ·obtain rfl:j=(pasts b).length:=by omega
     rw [List.take_length];have hwb:=wholeI_bd b (pasts b) k;have HXX:=Hh hX;have hds:=HDS.out;generalize hww:wholeI b (pasts b) k=ww at hwb hds ⊢;have HDS2:=Hh hds;have hwo:wo.heap.size<=wr.heap.size:=Nat.le_trans HBB.out.size hX.size;have hrow2:=ownsRow_below HROW.out (Below.next HBB.out hX);have HROW2:=Hh hrow2;clear hds hww hrow2;have hwz:W0.heap.size<=wr.heap.size:=by omega
     go_wp2_with (first
      | (go_at_call 64;(with_reducible refine (say_any _ _ _).mono ?_);rintro e w' ⟨rfl,hw'⟩;have hw2:=hw'.symm;subst hw2)
      | (at_builtin;go_loud (refine wpl_append1 rfl _ _ 60 rfl W0.heap.size 53 Tryz.underlying60 claimInfo rfl (by omega) (.slice a k c) k _ rfl HROW2.out (by omega) (by omega) _ (n:=wr.heap.size) (by simp) rfl (by simp [Value.oneCell']) ?_;intro g cap w6 hown6 hb6)))
     have hown7:w6.ownsRow W0.heap.size 53 1 (.slice (some ⟨g,0,none⟩) (k+1) cap) (k+1) ((deliveredTo b (k+1)).map (Value.int .i64)):=by
      rw [HDS2.out,List.map_append];exact hown6
     have HOWN:=Hh hown7;clear hown6 hown7;go_roundw
     case rel=>exact ⟨k+1,_,_,by omega,by go_num,rfl,HOWN.out,(Below.next hW (Below.next HBB.out HXX.out)).trans hb6⟩
     case measure=>simp [intOf];omega
  ·obtain rfl:k=b.ms.length:=by omega
   have HROW:=Hh hrow;have HW:=Hh hW;clear hrow hW;go_wp2;have hr9:=ints_of_row2 HROW.out;refine bodyPost_ret (v:=.tuple #[.slice a b.ms.length c,.int .i64 0]) (by simp [results,Tryz.results23,go_sem, *]) rfl ⟨a,c,by rw [show (deliveredI b).length=b.ms.length from deliveredTo_length _ _],hr9,Below.next hb0 HW.out⟩
end
end Go.Proofs.YtgagoahfdnnpkaaGreatDoor
namespace Go.Proofs.YtgagoahfdnnpkaaGreatDoor
open Go.RowKit Sp
theorem mem_pasts {b:Bk} {x:List Int}:x∈pasts b↔x.length=b.ss.length/\(∀ i (h:i < x.length),0<=x[i]/\∃ h2:i < b.ss.length,x[i]<=(b.ss[i].length:Int))/\right b x=true:=by
 unfold pasts;rw [mem_pastsFrom];constructor
 ·rintro ⟨suf,rfl,h1,h2,h3⟩;exact ⟨h1,h2,h3⟩
 ·rintro ⟨h1,h2,h3⟩;exact ⟨x,rfl,h1,h2,h3⟩
end Go.Proofs.YtgagoahfdnnpkaaGreatDoor
namespace Go.Proofs.YtgagoahfdnnpkaaGreatDoor
open Go.RowKit Go.Maps Sp
def cmpI:List Int->List Int->Int
 | [],[]=>0
 | [],_::_=>-1
 | _::_,[]=>1
 | a::l,b::m=>if a < b then -1 else if a > b then 1 else cmpI l m
theorem cmp1_at (w:World) (x y:Int) {r:Int} (h:Lib.compareInt x y=r):Calls Tryz.prog 97 #[.int .i64 x,.int .i64 y] w fun e w'=>e=.returned (.int .i64 r)/\w'=w:=by
 rw [<- h];exact Tryz.cmp_Compare_int x y w
section
variable {w:World} {la ma:Option Addr} {lc mc:Nat} {l m:List Int}
theorem compare_at (hL:IntsAt w la l) (hM:IntsAt w ma m) (hl:l.length<=1000000) (hm:m.length<=1000000) {t:Int} (ht:cmpI l m=t) :
 Calls Tryz.prog 71 #[.slice la l.length lc,.slice ma m.length mc] w fun e w'=>e=.returned (.int .i64 t)/\w'=w:=by
 have HT:=Hh ht;have HL:=Hh hL;have HM:=Hh hM;clear ht hL hM
 go_enter Tryz.func71,Tryz.ntmps71
 go_wp2;go_loop [11] (fun i=>∃ (k:Nat),k<=l.length/\k<=m.length/\i=.int .i64 k/\cmpI (l.drop k) (m.drop k)=t) (fun i=>l.length - (intOf i).toNat)
 case atStart=>exact ⟨0,Nat.zero_le _,Nat.zero_le _,rfl,HT.out⟩
 case round =>
  obtain ⟨k,hk,hkm,rfl,hc⟩:=hrel;by_cases hlt:k < l.length
  ·obtain ⟨lb,lo,rfl,hlb,e0⟩:=HL.out k hlt;rw [List.drop_eq_getElem_cons hlt] at hc;by_cases hlm:k < m.length
   ·obtain ⟨mb,mo,rfl,hmb,e1⟩:=HM.out k hlm;rw [List.drop_eq_getElem_cons hlm] at hc;unfold cmpI at hc;generalize l[k]=x at hc e0;generalize m[k]=y at hc e1;by_cases h1:x < y
    ·rw [if_pos h1] at hc;have HC:=Hh hc;have HX:=Hh (show Lib.compareInt x y=-1 by unfold Lib.compareInt;rw [if_pos h1]);clear hc h1;go_wp2_with (go_at_call 97;(with_reducible refine (cmp1_at _ _ _ HX.out).mono ?_);rintro e w' ⟨rfl,rfl⟩);go_ret;exact ⟨by rw [<- HC.out];rfl,rfl⟩
    ·rw [if_neg h1] at hc;by_cases h2:x > y
     ·rw [if_pos h2] at hc;have HC:=Hh hc;have HX:=Hh (show Lib.compareInt x y=1 by unfold Lib.compareInt;rw [if_neg h1,if_pos h2]);clear hc h1 h2;go_wp2_with (go_at_call 97;(with_reducible refine (cmp1_at _ _ _ HX.out).mono ?_);rintro e w' ⟨rfl,rfl⟩);go_ret;exact ⟨by rw [<- HC.out];rfl,rfl⟩
     ·rw [if_neg h2] at hc;have HC:=Hh hc;have HX:=Hh (show Lib.compareInt x y=0 by unfold Lib.compareInt;rw [if_neg h1,if_neg h2]);clear hc h1 h2;go_wp2_with (go_at_call 97;(with_reducible refine (cmp1_at _ _ _ HX.out).mono ?_);rintro e w' ⟨rfl,rfl⟩);go_round
      case rel=>exact ⟨k+1,by omega,by omega,by go_num,HC.out⟩
      case measure=>simp [intOf];omega
   ·have hmk:m.drop k=[]:=List.drop_eq_nil_of_le (by omega);rw [hmk] at hc;unfold cmpI at hc;have HC:=Hh hc;clear hc hmk;go_wp2;go_ret;exact ⟨by rw [<- HC.out];rfl,rfl⟩
  ·obtain rfl:k=l.length:=by omega
   rw [List.drop_length] at hc;by_cases hlm:l.length < m.length
   ·rw [List.drop_eq_getElem_cons hlm] at hc;unfold cmpI at hc;have HC:=Hh hc;clear hc;go_wp2;go_ret;exact ⟨by rw [<- HC.out];rfl,rfl⟩
   ·rw [List.drop_eq_nil_of_le (by omega)] at hc;unfold cmpI at hc;have HC:=Hh hc;clear hc;go_wp2;go_ret;exact ⟨by rw [<- HC.out];rfl,rfl⟩
end
def idxs (mask n:Nat):List Nat:=(List.range n).filter fun i=>mask.testBit i
theorem idxs_succ (mask n:Nat):idxs mask (n+1)=if mask.testBit n then idxs mask n ++ [n] else idxs mask n:=by
 unfold idxs;rw [List.range_succ,List.filter_append];cases h:mask.testBit n <;> simp [h]
theorem idxs_le (mask n:Nat):(idxs mask n).length<=n:=by
 unfold idxs;exact Nat.le_trans (List.length_filter_le _ _) (by simp)
def idxI (mask n:Nat):List Int:=(idxs mask n).map fun (i:Nat)=>(i:Int)
def recsOf (rs:List Rec) (mask n:Nat):List Rec:=(idxs mask n).filterMap fun i=>rs[i]?
theorem idxI_succ (mask n:Nat):idxI mask (n+1)=if mask.testBit n then idxI mask n ++ [(n:Int)] else idxI mask n:=by
 unfold idxI;rw [idxs_succ];split <;> simp
theorem recsOf_succ {rs:List Rec} {mask n:Nat} (h:n < rs.length):recsOf rs mask (n+1)=if mask.testBit n then recsOf rs mask n ++ [rs[n]] else recsOf rs mask n:=by
 unfold recsOf;rw [idxs_succ];split
 ·rw [List.filterMap_append];simp [h]
 ·rfl
theorem idxI_length (mask n:Nat):(idxI mask n).length=(idxs mask n).length:=by simp [idxI]
theorem recsOf_length {rs:List Rec} {mask:Nat}:∀ {n:Nat},n<=rs.length->(recsOf rs mask n).length=(idxs mask n).length
 | 0,_=>rfl
 | n+1,h=>by
  rw [recsOf_succ (by omega),idxs_succ];have:=recsOf_length (rs:=rs) (mask:=mask) (n:=n) (by omega);split
  ·simp [this]
  ·exact this
theorem recsOf_mem {rs:List Rec} {mask n:Nat} {r:Rec} (h:r∈recsOf rs mask n):r∈rs:=by
 obtain ⟨i,_,hi⟩:=List.mem_filterMap.1 h;exact List.mem_of_getElem? hi
def subB (b:Bk) (mask:Nat):Bk:={ b with rs:=recsOf b.rs mask b.rs.length }
def clashStep (b:Bk) (st:Option (List Int)) (mask:Nat):Option (List Int) :=
 if (match st with | none=>false | some y=>decide (y.length < (idxI mask b.rs.length).length) || (decide ((idxI mask b.rs.length).length=y.length) && decide (0<=cmpI (idxI mask b.rs.length) y))) then st
 else if (pasts (subB b mask)).isEmpty then some (idxI mask b.rs.length) else st
def clashI (b:Bk):List Int:=((List.range (2 ^ b.rs.length)).foldl (clashStep b) none).getD []
end Go.Proofs.YtgagoahfdnnpkaaGreatDoor
namespace Go.Proofs.YtgagoahfdnnpkaaGreatDoor
open Go.RowKit Sp
end Go.Proofs.YtgagoahfdnnpkaaGreatDoor
namespace Go.Proofs.YtgagoahfdnnpkaaGreatDoor
open Go.RowKit Go.Maps Sp
theorem hasNum_at {la:Option Addr} {lc n:Nat} {l:List Int} {x:Int} {w:World} {t:Bool} (hL:IntsAt w la l) (hn:n=l.length) (hl:l.length<=1000000) (h:decide (x∈l)=t) :
 Calls Tryz.prog 78 #[.slice la n lc,.int .i64 x] w fun e w'=>e=.returned (.bool t)/\w'=w:=by
 subst hn;have H:=Hh h;clear h;have HP:=Hh hL;clear hL
 go_enter Tryz.func78,Tryz.ntmps78
 go_wp2;go_loop [5] (fun i=>∃ k:Nat,k<=l.length/\i=.int .i64 k/\Hid (x ∉ l.take k)) (fun i=>l.length - (intOf i).toNat)
 case atStart=>exact ⟨0,Nat.zero_le _,rfl,by simp [Hid]⟩
 case round =>
  obtain ⟨k,hk,rfl,hno⟩:=hrel;by_cases hlt:k < l.length
  ·obtain ⟨lb,lo,rfl,hlb,e0⟩:=HP.out k hlt;have htk:=List.take_succ_eq_append_getElem hlt;have hin:l[k]∈l:=List.getElem_mem hlt;generalize l[k]=q at e0 htk hin;have HTK:=Hh htk;have HIN:=Hh hin;clear htk hin;by_cases hq:q=x
   ·subst hq;have ht:t=true:=by rw [<- H.out];simpa using HIN.out
    subst ht;go_wp2;go_ret;exact ⟨rfl,rfl⟩
   ·have hd:(q == x)=false:=by simpa using hq
    have hn2:x ∉ l.take (k+1):=by
     rw [HTK.out];simp only [List.mem_append,List.mem_singleton,not_or];exact ⟨hno.out,fun h=>hq h.symm⟩
    have HN:=Hh hn2;clear hq hn2;go_wp2;go_round
    case rel=>exact ⟨k+1,by omega,by go_num,HN.out⟩
    case measure=>simp [intOf];omega
  ·have ht:t=false:=by
    have:=hno.out;rw [List.take_of_length_le (by omega)] at this;rw [<- H.out];simpa using this
   subst ht;go_wp2;go_ret;exact ⟨rfl,rfl⟩
section
variable {w:World} {la:Option Addr} {lc n:Nat} {l:List Int}
end
end Go.Proofs.YtgagoahfdnnpkaaGreatDoor
namespace Go.Proofs.YtgagoahfdnnpkaaGreatDoor
open Go.RowKit Sp
def Really (b:Bk) (c:List Int):Prop:=c.length=b.ss.length/\∀ i (h:i < c.length),0<=c[i]/\∃ h2:i < b.ss.length,c[i]<=(b.ss[i].length:Int)
theorem Really.at {b:Bk} {c:List Int} (h:Really b c) {a:Int} (h0:0<=a) (h1:a<=(b.ss.length:Int) - 1):∃ s,b.ss[a.toNat]? = some s/\0<=c.getD a.toNat 0/\c.getD a.toNat 0<=(s.length:Int):=by
 have hl:a.toNat < c.length:=by rw [h.1];omega
 obtain ⟨k1,k2,k3⟩:=h.2 _ hl;refine ⟨b.ss[a.toNat],List.getElem?_eq_getElem k2,?_,?_⟩ <;> simp only [List.getD_eq_getElem?_getD,List.getElem?_eq_getElem hl,Option.getD_some] <;> assumption
end Go.Proofs.YtgagoahfdnnpkaaGreatDoor
namespace Go.Proofs.YtgagoahfdnnpkaaGreatDoor
open Go.RowKit Go.Maps Sp
theorem part_at (m g:Int) (w:World):Calls Tryz.prog 30 #[.int .i64 m,.int .i64 g] w fun e w'=>e=.returned (.agg #[.int .i64 m,.int .i64 g])/\Below w.heap.size w w':=by
 go_enter Tryz.func30,Tryz.ntmps30
 go_wp2;exact bodyPost_ret (v:=.agg #[.int .i64 m,.int .i64 g]) (by simp [results,Tryz.results30,go_sem, *]) rfl ⟨rfl,bel⟩
theorem to_at (m g:Int) (w:World):Calls Tryz.prog 26 #[.int .i64 m,.int .i64 g] w fun e w'=>e=.returned (.agg #[.int .i64 m,.int .i64 g])/\Below w.heap.size w w':=by
 go_enter Tryz.func26,Tryz.ntmps26
 go_wp2;exact bodyPost_ret (v:=.agg #[.int .i64 m,.int .i64 g]) (by simp [results,Tryz.results26,go_sem, *]) rfl ⟨rfl,bel⟩
section
variable {w:World} {la ma:Option Addr} {ln mn lc mc:Nat}
theorem sameClaims_at {l m:List Int} (hL:IntsAt w la l) (hM:IntsAt w ma m) (hln:ln=l.length) (hmn:mn=m.length) (hl:l.length<=1000000) (hm:m.length<=1000000) {t:Bool} (ht:decide (l=m)=t) :
 Calls Tryz.prog 28 #[.slice la ln lc,.slice ma mn mc] w fun e w'=>e=.returned (.bool t)/\Below w.heap.size w w':=by
 subst hln hmn;have HL:=Hh hL;have HM:=Hh hM;clear hL hM;by_cases hlen:l.length=m.length
 case neg =>
  have:t=false:=by rw [<- ht];exact decide_eq_false fun e=>hlen (by rw [e])
  subst this;have hne:((l.length:Int) != (m.length:Int))=true:=by simp;omega
  clear ht hlen
  go_enter Tryz.func28,Tryz.ntmps28
  go_wp2;go_ret;exact ⟨rfl,Below.refl _ _⟩
 have HT:=Hh ht;have HLEN:=Hh hlen;have hne:((l.length:Int) != (m.length:Int))=false:=by simp;omega
 clear ht hlen
 go_enter Tryz.func28,Tryz.ntmps28
 go_wp2;go_loopw [5] (fun i wr=>∃ (k:Nat),k<=l.length/\i=.int .i64 k/\Hid (l.take k=m.take k)/\Below w.heap.size w wr) (fun i _=>l.length - (intOf i).toNat)
 case atStart=>exact ⟨0,Nat.zero_le _,rfl,rfl,Below.refl _ _⟩
 case round =>
  obtain ⟨k,hk,rfl,hE,hW⟩:=hrel;by_cases hlt:k < l.length
  ·have hlm:k < m.length:=by have:=HLEN.out;omega
   obtain ⟨lb,lo,rfl,hlb,e0⟩:=HL.out k hlt;have e0:=(hW.cell hlb).trans e0;have hlb2:lb < wr.heap.size:=Nat.lt_of_lt_of_le hlb hW.size;obtain ⟨mb,mo,rfl,hmb,e1⟩:=HM.out k hlm;have e1:=(hW.cell hmb).trans e1;have hmb2:mb < wr.heap.size:=Nat.lt_of_lt_of_le hmb hW.size;have h1:=List.take_succ_eq_append_getElem hlt;have h2:=List.take_succ_eq_append_getElem hlm;have hgl:l[k]? = some l[k]:=List.getElem?_eq_getElem hlt;have hgm:m[k]? = some m[k]:=List.getElem?_eq_getElem hlm;generalize l[k]=x at e0 h1 hgl;generalize m[k]=y at e1 h2 hgm;by_cases hxy:x=y
   ·subst hxy;have HE2:=Hh (show l.take (k+1)=m.take (k+1) by rw [h1,h2,hE.out]);clear h1 h2 hgl hgm;go_wp2;go_quiet (fail);go_wp2;go_roundw
    case rel=>exact ⟨k+1,by omega,by go_num,HE2.out,bel⟩
    case measure=>simp [intOf];omega
   ·have:t=false:=by
     rw [<- HT.out];exact decide_eq_false fun e=>hxy (by rw [e,hgm] at hgl;exact (Option.some.inj hgl).symm)
    subst this;have hb:(x != y)=true:=by simpa using hxy
    clear h1 h2 hgl hgm hxy;go_wp2;go_quiet (fail);go_wp2;go_ret;exact ⟨rfl,bel⟩
  ·obtain rfl:k=l.length:=by omega
   have:t=true:=by
    rw [<- HT.out];have:=hE.out;rw [List.take_length,HLEN.out,List.take_length] at this;exact decide_eq_true this
   subst this;go_wp2;go_ret;exact ⟨rfl,hW⟩
theorem neqPart (a b c d:Int) (w:World):(binOp .neq 75 (.agg #[.int .i64 a,.int .i64 b]) (.agg #[.int .i64 c,.int .i64 d])).run Tryz.prog w=.ok (.bool (!(a == c && b == d))) w:=by
 have u3:=Tryz.underlying3;have hS:Tryz.prog.underlying 75=some (.struct (Tryz.prog.fieldsOf 75)):=by kernel_rfl
 have hp:Tryz.prog.stoodInHeld 75=false:=by kernel_rfl
 rw [run_neq_struct,show (10000:Nat)=9999+1 from rfl,run_equalIn_agg w 9999 75 _ _ hS hp];simp only [Program.fieldsOf,Tryz.underlying75];go_simp;by_cases h1:a=c <;> by_cases h2:b=d <;> simp [h1,h2]
theorem sameParts_at {l m:List Prt} (hL:PartsAt w la l) (hM:PartsAt w ma m) (hln:ln=l.length) (hmn:mn=m.length) (hl:l.length<=1000000) (hm:m.length<=1000000) {t:Bool} (ht:decide (l=m)=t) :
 Calls Tryz.prog 29 #[.slice la ln lc,.slice ma mn mc] w fun e w'=>e=.returned (.bool t)/\Below w.heap.size w w':=by
 subst hln hmn;have HL:=Hh hL;have HM:=Hh hM;clear hL hM;by_cases hlen:l.length=m.length
 case neg =>
  have:t=false:=by rw [<- ht];exact decide_eq_false fun e=>hlen (by rw [e])
  subst this;have hne:((l.length:Int) != (m.length:Int))=true:=by simp;omega
  clear ht hlen
  go_enter Tryz.func29,Tryz.ntmps29
  go_wp2;go_ret;exact ⟨rfl,Below.refl _ _⟩
 have HT:=Hh ht;have HLEN:=Hh hlen;have hne:((l.length:Int) != (m.length:Int))=false:=by simp;omega
 clear ht hlen
 go_enter Tryz.func29,Tryz.ntmps29
 go_wp2;go_loopw [5] (fun i wr=>∃ (k:Nat),k<=l.length/\i=.int .i64 k/\Hid (l.take k=m.take k)/\Below w.heap.size w wr) (fun i _=>l.length - (intOf i).toNat)
 case atStart=>exact ⟨0,Nat.zero_le _,rfl,rfl,Below.refl _ _⟩
 case round =>
  obtain ⟨k,hk,rfl,hE,hW⟩:=hrel;by_cases hlt:k < l.length
  ·have hlm:k < m.length:=by have:=HLEN.out;omega
   obtain ⟨lb,lo,rfl,hlb,e0,f0⟩:=HL.out k hlt;have e0:=(hW.cell hlb).trans e0;have f0:=(hW.cell hlb).trans f0;have hlb2:lb < wr.heap.size:=Nat.lt_of_lt_of_le hlb hW.size;obtain ⟨mb,mo,rfl,hmb,e1,f1⟩:=HM.out k hlm;have e1:=(hW.cell hmb).trans e1;have f1:=(hW.cell hmb).trans f1;have hmb2:mb < wr.heap.size:=Nat.lt_of_lt_of_le hmb hW.size;have h1:=List.take_succ_eq_append_getElem hlt;have h2:=List.take_succ_eq_append_getElem hlm;have hgl:l[k]? = some l[k]:=List.getElem?_eq_getElem hlt;have hgm:m[k]? = some m[k]:=List.getElem?_eq_getElem hlm;generalize l[k]=x at e0 f0 h1 hgl;generalize m[k]=y at e1 f1 h2 hgm;obtain ⟨x1,x2⟩:=x;obtain ⟨y1,y2⟩:=y;simp only at e0 f0 e1 f1;by_cases hxy:x1=y1/\x2=y2
   ·obtain ⟨rfl,rfl⟩:=hxy;have HE2:=Hh (show l.take (k+1)=m.take (k+1) by rw [h1,h2,hE.out]);have heq:=fun w=>(neqPart x1 x2 x1 x2 w).trans (by simp:_=Result.ok (Value.bool false) w);clear h1 h2 hgl hgm;go_wp2;go_quiet (fail);go_wp2;go_roundw
    case rel=>exact ⟨k+1,by omega,by go_num,HE2.out,bel⟩
    case measure=>simp [intOf];omega
   ·have:t=false:=by
     rw [<- HT.out];refine decide_eq_false fun e=>hxy ?_;rw [e,hgm] at hgl;have:=Option.some.inj hgl;simp only [Prod.mk.injEq] at this;exact ⟨this.1.symm,this.2.symm⟩
    subst this;have heq:=fun w=>(neqPart x1 x2 y1 y2 w).trans (by
     have:(x1 == y1 && x2 == y2)=false:=by simpa using hxy
     rw [this];rfl:_=Result.ok (Value.bool true) w)
    clear h1 h2 hgl hgm hxy;go_wp2;go_quiet (fail);go_wp2;go_ret;exact ⟨rfl,bel⟩
  ·obtain rfl:k=l.length:=by omega
   have:t=true:=by
    rw [<- HT.out];have:=hE.out;rw [List.take_length,HLEN.out,List.take_length] at this;exact decide_eq_true this
   subst this;go_wp2;go_ret;exact ⟨rfl,hW⟩
end
namespace Sp
def exB:Bk:=⟨3,5,[⟨⟨#[97,110,110]⟩,2,30⟩,⟨⟨#[98,101,97]⟩,3,20⟩],[[(0,0),(0,1),(1,0)],[(1,0),(1,1),(1,2)]],[⟨1,0,0,0⟩,⟨2,1,0,1⟩,⟨5,1,0,2⟩]⟩
end Sp
theorem example_at (w:World):Calls Tryz.prog 18 #[] w fun e w'=>∃ vr vg vm vs ra,e=.returned (.agg #[vr,vg,vm,vs,.slice ra 3 3])/\BookAt w' exB vr vg vm vs (.slice ra 3 3)/\Below w.heap.size w w':=by
 go_enter Tryz.func18,Tryz.ntmps18
 go_wp2_with (first
  | (go_at_call 30;(with_reducible refine (part_at 0 0 _).mono ?_);rintro e w1 ⟨rfl,hb1⟩;obtain ⟨hc1,hf1⟩:=bcell hb1;have hz1:=hb1.size;(try simp at hz1);have hy1:w.heap.size+1 < w1.heap.size:=by omega)
  | (go_at_call 30;(with_reducible refine (part_at 0 1 _).mono ?_);rintro e w2 ⟨rfl,hb2⟩;obtain ⟨hc2,hf2⟩:=bcell hb2;have hz2:=hb2.size;(try simp at hz2);have hy2:w.heap.size+1 < w2.heap.size:=by omega)
  | (have hx:=hb3;go_at_call 30;(with_reducible refine (part_at 1 0 _).mono ?_);rintro e w4 ⟨rfl,hb4⟩;obtain ⟨hc4,hf4⟩:=bcell hb4;have hz4:=hb4.size;(try simp at hz4);have hy4:w.heap.size+1 < w4.heap.size:=by omega)
  | (go_at_call 30;(with_reducible refine (part_at 1 0 _).mono ?_);rintro e w3 ⟨rfl,hb3⟩;obtain ⟨hc3,hf3⟩:=bcell hb3;have hz3:=hb3.size;(try simp at hz3);have hy3:w.heap.size+1 < w3.heap.size:=by omega)
  | (go_at_call 30;(with_reducible refine (part_at 1 1 _).mono ?_);rintro e w5 ⟨rfl,hb5⟩;obtain ⟨hc5,hf5⟩:=bcell hb5;have hz5:=hb5.size;(try simp at hz5);have hy5:w.heap.size+1 < w5.heap.size:=by omega))
 refine (part_at 1 2 _).mono ?_;rintro e w6 ⟨rfl,hb6⟩;obtain ⟨hc6,hf6⟩:=bcell hb6;have hz6:=hb6.size;have hx6:w.heap.size < w6.heap.size:=by omega
 have hx7:w.heap.size < w6.heap.size+1:=by omega
 have hx8:w.heap.size < w6.heap.size+1+1:=by omega
 have zz:∀ k u,(#[.int .i64 0,.int .i64 0,.slice none 0 0,.slice none 0 0,.slice none 0 0]:Array Value)[k]? = some u->w6.cell? ⟨w.heap.size,k,none⟩=some u:=fun k u hk=>by
  rw [hc6 _ _ (by omega),hc5 _ _ (by omega),hc4 _ _ (by simp;omega),World.cell?_alloc_past _ _ _ (by omega),hc3 _ _ (by omega),hc2 _ _ (by omega),hc1 _ _ (by simp;omega),World.cell?_alloc_past _ _ _ (by simp),World.cell?_alloc_at _ _ _ _ rfl];exact hk
 have zf:∀ k,w6.frozen? ⟨w.heap.size,k,none⟩=false:=fun k=>by
  rw [hf6 _ _ (by omega),hf5 _ _ (by omega),hf4 _ _ (by simp;omega),World.frozen?_alloc_past _ _ _ (by omega),hf3 _ _ (by omega),hf2 _ _ (by omega),hf1 _ _ (by simp;omega),World.frozen?_alloc_past _ _ _ (by simp),World.frozen?_alloc_at _ _ _ _ rfl]
 have z0:=zz 0 _ rfl;have z1:=zz 1 _ rfl;have z2:=zz 2 _ rfl;have z3:=zz 3 _ rfl;have z4:=zz 4 _ rfl;have A1:∀ k u,(#[.string ⟨#[97,110,110]⟩,.int .i64 2,.int .i64 30,.string ⟨#[98,101,97]⟩,.int .i64 3,.int .i64 20]:Array Value)[k]? = some u->w6.cell? ⟨w.heap.size+1,k,none⟩=some u:=fun k u hk=>by
  rw [hc6 _ _ (by omega),hc5 _ _ (by omega),hc4 _ _ (by simp;omega),World.cell?_alloc_past _ _ _ (by omega),hc3 _ _ (by omega),hc2 _ _ (by omega),hc1 _ _ (by simp),World.cell?_alloc_at _ _ _ _ (by simp)];exact hk
 have A2:∀ k u,(#[.int .i64 0,.int .i64 0,.int .i64 0,.int .i64 1,.int .i64 1,.int .i64 0]:Array Value)[k]? = some u->w6.cell? ⟨w3.heap.size,k,none⟩=some u:=fun k u hk=>by
  rw [hc6 _ _ (by omega),hc5 _ _ (by omega),hc4 _ _ (by simp),World.cell?_alloc_at _ _ _ _ rfl];exact hk
 have HA:=Hh (⟨A1,A2⟩:_/\_);have HBW:=Hh (show Below w.heap.size w w6 from bel);clear hc1 hc2 hc3 hc4 hc5 hc6 hf1 hf2 hf3 hf4 hf5 hf6 hb1 hb2 hb3 hb4 hb5 hb6 hx zz A1 A2;go_wp2;obtain ⟨Y,hY⟩:∃ Y,Y=((((w6.setCell ⟨w.heap.size,0,none⟩ (.int .i64 3)).setCell ⟨w.heap.size,1,none⟩ (.int .i64 5)).setCell ⟨w.heap.size,2,none⟩ (.slice (some ⟨w.heap.size+1,0,none⟩) 2 2)).setCell ⟨w.heap.size,3,none⟩ (.slice (some ⟨w6.heap.size+1,0,none⟩) 2 2)).setCell ⟨w.heap.size,4,none⟩ (.slice (some ⟨w6.heap.size+1+1,0,none⟩) 3 3):=⟨_,rfl⟩;rw [<- hY];have hk:KS (fun k=>k≠w.heap.size) w6 Y:=by
  rw [hY];exact (((((KS.setCell (by simp) _ _).trans (KS.setCell (by simp) _ _)).trans (KS.setCell (by simp) _ _)).trans (KS.setCell (by simp) _ _)).trans (KS.setCell (by simp) _ _))
 have hYs:Y.heap.size=w6.heap.size:=by rw [hY];simp [World.setCell]
 have y0:Y.cell? ⟨w.heap.size,0,none⟩=some (.int .i64 3):=by rw [hY];simp [z0,z1,z2,z3,z4,go_sem]
 have y1:Y.cell? ⟨w.heap.size,1,none⟩=some (.int .i64 5):=by rw [hY];simp [z0,z1,z2,z3,z4,go_sem]
 have y2:Y.cell? ⟨w.heap.size,2,none⟩=some (.slice (some ⟨w.heap.size+1,0,none⟩) 2 2):=by rw [hY];simp [z0,z1,z2,z3,z4,go_sem]
 have y3:Y.cell? ⟨w.heap.size,3,none⟩=some (.slice (some ⟨w6.heap.size+1,0,none⟩) 2 2):=by rw [hY];simp [z0,z1,z2,z3,z4,go_sem]
 have y4:Y.cell? ⟨w.heap.size,4,none⟩=some (.slice (some ⟨w6.heap.size+1+1,0,none⟩) 3 3):=by rw [hY];simp [z0,z1,z2,z3,z4,go_sem]
 have YA:∀ k u,(#[.string ⟨#[97,110,110]⟩,.int .i64 2,.int .i64 30,.string ⟨#[98,101,97]⟩,.int .i64 3,.int .i64 20]:Array Value)[k]? = some u->Y.cell? ⟨w.heap.size+1,k,none⟩=some u:=fun k u h=>(hk.cell (x:=⟨w.heap.size+1,k,none⟩) (by simp;omega) (by simp)).trans (HA.out.1 k u h);have YB:∀ k u,(#[.int .i64 0,.int .i64 0,.int .i64 0,.int .i64 1,.int .i64 1,.int .i64 0]:Array Value)[k]? = some u->Y.cell? ⟨w3.heap.size,k,none⟩=some u:=fun k u h=>(hk.cell (x:=⟨w3.heap.size,k,none⟩) (by simp;omega) (by simp;omega)).trans (HA.out.2 k u h);have hbY:Below w.heap.size w Y:=HBW.out.trans ((hk.mono fun k _ h=>by omega:KS (fun k=>k < w.heap.size) w6 Y).to_below (by omega));clear hY z0 z1 z2 z3 z4 zf;obtain ⟨W,hW⟩:∃ W,W=(((Y.alloc (.cells #[.int .i64 1,.int .i64 0,.int .i64 1,.int .i64 1,.int .i64 1,.int .i64 2] 75)).alloc (.cells #[.slice (some ⟨w3.heap.size,0,none⟩) 3 3,.slice (some ⟨w6.heap.size,0,none⟩) 3 3] 40)).alloc (.cells #[.int .i64 1,.int .i64 0,.int .i64 0,.int .i64 0,.int .i64 2,.int .i64 1,.int .i64 0,.int .i64 1,.int .i64 5,.int .i64 1,.int .i64 0,.int .i64 2] 70)):=⟨_,rfl⟩;rw [<- hW];have hbW:Below w.heap.size w W:=by rw [hW];exact Below.al (Below.al (Below.al hbY _) _) _
 have old:∀ b o,b < Y.heap.size->W.cell? ⟨b,o,none⟩=Y.cell? ⟨b,o,none⟩:=fun b o h=>by rw [hW,World.cell?_alloc_past _ _ _ (by simp;omega),World.cell?_alloc_past _ _ _ (by simp;omega),World.cell?_alloc_past _ _ _ h]
 have WC:∀ k u,(#[.int .i64 1,.int .i64 0,.int .i64 1,.int .i64 1,.int .i64 1,.int .i64 2]:Array Value)[k]? = some u->W.cell? ⟨w6.heap.size,k,none⟩=some u:=fun k u h=>by
  rw [hW,World.cell?_alloc_past _ _ _ (by simp;omega),World.cell?_alloc_past _ _ _ (by simp;omega),World.cell?_alloc_at _ _ _ _ hYs.symm];exact h
 have WD:∀ k u,(#[.slice (some ⟨w3.heap.size,0,none⟩) 3 3,.slice (some ⟨w6.heap.size,0,none⟩) 3 3]:Array Value)[k]? = some u->W.cell? ⟨w6.heap.size+1,k,none⟩=some u:=fun k u h=>by
  rw [hW,World.cell?_alloc_past _ _ _ (by simp;omega),World.cell?_alloc_at _ _ _ _ (by simp;omega)];exact h
 have WE:∀ k u,(#[.int .i64 1,.int .i64 0,.int .i64 0,.int .i64 0,.int .i64 2,.int .i64 1,.int .i64 0,.int .i64 1,.int .i64 5,.int .i64 1,.int .i64 0,.int .i64 2]:Array Value)[k]? = some u->W.cell? ⟨w6.heap.size+1+1,k,none⟩=some u:=fun k u h=>by
  rw [hW,World.cell?_alloc_at _ _ _ _ (by simp;omega)];exact h
 have hWs:W.heap.size=w6.heap.size+1+1+1:=by rw [hW];simp;omega
 have x0:=(old w.heap.size 0 (by omega)).trans y0;have x1:=(old w.heap.size 1 (by omega)).trans y1;have x2:=(old w.heap.size 2 (by omega)).trans y2;have x3:=(old w.heap.size 3 (by omega)).trans y3;have x4:=(old w.heap.size 4 (by omega)).trans y4;refine bodyPost_ret (v:=.agg #[.int .i64 3,.int .i64 5,.slice (some ⟨w.heap.size+1,0,none⟩) 2 2,.slice (some ⟨w6.heap.size+1,0,none⟩) 2 2,.slice (some ⟨w6.heap.size+1+1,0,none⟩) 3 3]) (by simp [results,Tryz.results18,go_sem,x0,x1,x2,x3,x4]) rfl ⟨_,_,_,_,_,rfl,?_,hbW⟩;have p1:PartsAt W (some ⟨w3.heap.size,0,none⟩) [(0,0),(0,1),(1,0)]:=fun i hi=>by
  refine ⟨w3.heap.size,0,rfl,by omega,?_⟩;have:i=0\/i=1\/i=2:=by simp at hi;omega
  rcases this with rfl | rfl | rfl
  ·exact ⟨(old _ _ (by omega)).trans (YB 0 _ rfl),(old _ _ (by omega)).trans (YB 1 _ rfl)⟩
  ·exact ⟨(old _ _ (by omega)).trans (YB 2 _ rfl),(old _ _ (by omega)).trans (YB 3 _ rfl)⟩
  ·exact ⟨(old _ _ (by omega)).trans (YB 4 _ rfl),(old _ _ (by omega)).trans (YB 5 _ rfl)⟩
 have p2:PartsAt W (some ⟨w6.heap.size,0,none⟩) [(1,0),(1,1),(1,2)]:=fun i hi=>by
  refine ⟨w6.heap.size,0,rfl,by omega,?_⟩;have:i=0\/i=1\/i=2:=by simp at hi;omega
  rcases this with rfl | rfl | rfl
  ·exact ⟨WC 0 _ rfl,WC 1 _ rfl⟩
  ·exact ⟨WC 2 _ rfl,WC 3 _ rfl⟩
  ·exact ⟨WC 4 _ rfl,WC 5 _ rfl⟩
 refine ⟨rfl,rfl,⟨_,2,rfl,fun i hi=>?_,by decide⟩,⟨_,2,rfl,fun i hi=>?_,by decide⟩,_,3,rfl,fun i hi=>?_,by decide⟩
 ·refine ⟨w.heap.size+1,0,rfl,by omega,?_⟩;have:i=0\/i=1:=by have:i < 2:=hi;omega
  rcases this with rfl | rfl
  ·exact ⟨(old _ _ (by omega)).trans (YA 0 _ rfl),(old _ _ (by omega)).trans (YA 1 _ rfl),(old _ _ (by omega)).trans (YA 2 _ rfl)⟩
  ·exact ⟨(old _ _ (by omega)).trans (YA 3 _ rfl),(old _ _ (by omega)).trans (YA 4 _ rfl),(old _ _ (by omega)).trans (YA 5 _ rfl)⟩
 ·refine ⟨w6.heap.size+1,0,rfl,by omega,?_⟩;have:i=0\/i=1:=by have:i < 2:=hi;omega
  rcases this with rfl | rfl
  ·exact ⟨_,3,WD 0 _ rfl,(show 3<=3 from Nat.le_refl _),(show 3<=1000000 by omega),p1⟩
  ·exact ⟨_,3,WD 1 _ rfl,(show 3<=3 from Nat.le_refl _),(show 3<=1000000 by omega),p2⟩
 ·refine ⟨w6.heap.size+1+1,0,rfl,by omega,?_⟩;have:i=0\/i=1\/i=2:=by have:i < 3:=hi;omega
  rcases this with rfl | rfl | rfl
  ·exact ⟨WE 0 _ rfl,WE 1 _ rfl,WE 2 _ rfl,WE 3 _ rfl⟩
  ·exact ⟨WE 4 _ rfl,WE 5 _ rfl,WE 6 _ rfl,WE 7 _ rfl⟩
  ·exact ⟨WE 8 _ rfl,WE 9 _ rfl,WE 10 _ rfl,WE 11 _ rfl⟩
end Go.Proofs.YtgagoahfdnnpkaaGreatDoor
