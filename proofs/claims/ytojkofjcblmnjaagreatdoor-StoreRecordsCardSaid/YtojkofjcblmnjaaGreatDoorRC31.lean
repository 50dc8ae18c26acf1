/- StoreRecords -/
import Derived.Test.YtojkofjcblmnjaaGreatDoorRC30
set_option maxHeartbeats 16000000
set_option maxRecDepth 100000
set_option linter.all false
namespace Go.Proofs.YtojkofjcblmnjaaGreatDoor
section
open Go.RowKit Go.Maps Sp
theorem lits_row {w:World} {base n:Nat} {e:TypeId} {x:Value} (hn:n=w.heap.size) (hb:base<=n):(w.alloc (.cells #[x] e)).ownsRow base e 1 (.slice (some ⟨n,0,none⟩) 1 1) 1 [x]:=by
 subst hn;exact World.ownsRow_lit w #[x] 1 hb (by decide) (by simp)
theorem choices_at:∀ (n:Nat) (l:List Int) (w:World) (la:Option Addr) (lc:Nat),l.length=n->n<=5->IntsAt w la l->l.length<=lc ->
 Calls Tryz.prog 37 #[.slice la l.length lc] w (PastsOut w (choicesI l)):=by
 obtain ⟨i1,hi1,hy0,hy1,hy2⟩:=info_parts listInfo;intro n
 induction n using Nat.strongRecOn with
 | _ n ih =>
 intro l w la lc hln h5 hL hlc;have HL:=Hh hL;clear hL;by_cases h0:l.length=0
 ·have hl0:l=[]:=List.eq_nil_of_length_eq_zero h0;subst hl0;have hz:(((([]:List Int).length:Nat):Int) == 0)=true:=rfl;clear ih HL
  go_enter Tryz.func37,Tryz.ntmps37
  go_wp2;go_ret;exact ⟨some ⟨w.heap.size,0,none⟩,1,[.slice none 0 0],rfl,lits_row rfl (Nat.le_refl _),ListsV.single (IntsV.nil _),bel⟩
 have hz:((l.length:Int) == 0)=false:=by rw [beq_eq_false_iff_ne];omega
 have HIN:=Hh (fun (i:Nat) (hi:i < l.length) (W:World) (a:Option Addr) (c:Nat) (hI:IntsAt W a (l.drop (i+1))) (hc:l.length - (i+1)<=c)=>(by have h:=ih (l.length - (i+1)) (by omega) (l.drop (i+1)) W a c (by rw [List.length_drop]) (by omega) hI (by rw [List.length_drop];exact hc);rw [List.length_drop] at h;exact h:Calls Tryz.prog 37 #[.slice a (l.length - (i+1)) c] W (PastsOut W (choicesI (l.drop (i+1))))));have h5:l.length<=5:=by omega
 clear ih hln
 go_enter Tryz.func37,Tryz.ntmps37
 go_wp2;have hb0:Below w.heap.size w (w.alloc (.cells #[.slice none 0 0] 35)):=bel;have hr0:(w.alloc (.cells #[.slice none 0 0] 35)).ownsRow w.heap.size 35 1 (.slice (some ⟨w.heap.size,0,none⟩) 1 1) 1 [.slice none 0 0]:=lits_row rfl (Nat.le_refl _);have hl0:ListsV (w.alloc (.cells #[.slice none 0 0] 35)) [.slice none 0 0] (preC l 0):=ListsV.single (IntsV.nil _);generalize w.alloc (.cells #[.slice none 0 0] 35)=W0 at hb0 hr0 hl0 ⊢;go_loopw [3,4] (fun v t wr=>∃ (i:Nat) (a:Option Addr) (c:Nat) (vs:List Value),i<=l.length/\t=.int .i64 i/\v=.slice a (preC l i).length c/\wr.ownsRow w.heap.size 35 1 (.slice a (preC l i).length c) (preC l i).length vs/\ListsV wr vs (preC l i)/\Below w.heap.size w wr) (fun _ t _=>l.length - (intOf t).toNat)
 case atStart=>exact ⟨0,some ⟨w.heap.size,0,none⟩,1,[.slice none 0 0],Nat.zero_le _,rfl,rfl,hr0,hl0,hb0⟩
 case round =>
  obtain ⟨i,a,c,vs,hi,rfl,rfl,hrow,hlv,hW⟩:=hrel;have HROW:=Hh hrow;have HLV:=Hh hlv;have HW:=Hh hW;have hp32:=preC_len l h5 hi;by_cases hlt:i < l.length
  ·have hIr:=(HL.out).below hW;obtain ⟨lb,lo,rfl,hlb,e0⟩:=hIr i hlt;have hDR:IntsAt wr (some ⟨lb,lo+(i+1),none⟩) (l.drop (i+1)):=fun j hj=>by
    obtain ⟨b',o',e',hb',h1⟩:=hIr (i+1+j) (by rw [List.length_drop] at hj;omega);cases e';exact ⟨lb,lo+(i+1),rfl,hb',by rw [List.getElem_drop];rw [Nat.add_assoc];exact h1⟩
   clear hrow hlv hW hIr;have HDR:=Hh hDR;clear hDR;obtain ⟨_,_,eq0,hlb0,HX0'⟩:=HL.out i hlt;cases eq0;have HX0:=Hh HX0';clear HX0';by_cases hcap:lc=i+1
   case' pos =>
    have hde:l.drop (i+1)=[]:=List.drop_eq_nil_of_le (by omega);have hcA:=HIN.out i hlt wr (some ⟨lb,lo,none⟩) 0 (by rw [hde];exact fun j hj=>absurd hj (Nat.not_lt_zero _)) (by omega);have HCA:=Hh hcA;have hcz:lc - (i+1)=0:=by omega
    have hcz2:i+1<=lc:=by omega
    clear hde hcA hcap;go_wp2_with (go_at_call 37;(with_reducible refine (HCA.out).mono ?_);rintro e w5 ⟨ra,rcp,rvs,rfl,hrow5,hl5,hb5⟩)
   case' neg =>
    have hcA:=HIN.out i hlt wr (some ⟨lb,lo+(i+1),none⟩) (lc - (i+1)) HDR.out (by omega);have HCA:=Hh hcA;clear hcA;go_wp2_with (go_at_call 37;(with_reducible refine (HCA.out).mono ?_);rintro e w5 ⟨ra,rcp,rvs,rfl,hrow5,hl5,hb5⟩)
   all_goals
    have hb6:=Below.next HW.out hb5;have hwr5:=hb5.size;have HROW5:=Hh (ownsRow_below HROW.out hb5);have HLV5:=Hh (HLV.out.below hb5);have HAP:=Hh (show ∀ g,(Value.slice a (preC l i).length c).ownBlock=some g->(Value.slice ra (choicesI (l.drop (i+1))).length rcp).ownBlock≠some g from fun g h1 h2=>by have:=(ownBlock_row HROW.out g h1).2;have:=(ownBlock_row hrow5 g h2).1;omega);have HR5:=Hh hrow5;have HL5:=Hh hl5;have e0:=(hb5.cell (p:=⟨lb,lo+i,none⟩) hlb).trans e0;have hcl:(choicesI (l.drop (i+1))).length<=32:=by rw [choices_len,List.length_drop];exact Nat.pow_le_pow_right (by decide) (by omega:l.length - (i+1)<=5)
    have HPS:=Hh (show preC l (i+1)=preC l i ++ (choicesI (l.drop (i+1))).map (l[i]::·) by rw [preC,List.getD_eq_getElem?_getD,List.getElem?_eq_getElem hlt,Option.getD_some]);have HCB:=Hh (show ∀ y∈choicesI (l.drop (i+1)),y.length<=5 from fun y hy=>Nat.le_trans (mem_choices.1 hy).length_le (by rw [List.length_drop];omega));have hbase:w.heap.size<=wr.heap.size:=HW.out.size;clear hb5 hrow5 hl5;generalize choicesI (l.drop (i+1))=cs at HR5 HL5 hcl HPS HCB HAP;generalize l[i]=x at e0 HPS HX0;generalize preC l i=pc at HROW5 HLV5 hp32 HPS HAP;have HB6:=Hh hb6;generalize hB5:wr.heap.size=B5 at HR5 hbase;clear hb6 hB5 hwr5 hlb HROW HLV HW e0;go_loopw [3,6] (fun v t wr=>∃ (k:Nat) (a:Option Addr) (c:Nat) (us:List Value),k<=cs.length/\t=.int .i64 k/\v=.slice a (pc.length+k) c/\wr.ownsRow w.heap.size 35 1 (.slice a (pc.length+k) c) (pc.length+k) us/\ListsV wr us (pc ++ (cs.take k).map (x::·))/\Below w.heap.size w wr/\wr.ownsRow B5 35 1 (.slice ra cs.length rcp) cs.length rvs/\ListsV wr rvs cs/\(∀ g,(Value.slice a (pc.length+k) c).ownBlock=some g->(Value.slice ra cs.length rcp).ownBlock≠some g)) (fun _ t _=>cs.length - (intOf t).toNat)
    case atStart=>exact ⟨0,a,c,vs,Nat.zero_le _,rfl,rfl,HROW5.out,by simpa using HLV5.out,HB6.out,HR5.out,HL5.out,HAP.out⟩
    case round =>
     obtain ⟨k,a2,c2,us,hk,rfl,rfl,hrow,hlv,hV,hrra,hlra,hap⟩:=hrel;have hVs:=hV.size;by_cases hlt2:k < cs.length
     ·have hrv:k < rvs.length:=by rw [hlra.1];exact hlt2
      obtain ⟨g5,hra,_,hg5q,hck⟩:=row_cell hrra k hrv;rw [List.getElem?_eq_getElem hrv] at hck;have hiv:=hlra.2 k rvs[k] cs[k] (List.getElem?_eq_getElem hrv) (List.getElem?_eq_getElem hlt2);obtain ⟨va,vcp,hve,hVI,hvz,hvle⟩:=hiv.form;have HLT:=Hh (show ∀ ad,va=some ad->ad.block < wr.heap.size from fun ad e=>(ownBlock_row hiv ad.block (by rw [hve,e];rfl)).2);rw [hve] at hck;have HRA:=Hh hrra;have HLA:=Hh hlra;have HAP2:=Hh hap;subst hra;have HSRC:=Hh (ints_src hVI hvz);have hy5:=HCB.out cs[k] (List.getElem_mem hlt2);have HTK:=Hh (List.take_succ_eq_append_getElem hlt2);have hkc:(k:Int) < (cs.length:Int):=by omega
      have hil:(i:Int) < (l.length:Int):=by omega
      have e0:=(hV.cell (p:=⟨lb,lo+i,none⟩) hlb0).trans HX0.out;have hlbq:lb < wr.heap.size:=Nat.lt_of_lt_of_le hlb0 hVs;generalize cs[k]=y at hck HSRC hy5 HTK hVI hvle;have HONE:=Hh (show ∀ u∈y.map (Value.int .i64),u.oneCell'=true from fun u hu=>by obtain ⟨z,_,rfl⟩:=List.mem_map.1 hu;rfl);have HRW:=Hh hrow;have HLW:=Hh hlv;have HV:=Hh hV;clear hrow hlv hiv hve hVI hvz hvle hV hrra hlra hap;go_wp2
      go_region_law (first
       | (refine step_appW wr rfl _ _ 35 rfl 3 Tryz.underlying35 intInfo rfl (by omega) (.slice (some ⟨wr.heap.size,0,none⟩) 1 1) 1 [.int .i64 x] rfl va y.length vcp (y.map (Value.int .i64)) rfl (by simp) HONE.out (1+y.length) rfl (by omega) ?_ ?_ ?_ ?_;(focus ((exact bel)));exact lits_row rfl (Nat.le_refl _);exact HSRC.out.ks (KS.all (show Below wr.heap.size wr _ from bel) (fun _=>True)) (fun ad e=>⟨HLT.out ad e,trivial⟩);intro a3 c3 w7 hown3 hks3 hbw3;have hs7:=hbw3.size)
       | (refine step_append_lies (w:=_) rfl _ _ 84 rfl w.heap.size 35 i1 (.slice none 0 0) 1 24 Tryz.underlying84 hi1 hy0 hy1 hy2 rfl (by decide) (.slice a2 (pc.length+k) c2) (pc.length+k) us rfl ((ownsRow_below HRW.out hbw3).alloc _) ⟨w7.heap.size,0,none⟩ 1 1 [.slice a3 (1+y.length) c3] rfl rfl (cells_new' _ _ _ rfl) (by simp [Value.oneCell']) (by decide) (by unfold maxLen;omega) (by omega) (by simp;omega) _ rfl ?_;intro g8 c6 w8 hown8 hgrow8 hat8 hglt8))
      all_goals
       have hra7:=(ownsRow_below HRW.out hbw3).alloc (.cells #[.slice a3 (1+y.length) c3] 35);have hks8:KS (fun i=>(Value.slice a2 (pc.length+k) c2).ownBlock≠some i) _ w8:=KS.own hgrow8 (fun g hg=>by simp [hg]);have hl8:=((HLW.out.below (Below.al hbw3 (.cells #[.slice a3 (1+y.length) c3] 35))).append (ListsV.single ((IntsV.of (l:=x::y) (by simpa using hown3)).below (bal w7 (.cells #[.slice a3 (1+y.length) c3] 35))))).keep hra7 (by decide) hks8;have hb8:Below w.heap.size w w8:=(Below.next HV.out (Below.al hbw3 _)).trans (below_own hra7 hgrow8 (by simp;omega));have hr8:=row_keep' ((ownsRow_below HRA.out hbw3).alloc (.cells #[.slice a3 (1+y.length) c3] 35)) hks8 (fun g hg h2=>HAP2.out g h2 hg);have hlr8:=(HLA.out.below (Below.al hbw3 (.cells #[.slice a3 (1+y.length) c3] 35))).keep hra7 (by decide) hks8;have hap8:∀ g,(Value.slice (some ⟨g8,0,none⟩) (pc.length+k+1) c6).ownBlock=some g->(Value.slice (some ⟨g5,0,none⟩) cs.length rcp).ownBlock≠some g:=fun g h1 h2=>by
        obtain rfl:g8=g:=by simpa [Value.ownBlock] using h1
        rcases hat8 with h | h
        ·exact HAP2.out _ h h2
        ·have:=(ownBlock_row HRA.out _ h2).2;simp at h;omega
       have H8:=Hh (And.intro hown8 (And.intro hl8 (And.intro hb8 (And.intro hr8 (And.intro hlr8 hap8)))));clear hown8 hl8 hb8 hr8 hlr8 hap8 hks8 hra7 hgrow8 hat8 hglt8 hown3 hks3 hbw3;go_wp2;go_roundw
       case rel=>exact ⟨k+1,some ⟨g8,0,none⟩,c6,_,by omega,by go_num,rfl,H8.out.1,by rw [HTK.out,List.map_append,<- List.append_assoc];exact H8.out.2.1,H8.out.2.2.1,H8.out.2.2.2.1,H8.out.2.2.2.2.1,H8.out.2.2.2.2.2⟩
       case measure=>simp [intOf];omega
     ·obtain rfl:k=cs.length:=by omega
      rw [List.take_length] at hlv;have hpl:pc.length+cs.length=(preC l (i+1)).length:=by rw [HPS.out,List.length_append,List.length_map]
      have HPL:=Hh hpl;have HRW:=Hh hrow;have HLW:=Hh hlv;have HV:=Hh hV;clear hrow hlv hV hrra hlra hap hpl;go_wp2;go_roundw
      case rel=>exact ⟨i+1,a2,c2,us,by omega,by go_num,by rw [<- HPL.out],by rw [<- HPL.out];exact HRW.out,by rw [HPS.out];exact HLW.out,HV.out⟩
      case measure=>simp [intOf];omega
  ·obtain rfl:i=l.length:=by omega
   have hpe:=preC_end l;clear hrow hlv hW;go_wp2;go_ret;exact ⟨a,c,vs,by rw [<- hpe];rfl,by rw [<- hpe];exact HROW.out,by rw [<- hpe];exact HLV.out,HW.out⟩
section
variable {w:World} {la:Option Addr} {lc n:Nat} {l:List Int}
end
def recsIdx (b:Bk) (l:List Int):List Rec:=l.filterMap fun i=>b.rs[i.toNat]?
theorem recsIdx_snoc (b:Bk) (l:List Int) (j:Nat) (h:j < l.length) (h2:l[j].toNat < b.rs.length):recsIdx b (l.take (j+1))=recsIdx b (l.take j) ++ [b.rs[l[j].toNat]]:=by
 unfold recsIdx;rw [List.take_succ_eq_append_getElem h,List.filterMap_append];simp [h2]
theorem recsIdx_len (b:Bk) (l:List Int) (h:∀ x∈l,0<=x/\x < (b.rs.length:Int)):∀ j,j<=l.length->(recsIdx b (l.take j)).length=j
 | 0,_=>by simp [recsIdx]
 | j+1,hj=>by
  have hx:=h l[j] (List.getElem_mem (by omega));rw [recsIdx_snoc b l j (by omega) (by omega),List.length_append,recsIdx_len b l h j (by omega)];rfl
def AloneRet (w:World) (b:Bk) (l:List Int) (vr vg vm vs:Value) (e:Ending) (w':World):Prop:=∃ ra rc,e=.returned (.agg #[vr,vg,vm,vs,.slice ra l.length rc])/\BookAt w' (aloneB b l) vr vg vm vs (.slice ra l.length rc)/\Below w.heap.size w w'
section
variable {b:Bk} {vr vg vm vs vc:Value} {w:World} {la:Option Addr} {lc n:Nat} {l:List Int}
theorem alone_at (hB:BookAt w b vr vg vm vs vc) (hr5:b.rs.length<=5) (hL:IntsAt w la l) (hn:n=l.length) (hl:∀ x∈l,0<=x/\x < (b.rs.length:Int)) (hl5:l.length<=5) :
 Calls Tryz.prog 39 #[.agg #[vr,vg,vm,vs,vc],.slice la n lc] w (AloneRet w b l vr vg vm vs):=by
 subst hn;have HB:=Hh hB;have HP:=Hh hL;have HX:=Hh hl;obtain ⟨i0,hi,hz0,hz1,hz2⟩:=info_parts recInfo;obtain ⟨rfl,rfl,⟨ma,mc,rfl,_,_⟩,⟨sa,sc,rfl,_,_⟩,ra,rc,rfl,hRR,_⟩:=id hB;have HRR:=Hh hRR;clear hB hL hl hRR
 go_enter Tryz.func39,Tryz.ntmps39
 go_wp2;obtain ⟨W0,hW0⟩:∃ W0,W0=((w.alloc (.cells #[.int .i64 b.room,.int .i64 b.gap,.slice ma b.ms.length mc,.slice sa b.ss.length sc,.slice ra b.rs.length rc] 26)).alloc (.cells #[.int .i64 0,.int .i64 0,.slice none 0 0,.slice none 0 0,.slice none 0 0] 26)).alloc (.cells #[.int .i64 b.room,.int .i64 b.gap,.slice ma b.ms.length mc,.slice sa b.ss.length sc,.slice none 0 0] 26):=⟨_,rfl⟩;rw [<- hW0];have hb0:Below w.heap.size w W0:=by rw [hW0];(exact bel)
 have hs0:W0.heap.size=w.heap.size+3:=by rw [hW0];simp
 have x4:W0.cell? ⟨w.heap.size,4,none⟩=some (.slice ra b.rs.length rc):=by rw [hW0,World.cell?_alloc_past _ _ _ (by first | omega | (simp;done) | (simp;omega)),World.cell?_alloc_past _ _ _ (by first | omega | (simp;done) | (simp;omega)),World.cell?_alloc_at _ _ _ _ rfl];rfl
 have nn:∀ k u,(#[.int .i64 b.room,.int .i64 b.gap,.slice ma b.ms.length mc,.slice sa b.ss.length sc,.slice none 0 0]:Array Value)[k]? = some u->W0.cell? ⟨w.heap.size+1+1,k,none⟩=some u:=fun k u hk=>by
  rw [hW0,World.cell?_alloc_at _ _ _ _ (by simp)];exact hk
 have y4:=nn 4 _ rfl;have z4:W0.frozen? ⟨w.heap.size+1+1,4,none⟩=false:=by rw [hW0,World.frozen?_alloc_at _ _ _ _ (by simp)]
 have zz:∀ k,W0.frozen? ⟨w.heap.size+1,k,none⟩=false:=fun k=>by rw [hW0,World.frozen?_alloc_past _ _ _ (by simp),World.frozen?_alloc_at _ _ _ _ (by simp)]
 have zc:∀ k u,(#[.int .i64 0,.int .i64 0,.slice none 0 0,.slice none 0 0,.slice none 0 0]:Array Value)[k]? = some u->W0.cell? ⟨w.heap.size+1,k,none⟩=some u:=fun k u hk=>by
  rw [hW0,World.cell?_alloc_past _ _ _ (by simp),World.cell?_alloc_at _ _ _ _ (by simp)];exact hk
 have hle1:w.heap.size+3<=W0.heap.size:=by omega
 have HN:=Hh nn;have HZ:=Hh zz;have HZC:=Hh zc;have HB0:=Hh hb0;clear hW0 nn hs0 zz zc hb0;go_loopw [6] (fun i wr=>∃ (j:Nat) (a:Option Addr) (c:Nat),j<=l.length/\i=.int .i64 j/\wr.cell? ⟨w.heap.size+1+1,4,none⟩=some (.slice a j c)/\wr.frozen? ⟨w.heap.size+1+1,4,none⟩=false/\wr.ownsRow W0.heap.size 29 4 (.slice a j c) j ((recsIdx b (l.take j)).flatMap cellsR)/\KS (fun k=>k < W0.heap.size/\k≠w.heap.size+1+1) W0 wr/\Hid (∀ k,k≠4->wr.cell? ⟨w.heap.size+1+1,k,none⟩=W0.cell? ⟨w.heap.size+1+1,k,none⟩)) (fun i _=>l.length - (intOf i).toNat)
 case atStart=>exact ⟨0,none,0,Nat.zero_le _,rfl,y4,z4,by simpa [recsIdx] using World.ownsRow_nil _ _ _ _,KS.refl _ _,fun _ _=>rfl⟩
 case round =>
  obtain ⟨j,a,c,hj,rfl,h1,h2,hrow,hW,hQ⟩:=hrel;have hWs:=hW.size;by_cases hlt:j < l.length
  ·obtain ⟨lb,lo,rfl,hlb,e9⟩:=HP.out j hlt;have hxx:=HX.out _ (List.getElem_mem hlt);have hsn:=recsIdx_snoc b l j hlt (by omega);obtain ⟨sb,so,rfl,hsb,e0,e1,e2,e3⟩:=HRR.out l[j].toNat (by omega);have hlW:=Nat.lt_of_lt_of_le hlb HB0.out.size;have hsW:=Nat.lt_of_lt_of_le hsb HB0.out.size;have g9:=(hW.cell (x:=⟨lb,lo+j,none⟩) hlW (by simp;omega)).trans ((HB0.out.cell (p:=⟨lb,lo+j,none⟩) hlb).trans e9);have gB:=(hW.cell (x:=⟨w.heap.size,4,none⟩) (by simp;omega) (by simp;omega)).trans x4;have g0:=(hW.cell (x:=⟨sb,so+l[j].toNat * 4,none⟩) hsW (by simp;omega)).trans ((HB0.out.cell (p:=⟨sb,so+l[j].toNat * 4,none⟩) hsb).trans e0);have g1:=(hW.cell (x:=⟨sb,so+l[j].toNat * 4+1,none⟩) hsW (by simp;omega)).trans ((HB0.out.cell (p:=⟨sb,so+l[j].toNat * 4+1,none⟩) hsb).trans e1);have g2:=(hW.cell (x:=⟨sb,so+l[j].toNat * 4+2,none⟩) hsW (by simp;omega)).trans ((HB0.out.cell (p:=⟨sb,so+l[j].toNat * 4+2,none⟩) hsb).trans e2);have g3:=(hW.cell (x:=⟨sb,so+l[j].toNat * 4+3,none⟩) hsW (by simp;omega)).trans ((HB0.out.cell (p:=⟨sb,so+l[j].toNat * 4+3,none⟩) hsb).trans e3);generalize b.rs[l[j].toNat]=r at g0 g1 g2 g3 hsn e0 e1 e2 e3;generalize l[j]=x at g9 g0 g1 g2 g3 hsn hxx e0 e1 e2 e3 e9;obtain ⟨q,rfl⟩:∃ q:Nat,x=q:=⟨x.toNat,by omega⟩;simp only [Int.toNat_natCast] at g0 g1 g2 g3;obtain ⟨rk,rA,rb,rm⟩:=r;simp only at g0 g1 g2 g3;have HSN:=Hh hsn;have HROW:=Hh hrow;have HW:=Hh hW;have hq1:(q:Int) < (b.rs.length:Int):=hxx.2;have hOr:w.heap.size+1+1 < wr.heap.size:=by omega
   have hlr:lb < wr.heap.size:=by omega
   have hsr:sb < wr.heap.size:=by omega
   have hj20:j<=5:=by omega
   clear e0 e1 e2 e3 e9 hsn hrow hW hxx;go_wp2
   go_region_law ((refine step_append_lies (w:=_) rfl _ _ 24 rfl W0.heap.size 29 i0 (.agg #[.int .i64 0,.int .i64 0,.int .i64 0,.int .i64 0]) 4 32 Tryz.underlying24 hi hz0 hz1 hz2 rfl (by decide) (.slice a j c) j _ rfl (row_keep' HROW.out ((KS.drew (fun _=>True) _).trans (KS.alloc _ _ _)) (fun _ _=>trivial)) ⟨wr.heap.size,0,none⟩ 1 1 [.int .i64 rk,.int .i64 rA,.int .i64 rb,.int .i64 rm] rfl rfl (cells_new _ _ _) (by simp [Value.oneCell']) (by decide) (by unfold maxLen;omega) (by omega) (by simp;omega) _ rfl ?_;intro g cap w5 hown' hgrow hat hglt;have hks:=grow_ks (row_keep' HROW.out ((KS.drew (fun _=>True) wr).trans (KS.alloc _ _ (.cells #[.int .i64 rk,.int .i64 rA,.int .i64 rb,.int .i64 rm] 29))) (fun _ _=>trivial)) hgrow;have q1:=(hks.cell (x:=⟨w.heap.size+1+1,4,none⟩) (by simp;omega) (by simp;omega));have q2:=(hks.frozen (x:=⟨w.heap.size+1+1,4,none⟩) (by simp;omega) (by simp;omega));rw [World.cell?_alloc_past _ _ _ (by simp;omega),World.cell?_drew,h1] at q1;rw [World.frozen?_alloc_past _ _ _ (by simp;omega),World.frozen?_drew,h2] at q2))
   all_goals
    have h8:KS (fun k=>k < W0.heap.size) wr w5:=((KS.drew (fun k=>k < W0.heap.size) wr).trans (KS.alloc _ _ _)).trans hks;have h9:KS (fun k=>k≠w.heap.size+1+1) w5 (w5.setCell ⟨w.heap.size+1+1,4,none⟩ (.slice (some ⟨g,0,none⟩) (j+1) cap)):=KS.setCell (by simp) _ _;have H9:=Hh (⟨h8,h9,q1,q2,hown'⟩:_/\_/\_/\_/\_);clear h8 h9 q1 q2 hown' hgrow hat hglt hks;go_wp2;go_roundw
    case rel =>
     obtain ⟨h8,h9,q1,q2,hown'⟩:=H9.out;refine ⟨j+1,some ⟨g,0,none⟩,cap,by omega,by go_num,?_,?_,?_,?_,fun k hk=>?_⟩
     ·exact World.cell?_setCell_same' _ _ _ (by rw [q1];rfl)
     ·rw [World.frozen?_setCell];exact q2
     ·rw [HSN.out,List.flatMap_append];exact ownsRow_ks hown' h9 (fun k hk=>by show k≠_;omega)
     ·exact HW.out.trans ((h8.mono fun k _ h=>h.1).trans (h9.mono fun k _ h=>h.2))
     ·rw [World.cell?_setCell_other (h:=fun e=>by injection e with _ e _;exact hk e.symm)];exact (h8.cell (x:=⟨w.heap.size+1+1,k,none⟩) hOr (by show w.heap.size+1+1 < W0.heap.size;omega)).trans (hQ.out k hk)
    case measure=>simp [intOf];omega
  ·obtain rfl:j=l.length:=by omega
   have o:∀ k,wr.cell? ⟨w.heap.size+1,k,none⟩=W0.cell? ⟨w.heap.size+1,k,none⟩:=fun k=>hW.cell (x:=⟨w.heap.size+1,k,none⟩) (by simp;omega) (by simp;omega);have oz:∀ k,wr.frozen? ⟨w.heap.size+1,k,none⟩=false:=fun k=>(hW.frozen (x:=⟨w.heap.size+1,k,none⟩) (by simp;omega) (by simp;omega)).trans (HZ.out k);have t0:=(o 0).trans (HZC.out 0 _ rfl);have t1:=(o 1).trans (HZC.out 1 _ rfl);have t2:=(o 2).trans (HZC.out 2 _ rfl);have t3:=(o 3).trans (HZC.out 3 _ rfl);have t4:=(o 4).trans (HZC.out 4 _ rfl);have f0:=oz 0;have f1:=oz 1;have f2:=oz 2;have f3:=oz 3;have f4:=oz 4;have p0:=(hQ.out 0 (by omega)).trans (HN.out 0 _ rfl);have p1:=(hQ.out 1 (by omega)).trans (HN.out 1 _ rfl);have p2:=(hQ.out 2 (by omega)).trans (HN.out 2 _ rfl);have p3:=(hQ.out 3 (by omega)).trans (HN.out 3 _ rfl);have hOr:w.heap.size+1+1 < wr.heap.size:=by omega
   have hLr:w.heap.size+1 < wr.heap.size:=by omega
   have HROW:=Hh hrow;have HW:=Hh hW;have hlen:=recsIdx_len b l HX.out l.length (Nat.le_refl _);have HLEN:=Hh hlen;clear o oz hQ hrow hW hlen;go_wp2;have five:=Five.put (r:=w.heap.size+1) (v0:=.int .i64 b.room) (v1:=.int .i64 b.gap) (v2:=.slice ma b.ms.length mc) (v3:=.slice sa b.ss.length sc) (v4:=.slice a l.length c) (w:=wr) (by rw [t0];rfl) (by rw [t1];rfl) (by rw [t2];rfl) (by rw [t3];rfl) (by rw [t4];rfl) hLr;obtain ⟨W9,hW9⟩:∃ W9,W9=(((((wr.setCell ⟨w.heap.size+1,0,none⟩ (.int .i64 b.room)).setCell ⟨w.heap.size+1,1,none⟩ (.int .i64 b.gap)).setCell ⟨w.heap.size+1,2,none⟩ (.slice ma b.ms.length mc)).setCell ⟨w.heap.size+1,3,none⟩ (.slice sa b.ss.length sc)).setCell ⟨w.heap.size+1,4,none⟩ (.slice a l.length c)):=⟨_,rfl⟩;have k9:KS (fun k=>k≠w.heap.size+1) wr W9:=by
    rw [hW9];exact ((((KS.setCell (by simp) _ _).trans (KS.setCell (by simp) _ _)).trans (KS.setCell (by simp) _ _)).trans (KS.setCell (by simp) _ _)).trans (KS.setCell (by simp) _ _)
   rw [<- hW9] at five ⊢;obtain ⟨c0,c1,c2,c3,c4,_⟩:=five;have hbw:Below w.heap.size w W9:=(HB0.out.trans ((HW.out.toBelow (n:=w.heap.size) (by omega) (fun k hk=>by omega)))).trans (k9.toBelow (n:=w.heap.size) (by omega) (fun k hk=>by omega));have hr9:W9.ownsRow W0.heap.size 29 4 (.slice a l.length c) l.length ((recsIdx b (l.take l.length)).flatMap cellsR):=ownsRow_ks HROW.out k9 (fun k hk=>by omega);have HBW:=Hh hbw;have HR9:=Hh hr9;clear hW9 k9 hbw hr9 t0 t1 t2 t3 t4 p0 p1 p2 p3 f0 f1 f2 f3 f4 h1 h2;refine bodyPost_ret (v:=.agg #[.int .i64 b.room,.int .i64 b.gap,.slice ma b.ms.length mc,.slice sa b.ss.length sc,.slice a l.length c]) (by simp [results,Tryz.results39,go_sem,c0,c1,c2,c3,c4]) rfl ⟨a,c,rfl,?_,HBW.out⟩;have hB9:=HB.out.below HBW.out;have e:(recsIdx b l).length=l.length:=by have:=HLEN.out;rwa [List.take_length] at this
   have hrr:=recs_of_row HR9.out;rw [List.take_length] at hrr;exact ⟨hB9.room,hB9.gap,hB9.ms,hB9.ss,a,c,by rw [<- e];rfl,hrr,by show (recsIdx b l).length<=1000000;omega⟩
end
section
variable {b:Bk} {vr vg vm vs vc:Value} {w:World}
theorem clash_none (hB:BookAt w b vr vg vm vs vc) (hN:∀ m∈b.ms,m.name.size<=1000000) (hK:KindsAt w) (hk:bookAl b=0) (hp:pasts b≠[]) :
 Calls Tryz.prog 6 #[.agg #[vr,vg,vm,vs,vc]] w fun e w'=>e=.returned (.tuple #[.slice none 0 0,.int .i64 0])/\Below w.heap.size w w':=by
 have HB:=Hh hB;have HN:=Hh hN;have HK:=Hh hK;have hbo:=(bookAl_ok hk).1;have HO:=Hh hbo;have HRR:=Hh (bookAl_ok hk).2;have HBA:=Hh hk;have hpos:0 < (pasts b).length:=List.length_pos_iff.2 hp;have hple:=pasts_le hbo;obtain ⟨rfl,rfl,⟨ma,mc,rfl,_,_⟩,⟨sa,sc,rfl,_,_⟩,ra,rc,rfl,_,_⟩:=id hB;clear hB hN hK hk hp hbo
 go_enter Tryz.func6,Tryz.ntmps6
 go_wp2
 go_step3
 go_wp2_with (first
  | (go_at_call 31;(with_reducible refine (checkBook_at (HB.out.below (bel)) HN.out (HK.out.below (bel)) HBA.out).mono ?_);rintro e w3 ⟨rfl,hb3⟩;obtain ⟨hc3,hf3⟩:=bcell hb3;have hz3:=hb3.size;(try simp at hz3))
  | (go_at_call 32;(with_reducible refine (all_at (HB.out.below (bel)) (HK.out.below (bel)) HO.out HRR.out).mono ?_);rintro e w4 ⟨v4,rfl,hr4,hb4⟩;obtain ⟨a4,c4,rfl⟩:=ownsRow_slice hr4;clear hr4;obtain ⟨hc4,hf4⟩:=bcell hb4;have hz4:=hb4.size;(try simp at hz4)))
 try rw [Exit.noGoto_ret]
 exact bodyPost_ret (v:=.tuple #[.slice none 0 0,.int .i64 0]) (by simp [results,Tryz.results6,go_sem, *]) rfl ⟨rfl,bel⟩
def clashQ (b:Bk):List Int:=if pasts b=[] then clashI b else []
theorem clash2_at (hB:BookAt w b vr vg vm vs vc) (hN:∀ m∈b.ms,m.name.size<=1000000) (hK:KindsAt w) (hk:bookAl b=0) (hR:b.rs.length<=5) {q:List Int} (hq:clashQ b=q) :
 Calls Tryz.prog 6 #[.agg #[vr,vg,vm,vs,vc]] w fun e w'=>∃ a c,e=.returned (.tuple #[.slice a q.length c,.int .i64 0])/\IntsAt w' a q/\Below w.heap.size w w':=by
 subst hq;unfold clashQ;by_cases hp:pasts b=[]
 ·rw [if_pos hp];exact clash_ok hB hN hK hk hp hR
 ·rw [if_neg hp];refine (clash_none hB hN hK hk hp).mono ?_;rintro e w' ⟨rfl,hb⟩;exact ⟨none,0,rfl,ints_nil,hb⟩
end
theorem alone_bk {b:Bk} (x:List Int) (hO:BkOk b):BkOk (aloneB b x):=⟨hO.groups,hO.ml,hO.sl,hO.pl,hO.part,hO.nodup⟩
theorem alone_recs {b:Bk} (x:List Int) (hr:∀ r∈b.rs,recAl b r=0):∀ r∈(aloneB b x).rs,recAl (aloneB b x) r=0:=fun r h=>by
 obtain ⟨i,_,hi⟩:=List.mem_filterMap.1 h;exact hr r (List.mem_of_getElem? hi)
def ClashRet (w:World) (q:List Int) (t:Int) (e:Ending) (w':World):Prop:=∃ a c,e=.returned (.tuple #[.slice a q.length c,.int .i64 t])/\IntsAt w' a q/\Below w.heap.size w w'
section
variable {b:Bk} {vr vg vm vs vc:Value} {w:World}
theorem rClash_no (hB:BookAt w b vr vg vm vs vc) (hN:∀ m∈b.ms,m.name.size<=1000000) {t:Int} (ht:bookAl b=t) (h0:t≠0) :
 Calls Tryz.prog 7 #[.agg #[vr,vg,vm,vs,vc]] w (ClashRet w [] t):=by
 have HB:=Hh hB;have HN:=Hh hN;have H0:=Hh ht;have hz3:(t != 0)=true:=by simpa using h0
 obtain ⟨rfl,rfl,⟨ma,mc,rfl,_,_⟩,⟨sa,sc,rfl,_,_⟩,ra,rc,rfl,_,_⟩:=id hB;clear hB hN ht h0
 go_enter Tryz.func7,Tryz.ntmps7
 go_wp2_with (go_at_call 34;(with_reducible refine (rCheckBook_at (HB.out.below (bel)) HN.out H0.out).mono ?_);rintro e w1 ⟨rfl,hb1⟩;obtain ⟨hc1,hf1⟩:=bcell hb1;have hz1:w.heap.size < w1.heap.size:=(by have:=hb1.size;simp at this;omega));exact bodyPost_ret (v:=.tuple #[.slice none 0 0,.int .i64 t]) (by simp [results,Tryz.results7,go_sem, *]) rfl ⟨none,0,rfl,ints_nil,bel⟩
theorem rClash_none (hB:BookAt w b vr vg vm vs vc) (hN:∀ m∈b.ms,m.name.size<=1000000) (hk:bookAl b=0) (hp:pasts b≠[]) :
 Calls Tryz.prog 7 #[.agg #[vr,vg,vm,vs,vc]] w (ClashRet w [] 0):=by
 have HB:=Hh hB;have HN:=Hh hN;obtain ⟨rfl,rfl,⟨ma,mc,rfl,_,_⟩,⟨sa,sc,rfl,_,_⟩,ra,rc,rfl,_,_⟩:=id hB;have H0:=Hh hk;have HO:=Hh (bookAl_ok hk).1;have HR:=Hh (bookAl_ok hk).2;have hpos:0 < (pasts b).length:=List.length_pos_iff.2 hp;clear hB hN hk hp
 go_enter Tryz.func7,Tryz.ntmps7
 go_wp2_with (first
  | (go_at_call 34;(with_reducible refine (rCheckBook_at (HB.out.below (bel)) HN.out H0.out).mono ?_);rintro e w1 ⟨rfl,hb1⟩;obtain ⟨hc1,hf1⟩:=bcell hb1;have hz1:w.heap.size < w1.heap.size:=(by have:=hb1.size;simp at this;omega))
  | (go_at_call 35;(with_reducible refine (rPastsOf_at (HB.out.below (bel)) HO.out HR.out).mono ?_);rintro e w3 ⟨a,c,vs',rfl,h1,h2,hb3⟩))
 exact bodyPost_ret (v:=.tuple #[.slice none 0 0,.int .i64 0]) (by simp [results,Tryz.results7,go_sem, *]) rfl ⟨none,0,rfl,ints_nil,bel⟩
def bestK (b:Bk) (k:Nat):List Int:=((choicesI (upI b.rs.length)).take k).foldl (bestStep (noPast b)) (upI b.rs.length)
theorem bestK_succ (b:Bk) (k:Nat) (h:k < (choicesI (upI b.rs.length)).length):bestK b (k+1)=bestStep (noPast b) (bestK b k) (choicesI (upI b.rs.length))[k]:=by
 unfold bestK;rw [List.take_succ_eq_append_getElem h,List.foldl_append];rfl
theorem bestK_len {b:Bk} (h5:b.rs.length<=5):∀ k,k<=(choicesI (upI b.rs.length)).length->(bestK b k).length<=5
 | 0,_=>by unfold bestK;simp [upI_len];exact h5
 | k+1,h=>by
  rw [bestK_succ b k h];unfold bestStep;split
  ·have:=(mem_choices.1 (List.getElem_mem (l:=choicesI (upI b.rs.length)) (n:=k) h)).length_le;rw [upI_len] at this;omega
  ·exact bestK_len h5 k (by omega)
theorem bestK_all (b:Bk):bestK b (choicesI (upI b.rs.length)).length=rClashI b:=by unfold bestK rClashI;rw [List.take_length]
theorem up_mem {n:Nat} {x:Int} (h:x∈upI n):0<=x/\x < (n:Int):=by
 unfold upI at h;obtain ⟨i,hi,rfl⟩:=List.mem_map.1 h;rw [List.mem_range] at hi;omega
end
section
variable {b:Bk} {vr vg vm vs vc:Value} {w:World}
theorem rClash_some (hB:BookAt w b vr vg vm vs vc) (hN:∀ m∈b.ms,m.name.size<=1000000) (hk:bookAl b=0) (hp:pasts b=[]) (h5:b.rs.length<=5) :
 Calls Tryz.prog 7 #[.agg #[vr,vg,vm,vs,vc]] w (ClashRet w (rClashI b) 0):=by
 have HB:=Hh hB;have HN:=Hh hN;obtain ⟨rfl,rfl,⟨ma,mc,rfl,_,_⟩,⟨sa,sc,rfl,_,_⟩,ra,rc,rfl,_,_⟩:=id hB;have H0:=Hh hk;have HO:=Hh (bookAl_ok hk).1;have HR:=Hh (bookAl_ok hk).2;have HP:=Hh hp;have hpl:(pasts b).length=0:=by rw [hp];rfl
 have HPL:=Hh hpl;have HU:=Hh (upI_len b.rs.length);have HU0:=Hh (show bestK b 0=upI b.rs.length from rfl);have HBA:=Hh (bestK_all b);have HBL:=Hh (bestK_len h5);have HBS:=Hh (bestK_succ b);have HUM:=Hh (show ∀ y∈choicesI (upI b.rs.length),(∀ x∈y,0<=x/\x < (b.rs.length:Int))/\y.length<=5 from fun y hy=>⟨fun x hx=>up_mem ((mem_choices.1 hy).subset hx),by have:=(mem_choices.1 hy).length_le;rw [upI_len] at this;omega⟩);have HCL:=Hh (show (choicesI (upI b.rs.length)).length<=32 by rw [choices_len,upI_len];exact Nat.pow_le_pow_right (by decide) h5);have HAL:=Hh (show ∀ x,BkOk (aloneB b x) from fun x=>alone_bk x HO.out);have HAR:=Hh (show ∀ x,∀ r∈(aloneB b x).rs,recAl (aloneB b x) r=0 from fun x=>alone_recs x HR.out);clear hB hN hk hp hpl
 go_enter Tryz.func7,Tryz.ntmps7
 go_wp2_with (first
  | (go_at_call 34;(with_reducible refine (rCheckBook_at (HB.out.below (bel)) HN.out H0.out).mono ?_);rintro e w1 ⟨rfl,hb1⟩;obtain ⟨hc1,hf1⟩:=bcell hb1;have hz1:w.heap.size < w1.heap.size:=(by have:=hb1.size;simp at this;omega))
  | (go_at_call 35;(with_reducible refine (rPastsOf_at (HB.out.below (bel)) HO.out HR.out).mono ?_);rintro e w3 ⟨a,c,vs',rfl,h1,h2,hb3⟩;rw [HPL.out];clear h1 h2;obtain ⟨hc3,hf3⟩:=bcell hb3;have hz3:=hb3.size)
  | (go_at_call 36;(with_reducible refine (upTo_at (n:=b.rs.length) (by omega)).mono ?_);rintro e w4 ⟨ua,uc,rfl,hV4,hb4⟩;obtain ⟨-,hI4,-,huc⟩:=intsV_parts hV4)
  | (go_at_call 37;(with_reducible refine (show Calls Tryz.prog 37 #[.slice ua b.rs.length uc] w4 (PastsOut w4 (choicesI (upI b.rs.length))) by have h:=choices_at b.rs.length (upI b.rs.length) w4 ua uc HU.out h5 hI4 huc;rw [HU.out] at h;exact h).mono ?_);rintro e w5 ⟨ca,cc,cvs,rfl,hR5,hL5,hb5⟩))
 have hbw:Below w.heap.size w w5:=bel;have hbo:=Below.next (Below.next (Below.next hb1 hb3) hb4) hb5;have hwl:w.heap.size < w5.heap.size:=by have:=hbo.size;simp at this;omega
 have nn:∀ k u,(#[.int .i64 b.room,.int .i64 b.gap,.slice ma b.ms.length mc,.slice sa b.ss.length sc,.slice ra b.rs.length rc]:Array Value)[k]? = some u->w5.cell? ⟨w.heap.size,k,none⟩=some u:=fun k u hk=>by
  rw [hbo.cell (p:=⟨w.heap.size,k,none⟩) (by simp),World.cell?_alloc_at _ _ _ _ rfl];exact hk
 have n0:=nn 0 _ rfl;have n1:=nn 1 _ rfl;have n2:=nn 2 _ rfl;have n3:=nn 3 _ rfl;have n4:=nn 4 _ rfl;have hI5:IntsAt w5 ua (bestK b 0):=by rw [HU0.out];exact hI4.below hb5
 have hl0:(bestK b 0).length=b.rs.length:=by rw [HU0.out];exact HU.out
 have HI5:=Hh hI5;have HB5:=Hh (HB.out.below hbw);have HBW:=Hh hbw;have HR5:=Hh hR5;have HL5:=Hh hL5;have hcs:=HCL.out;have HL0:=Hh hl0;clear nn hbo hb5 hb4 hb3 hb1 hc1 hf1 hc3 hf3 hz1 hz3 hI4 hV4 huc hI5 hR5 hL5 hbw hl0;generalize choicesI (upI b.rs.length)=cs at HR5 HL5 hcs HBA HBL HBS HUM ⊢;go_loopw [5,7] (fun v t wr=>∃ (k:Nat) (a:Option Addr) (c:Nat),k<=cs.length/\t=.int .i64 k/\v=.slice a (bestK b k).length c/\IntsAt wr a (bestK b k)/\Below w5.heap.size w5 wr) (fun _ t _=>cs.length - (intOf t).toNat)
 case atStart=>exact ⟨0,ua,uc,Nat.zero_le _,rfl,by rw [HL0.out],HI5.out,Below.refl _ _⟩
 case round =>
  obtain ⟨k,a,c,hk,rfl,rfl,hia,hW⟩:=hrel;have HIA:=Hh hia;have HW:=Hh hW;have hWs:=hW.size;have hbl:=HBL.out k hk;by_cases hlt:k < cs.length
  ·have m0:=(hW.cell (p:=⟨w.heap.size,0,none⟩) hwl).trans n0;have m1:=(hW.cell (p:=⟨w.heap.size,1,none⟩) hwl).trans n1;have m2:=(hW.cell (p:=⟨w.heap.size,2,none⟩) hwl).trans n2;have m3:=(hW.cell (p:=⟨w.heap.size,3,none⟩) hwl).trans n3;have m4:=(hW.cell (p:=⟨w.heap.size,4,none⟩) hwl).trans n4;have hwl2:w.heap.size < wr.heap.size:=by omega
   have hrv:k < cvs.length:=by rw [HL5.out.1];exact hlt
   obtain ⟨g5,hra,_,hg5q,hck⟩:=row_cell (ownsRow_below HR5.out hW) k hrv;rw [List.getElem?_eq_getElem hrv] at hck;have hiv:=(HL5.out.below hW).2 k cvs[k] cs[k] (List.getElem?_eq_getElem hrv) (List.getElem?_eq_getElem hlt);obtain ⟨va,vcp,hve,hVI,hvz,hvle⟩:=hiv.form;rw [hve] at hck;have HVI:=Hh hVI;have HY:=Hh (HUM.out cs[k] (List.getElem_mem hlt));have hst:=HBS.out k hlt;have HST:=Hh hst;subst hra;have hy5:=HY.out.2;generalize cs[k]=y at hck HVI HY HST hy5;generalize bestK b k=best at HIA hbl HST;have hn:(k:Int) < (cs.length:Int):=by omega
   clear hia hW hiv hve hVI hvz hvle hst;have hall:∀ W,Below wr.heap.size wr W->Below wr.heap.size wr W/\W.cell? ⟨w.heap.size,0,none⟩=some (.int .i64 b.room)/\W.cell? ⟨w.heap.size,1,none⟩=some (.int .i64 b.gap)/\W.cell? ⟨w.heap.size,2,none⟩=some (.slice ma b.ms.length mc)/\W.cell? ⟨w.heap.size,3,none⟩=some (.slice sa b.ss.length sc)/\W.cell? ⟨w.heap.size,4,none⟩=some (.slice ra b.rs.length rc)/\W.cell? ⟨g5,k,none⟩=some (.slice va y.length vcp):=fun W hW =>
    ⟨hW,(hW.cell (p:=⟨w.heap.size,0,none⟩) hwl2).trans m0,(hW.cell (p:=⟨w.heap.size,1,none⟩) hwl2).trans m1,(hW.cell (p:=⟨w.heap.size,2,none⟩) hwl2).trans m2,(hW.cell (p:=⟨w.heap.size,3,none⟩) hwl2).trans m3,(hW.cell (p:=⟨w.heap.size,4,none⟩) hwl2).trans m4,(hW.cell (p:=⟨g5,k,none⟩) hg5q).trans hck⟩
   have HALL:=Hh hall;clear hall;cases hf:fewerI y best
   ·have HF:=Hh hf;have hn1:bestK b (k+1)=best:=by rw [HST.out];unfold bestStep;rw [hf];rfl
    have HN1:=Hh hn1;clear hf hn1;go_wp2
    (refine wp_region_bel (by kernel_rfl) (by kernel_rfl) ?_;(repeat (go_big_quiet_step ((go_at_call 38;with_reducible exact Calls.bel_of (fewer_at (HVI.out.below (later_below _ _)) (HIA.out.below (later_below _ _)) rfl rfl (by omega) (by omega) HF.out)))));refine wpQuiet_nil ?_;rintro _ ⟨xq,rfl⟩)
    go_wp2;go_roundw
    case rel=>exact ⟨k+1,a,c,by omega,by go_num,by rw [HN1.out],by rw [HN1.out];exact HIA.out.below (later_below _ _),Below.next HW.out (later_below _ _)⟩
    case measure=>simp [intOf];omega
   ·have HF:=Hh hf;have hn1:bestK b (k+1)=if noPast b y=true then y else best:=by rw [HST.out];unfold bestStep;rw [hf];simp
    have HN1:=Hh hn1;clear hf hn1;go_wp2;go_region_held3 (fun w'=>Below wr.heap.size wr w'/\w'.cell? ⟨w.heap.size,0,none⟩=some (.int .i64 b.room)/\w'.cell? ⟨w.heap.size,1,none⟩=some (.int .i64 b.gap)/\w'.cell? ⟨w.heap.size,2,none⟩=some (.slice ma b.ms.length mc)/\w'.cell? ⟨w.heap.size,3,none⟩=some (.slice sa b.ss.length sc)/\w'.cell? ⟨w.heap.size,4,none⟩=some (.slice ra b.rs.length rc)/\w'.cell? ⟨g5,k,none⟩=some (.slice va y.length vcp))
     ((go_split_ands;exact HALL.out _ (bel)))
     (first
       | (go_at_call 38;(with_reducible refine (fewer_at (HVI.out.below (bel)) (HIA.out.below (bel)) rfl rfl (by omega) (by omega) HF.out).mono ?_);rintro e w6 ⟨rfl,hb6⟩)
       | (go_at_call 39;(with_reducible refine (alone_at ((HB5.out.below HW.out).below (bel)) h5 (HVI.out.below (bel)) rfl HY.out.1 HY.out.2).mono ?_);rintro e w7 ⟨xa,xc,rfl,hB7,hb7⟩)
       | (go_at_call 35;(with_reducible refine (rPastsOf_at hB7 (HAL.out y) (HAR.out y)).mono ?_);rintro e w8 ⟨pa,pc,pvs,rfl,_,_,hb8⟩)
       | fail "no arm")
    all_goals
     have hb9:Below wr.heap.size wr w8:=Below.next (Below.next (Below.next (bel) hb6) hb7) hb8;have HB9:=Hh hb9;have m5:=(HALL.out _ hb9).2.2.2.2.2.2;clear hb6 hb7 hb8 hb9 hB7;cases hnp:noPast b y
     ·have hz:((((pasts (aloneB b y)).length:Nat):Int) == 0)=false:=by
       unfold noPast at hnp;simpa using hnp
      rw [hnp,if_neg (by simp)] at HN1;clear hnp;go_wp2;go_roundw
      case rel=>exact ⟨k+1,a,c,by omega,by go_num,by rw [HN1.out],by rw [HN1.out];exact HIA.out.below HB9.out,Below.next HW.out HB9.out⟩
      case measure=>simp [intOf];omega
     ·have hz:((((pasts (aloneB b y)).length:Nat):Int) == 0)=true:=by
       unfold noPast at hnp;simpa using hnp
      rw [hnp,if_pos rfl] at HN1;clear hnp;go_wp2;go_roundw
      case rel=>exact ⟨k+1,va,vcp,by omega,by go_num,by rw [HN1.out],by rw [HN1.out];exact HVI.out.below HB9.out,Below.next HW.out HB9.out⟩
      case measure=>simp [intOf];omega
  ·obtain rfl:k=cs.length:=by omega
   clear hia hW;go_wp2;exact bodyPost_ret (v:=.tuple #[.slice a (bestK b cs.length).length c,.int .i64 0]) (by simp [results,Tryz.results7,go_sem, *]) rfl ⟨a,c,by rw [HBA.out],by rw [<- HBA.out];exact HIA.out,Below.next HBW.out HW.out⟩
end
def clashR (b:Bk):List Int:=if bookAl b=0 then clashQ b else []
section
variable {b:Bk} {vr vg vm vs vc:Value} {w:World}
theorem clash_no (hB:BookAt w b vr vg vm vs vc) (hN:∀ m∈b.ms,m.name.size<=1000000) (hK:KindsAt w) {t:Int} (ht:bookAl b=t) (h0:t≠0) :
 Calls Tryz.prog 6 #[.agg #[vr,vg,vm,vs,vc]] w (ClashRet w [] t):=by
 have HB:=Hh hB;have HN:=Hh hN;have HK:=Hh hK;have H0:=Hh ht;have hz3:(t != 0)=true:=by simpa using h0
 obtain ⟨rfl,rfl,⟨ma,mc,rfl,_,_⟩,⟨sa,sc,rfl,_,_⟩,ra,rc,rfl,_,_⟩:=id hB;clear hB hN hK ht h0
 go_enter Tryz.func6,Tryz.ntmps6
 go_wp2
 go_step3
 go_wp2_with (go_at_call 31;(with_reducible refine (checkBook_at (HB.out.below (bel)) HN.out (HK.out.below (bel)) H0.out).mono ?_);rintro e w3 ⟨rfl,hb3⟩;obtain ⟨hc3,hf3⟩:=bcell hb3;have hz3:=hb3.size;(try simp at hz3))
 try rw [Exit.noGoto_ret]
 exact bodyPost_ret (v:=.tuple #[.slice none 0 0,.int .i64 t]) (by simp [results,Tryz.results6,go_sem, *]) rfl ⟨none,0,rfl,ints_nil,bel⟩
theorem clash_at (hB:BookAt w b vr vg vm vs vc) (hN:∀ m∈b.ms,m.name.size<=1000000) (hK:KindsAt w) {t:Int} (ht:bookAl b=t) {q:List Int} (hq:clashR b=q) :
 Calls Tryz.prog 6 #[.agg #[vr,vg,vm,vs,vc]] w (ClashRet w q t):=by
 subst hq;unfold clashR;by_cases h:bookAl b=0
 ·rw [if_pos h];obtain rfl:t=0:=ht.symm.trans h;exact clash2_at hB hN hK h (recs_len h) rfl
 ·rw [if_neg h];exact clash_no hB hN hK ht (ht ▸ h)
theorem rClash_at (hB:BookAt w b vr vg vm vs vc) (hN:∀ m∈b.ms,m.name.size<=1000000) {t:Int} (ht:bookAl b=t) {q:List Int} (hq:clashR b=q) :
 Calls Tryz.prog 7 #[.agg #[vr,vg,vm,vs,vc]] w (ClashRet w q t):=by
 subst hq;unfold clashR clashQ;by_cases h:bookAl b=0
 ·rw [if_pos h];obtain rfl:t=0:=ht.symm.trans h;by_cases hp:pasts b=[]
  ·rw [if_pos hp,<- rClash_eq hp];exact rClash_some hB hN h hp (recs_len h)
  ·rw [if_neg hp];exact rClash_none hB hN h hp
 ·rw [if_neg h];exact rClash_no hB hN ht (ht ▸ h)
end
def leftTo (l:List (List Int)) (i j:Nat):Int:=((List.range j).map (cntI l i)).foldl max 0
theorem leftTo_succ (l:List (List Int)) (i j:Nat):leftTo l i (j+1)=max (leftTo l i j) (cntI l i j):=by
 unfold leftTo;rw [List.range_succ,List.map_append,List.foldl_append];rfl
theorem leftTo_bd (l:List (List Int)) (i:Nat):∀ j,0<=leftTo l i j/\leftTo l i j<=(l.length:Int)
 | 0=>⟨Int.le_refl _,Int.natCast_nonneg _⟩
 | j+1=>by
  have h:=leftTo_bd l i j;have c:=cntI_bd l i j;rw [leftTo_succ];omega
theorem cntK_succ (l:List (List Int)) (i v k:Nat) (h:k < l.length):cntI (l.take (k+1)) i v=cntI (l.take k) i v+if l[k].getD i 0=(v:Int) then 1 else 0:=by
 rw [List.take_succ_eq_append_getElem h,cntI_snoc,pad_getD]
section
variable {b:Bk} {vr vg vm vs vc:Value} {w:World}
theorem rLeft_at (hB:BookAt w b vr vg vm vs vc) (hk:bookAl b=0) {base c:Nat} {a:Option Addr} {us:List Value} {L:List (List Int)} (hrow:w.ownsRow base 35 1 (.slice a L.length c) L.length us) (hl:ListsV w us L) (hL:L=pasts b) (i:Nat) (hi:i < b.ss.length) {n:Nat} (hn:n=L.length) :
 Calls Tryz.prog 45 #[.agg #[vr,vg,vm,vs,vc],.slice a n c,.int .i64 i] w fun e w'=>e=.returned (.int .i64 (mostI L i))/\Below w.heap.size w w':=by
 subst hn;have hmo:leftTo L i (b.ss[i].length+1)=mostI L i:=by rw [hL];exact leaves_most hk hi
 have hO:=(bookAl_ok hk).1;have h5:b.ss[i].length<=5:=hO.pl _ (List.getElem_mem hi);have hsl:=hO.sl;have hLl:L.length<=1296:=by rw [hL];exact pasts_le hO
 have hm:∀ x∈L,x.length=b.ss.length:=by rw [hL];exact fun x hx=>(mem_pasts.1 hx).1
 have hx:∀ k (h:k < L.length),L[k].length=b.ss.length:=fun k h=>hm _ (List.getElem_mem h);clear hm;obtain ⟨sa,sc,rfl,hS,hsl6⟩:=hB.ss;obtain ⟨sb,so,rfl,hsb,pa,pc,h0,hpc,hpl,hPx⟩:=hS i hi;clear hPx hS;have HB:=Hh hB;have HROW:=Hh hrow;have HL:=Hh hl;have HX:=Hh hx;have HMO:=Hh hmo;have HSU:=Hh (leftTo_succ L i);have HBD:=Hh (leftTo_bd L i);have HZ:=Hh (show leftTo L i 0=0 from rfl);have HCS:=Hh (cntK_succ L i);have HCA:=Hh (show ∀ v,cntI (L.take L.length) i v=cntI L i v from fun v=>by rw [List.take_length]);have HCB:=Hh (show ∀ v k,0<=cntI (L.take k) i v/\cntI (L.take k) i v<=(L.length:Int) from fun v k=>by have h1:=cntI_bd (L.take k) i v;have h2:=List.length_take_le k L;have h3:=List.length_take (i:=k) (l:=L);omega);have hin:(i:Int) < (b.ss.length:Int):=by omega
 clear hB hrow hl hL hx hmo hk;generalize b.ss[i].length=m at h0 hpc hpl h5 HMO
 go_enter Tryz.func45,Tryz.ntmps45
 go_wp2;go_loop [7,8] (fun t j=>∃ k:Nat,k<=m+1/\j=.int .i64 k/\t=.int .i64 (leftTo L i k)) (fun _ j=>m+1 - (intOf j).toNat)
 case atStart=>exact ⟨0,Nat.zero_le _,rfl,by rw [HZ.out]⟩
 case round =>
  obtain ⟨j,hj,rfl,rfl⟩:=hrel;by_cases hlt:j < m+1
  ·have hjm:(j:Int)<=(m:Int):=by omega
   go_wp2;go_loop [9,10] (fun t k=>∃ q:Nat,q<=L.length/\k=.int .i64 q/\t=.int .i64 (cntI (L.take q) i j)) (fun _ k=>L.length - (intOf k).toNat)
   case atStart=>exact ⟨0,Nat.zero_le _,rfl,rfl⟩
   case round =>
    obtain ⟨q,hq,rfl,rfl⟩:=hrel;by_cases hlt2:q < L.length
    ·have hrv:q < us.length:=by rw [HL.out.1];exact hlt2
     obtain ⟨g5,hra,_,hg5q,hck⟩:=row_cell HROW.out q hrv;rw [List.getElem?_eq_getElem hrv] at hck;have hiv:=HL.out.2 q us[q] L[q] (List.getElem?_eq_getElem hrv) (List.getElem?_eq_getElem hlt2);obtain ⟨va,vcp,hve,hVI,_,_⟩:=hiv.form;rw [hve] at hck;have hxl:=HX.out q hlt2;have hxi:i < L[q].length:=by omega
     obtain ⟨vb,vo,rfl,hvb,hc0⟩:=hVI i hxi;have hst:=HCS.out j q hlt2;have hcb:=HCB.out j q;rw [List.getD_eq_getElem?_getD,List.getElem?_eq_getElem hxi,Option.getD_some] at hst;have hil:(i:Int) < ((L[q].length:Nat):Int):=by omega
     generalize L[q][i]=y at hc0 hst;have hql:(q:Int) < (L.length:Int):=by omega
     have hil2:i < L[q].length:=hxi;have HST:=Hh hst;clear hiv hve hVI hst hxl;subst hra;generalize L[q].length=z at hck hil hil2 hxi;by_cases hy:y=(j:Int)
     ·subst hy;rw [if_pos rfl] at HST;go_wp2;go_round
      case rel=>exact ⟨q+1,by omega,by go_num,by rw [HST.out];try go_num⟩
      case measure=>simp [intOf];omega
     ·rw [if_neg hy] at HST;have hyb:(y == (j:Int))=false:=by simpa using hy
      clear hy;go_wp2;go_round
      case rel=>exact ⟨q+1,by omega,by go_num,by rw [HST.out];try go_num⟩
      case measure=>simp [intOf];omega
    ·obtain rfl:q=L.length:=by omega
     have hsu:=HSU.out j;have hca:=HCA.out j;have hcb:=HCB.out j L.length;have hbd:=HBD.out j;rw [hca] at hcb ⊢;go_wp2;go_round
     case rel=>exact ⟨j+1,by omega,by go_num,by rw [hsu]⟩
     case measure=>simp [intOf];omega
  ·obtain rfl:j=m+1:=by omega
   rw [HMO.out];go_wp2;go_ret;exact ⟨rfl,bel⟩
end
section
variable {b:Bk} {vr vg vm vs vc:Value} {w:World}
end
section
variable {b:Bk} {vr vg vm vs vc:Value} {w:World}
theorem ask_no (hB:BookAt w b vr vg vm vs vc) (hN:∀ m∈b.ms,m.name.size<=1000000) (hK:KindsAt w) {t:Int} (ht:openAl b 0=t) (h0:t≠0) :
 Calls Tryz.prog 9 #[.agg #[vr,vg,vm,vs,vc]] w fun e w'=>e=.returned (.tuple #[.int .i64 0,.int .i64 0,.int .i64 t])/\Below w.heap.size w w':=by
 have HB:=Hh hB;have HN:=Hh hN;have HK:=Hh hK;have HT:=Hh ht;have HH0:=Hh h0;have hz3:(t != 0)=true:=by simpa using h0
 obtain ⟨rfl,rfl,⟨ma,mc,rfl,_,_⟩,⟨sa,sc,rfl,_,_⟩,ra,rc,rfl,_,_⟩:=id hB;clear hB hN hK ht
 go_enter Tryz.func9,Tryz.ntmps9
 go_wp2_with (go_at_call 41;(with_reducible refine (open_nothing_no (HB.out.below (bel)) HN.out (HK.out.below (bel)) (al:=0) (fun hk W hW=>nothing_any2 _ _ _ _ _ _) HT.out HH0.out).mono ?_);rintro e w3 ⟨rfl,hb3⟩;obtain ⟨hc3,hf3⟩:=bcell hb3;have hz3:=hb3.size;(try simp at hz3));exact bodyPost_ret (v:=.tuple #[.int .i64 0,.int .i64 0,.int .i64 t]) (by simp [results,Tryz.results9,go_sem, *]) rfl ⟨rfl,bel⟩
end
def askR (b:Bk):Int × Int:=if openAl b 0=0 then askK (pasts b) b.ss.length else (0,0)
section
variable {b:Bk} {vr vg vm vs vc:Value} {w:World}
theorem rAsk_no (hB:BookAt w b vr vg vm vs vc) (hN:∀ m∈b.ms,m.name.size<=1000000) {t:Int} (ht:askedAl b true=t) (h0:t≠0) :
 Calls Tryz.prog 10 #[.agg #[vr,vg,vm,vs,vc]] w fun e w'=>e=.returned (.tuple #[.int .i64 0,.int .i64 0,.int .i64 t])/\Below w.heap.size w w':=by
 have HB:=Hh hB;have HN:=Hh hN;have H0:=Hh ht;have HN0:=Hh h0;have hz3:(t != 0)=true:=by simpa using h0
 obtain ⟨rfl,rfl,⟨ma,mc,rfl,_,_⟩,⟨sa,sc,rfl,_,_⟩,ra,rc,rfl,_,_⟩:=id hB;clear hB hN ht h0
 go_enter Tryz.func10,Tryz.ntmps10
 go_wp2_with (go_at_call 44;(with_reducible refine (rAsked_no (HB.out.below (bel)) HN.out true H0.out HN0.out).mono ?_);rintro e w1 ⟨rfl,hb1⟩);exact bodyPost_ret (v:=.tuple #[.int .i64 0,.int .i64 0,.int .i64 t]) (by simp [results,Tryz.results10,go_sem, *]) rfl ⟨rfl,bel⟩
theorem rAsk_ok (hB:BookAt w b vr vg vm vs vc) (hN:∀ m∈b.ms,m.name.size<=1000000) (ht:askedAl b true=0) :
 Calls Tryz.prog 10 #[.agg #[vr,vg,vm,vs,vc]] w fun e w'=>e=.returned (.tuple #[.int .i64 (askK (pasts b) b.ss.length).1,.int .i64 (askK (pasts b) b.ss.length).2,.int .i64 0])/\Below w.heap.size w w':=by
 obtain ⟨hk,_,hp⟩:=askedAl_ok ht;have hO:=(bookAl_ok hk).1;have hle:=pasts_le hO;have hsl:=hO.sl;have HB:=Hh hB;have HN:=Hh hN;have HT:=Hh ht;have HK:=Hh hk;have HAB:=Hh (askK_bd (pasts b));have HAS:=Hh (askK_succ (pasts b));have HMB:=Hh (mostI_bd (pasts b));have HZ:=Hh (show (askK (pasts b) 0).1=-1/\(askK (pasts b) 0).2=((pasts b).length:Int) from ⟨rfl,rfl⟩);obtain ⟨rfl,rfl,⟨ma,mc,rfl,_,_⟩,⟨sa,sc,rfl,_,_⟩,ra,rc,rfl,_,_⟩:=id hB;clear hB hN ht hk hp hO
 go_enter Tryz.func10,Tryz.ntmps10
 go_wp2_with (go_at_call 44;(with_reducible refine (rAsked_ok (HB.out.below (bel)) HN.out HT.out).mono ?_);rintro e w1 ⟨pa,pc,pvs,rfl,hr1,hl1,hb1⟩;obtain ⟨hc1,hf1⟩:=bcell hb1;have hz1:w.heap.size < w1.heap.size:=(by have:=hb1.size;simp at this;omega));have hbw:Below w.heap.size w w1:=bel;have nn:∀ k u,(#[.int .i64 b.room,.int .i64 b.gap,.slice ma b.ms.length mc,.slice sa b.ss.length sc,.slice ra b.rs.length rc]:Array Value)[k]? = some u->w1.cell? ⟨w.heap.size,k,none⟩=some u:=fun k u hk=>by
  rw [hb1.cell (p:=⟨w.heap.size,k,none⟩) (by simp),World.cell?_alloc_at _ _ _ _ rfl];exact hk
 have n0:=nn 0 _ rfl;have n1:=nn 1 _ rfl;have n2:=nn 2 _ rfl;have n3:=nn 3 _ rfl;have n4:=nn 4 _ rfl;have HR1:=Hh hr1;have HL1:=Hh hl1;have HB1:=Hh (HB.out.below hbw);have HBW:=Hh hbw;have HPE:=Hh (rfl:pasts b=pasts b);clear nn hr1 hl1 hbw hb1 hc1 hf1;go_loopw [7,8,9] (fun t u j wr=>∃ k:Nat,k<=b.ss.length/\j=.int .i64 k/\t=.int .i64 (askK (pasts b) k).1/\u=.int .i64 (askK (pasts b) k).2/\Below w1.heap.size w1 wr) (fun _ _ j _=>b.ss.length - (intOf j).toNat)
 case atStart=>exact ⟨0,Nat.zero_le _,rfl,by rw [HZ.out.1],by rw [HZ.out.2],Below.refl _ _⟩
 case round =>
  obtain ⟨k,hk,rfl,rfl,rfl,hW⟩:=hrel;have hWs:=hW.size;have HW:=Hh hW;have m0:=(hW.cell (p:=⟨w.heap.size,0,none⟩) hz1).trans n0;have m1:=(hW.cell (p:=⟨w.heap.size,1,none⟩) hz1).trans n1;have m2:=(hW.cell (p:=⟨w.heap.size,2,none⟩) hz1).trans n2;have m3:=(hW.cell (p:=⟨w.heap.size,3,none⟩) hz1).trans n3;have m4:=(hW.cell (p:=⟨w.heap.size,4,none⟩) hz1).trans n4;have hzr:w.heap.size < wr.heap.size:=by omega
  by_cases hlt:k < b.ss.length
  ·have hkn:(k:Int) < (b.ss.length:Int):=by omega
   have hst:=HAS.out k;obtain ⟨a1,a2,a3,a4⟩:=HAB.out k;obtain ⟨x1,x2⟩:=HMB.out k;clear hW;unfold askStep at hst;by_cases hm:mostI (pasts b) k < (askK (pasts b) k).2
   ·rw [if_pos hm] at hst;have HST:=Hh hst;have hmd:decide (mostI (pasts b) k < (askK (pasts b) k).2)=true:=by simpa using hm
    clear hst hm;go_wp2_with (go_at_call 45;(with_reducible refine (rLeft_at (HB1.out.below (Below.next HW.out (bel))) HK.out (ownsRow_below HR1.out (Below.next HW.out (bel))) (HL1.out.below (Below.next HW.out (bel))) rfl k hlt rfl).mono ?_);rintro e w6 ⟨rfl,hb6⟩);go_roundw
    case rel=>exact ⟨k+1,by omega,by go_num,by rw [HST.out],by rw [HST.out],Below.next HW.out (bel)⟩
    case measure=>simp [intOf];omega
   ·rw [if_neg hm] at hst;have HST:=Hh hst;have hmd:decide (mostI (pasts b) k < (askK (pasts b) k).2)=false:=by simpa using hm
    clear hst hm;go_wp2_with (go_at_call 45;(with_reducible refine (rLeft_at (HB1.out.below (Below.next HW.out (bel))) HK.out (ownsRow_below HR1.out (Below.next HW.out (bel))) (HL1.out.below (Below.next HW.out (bel))) rfl k hlt rfl).mono ?_);rintro e w6 ⟨rfl,hb6⟩);go_roundw
    case rel=>exact ⟨k+1,by omega,by go_num,by rw [HST.out],by rw [HST.out],Below.next HW.out (bel)⟩
    case measure=>simp [intOf];omega
  ·obtain rfl:k=b.ss.length:=by omega
   clear hW;go_wp2;exact bodyPost_ret (v:=.tuple #[.int .i64 (askK (pasts b) b.ss.length).1,.int .i64 (askK (pasts b) b.ss.length).2,.int .i64 0]) (by simp [results,Tryz.results10,go_sem, *]) rfl ⟨rfl,Below.next HBW.out HW.out⟩
end
section
variable {b:Bk} {vr vg vm vs vc:Value} {w:World}
theorem ask_empty (hB:BookAt w b vr vg vm vs vc) (hN:∀ m∈b.ms,m.name.size<=1000000) (hK:KindsAt w) (ht:openAl b 0=0) (h0:b.ss.length=0) :
 Calls Tryz.prog 9 #[.agg #[vr,vg,vm,vs,vc]] w fun e w'=>e=.returned (.tuple #[.int .i64 (-1),.int .i64 ((pasts b).length:Nat),.int .i64 0])/\Below w.heap.size w w':=by
 obtain ⟨hk,_,hps⟩:=openAl_ok ht;have HB:=Hh hB;have HN:=Hh hN;have HK:=Hh hK;have HPS:=Hh hps;have HBA:=Hh hk;obtain ⟨rfl,rfl,⟨ma,mc,rfl,_,_⟩,⟨sa,sc,rfl,_,_⟩,ra,rc,rfl,_,_⟩:=id hB;rw [h0] at HB;clear hB hN hK ht hps hk;rw [h0];obtain ⟨i1,hi1,_⟩:=Option.map_eq_some_iff.1 resInfo;obtain ⟨i2,hi2,_⟩:=Option.map_eq_some_iff.1 boolInfo;have hmk1:∀ w:World,(Instr.makeChan 92 (.int .i64 0)).run Tryz.prog w=.ok (.chan (some w.heap.size)) (w.alloc newChan):=fun w=>Go.Conc.run_makeChan (P:=Tryz.prog) (w:=w) Tryz.underlying92 hi1 .i64 0 (by omega) (by simp);have hmk2:∀ w:World,(Instr.makeChan 93 (.int .i64 0)).run Tryz.prog w=.ok (.chan (some w.heap.size)) (w.alloc newChan):=fun w=>Go.Conc.run_makeChan (P:=Tryz.prog) (w:=w) Tryz.underlying93 hi2 .i64 0 (by omega) (by simp);have hms:∀ w:World,(Instr.makeSlice 35 (.int .i64 0) (.int .i64 0)).run Tryz.prog w=.ok (.slice (some ⟨w.heap.size,0,none⟩) 0 0) (w.alloc (.cells #[] 3)):=fun w=>by kernel_rfl
 clear hi1 hi2
 go_enter Tryz.func9,Tryz.ntmps9
 go_wp2_with (go_at_call 41;(with_reducible refine (open_nothing_ok (HB.out.below (bel)) HN.out (HK.out.below (bel)) (al:=0) (fun hk W hW=>nothing_any2 _ _ _ _ _ _) HBA.out rfl HPS.out).mono ?_);rintro e w3 ⟨la,rfl,hrow,hb3⟩;obtain ⟨la,lc,rfl⟩:=ownsRow_slice hrow;clear hrow;obtain ⟨hc3,hf3⟩:=bcell hb3;have hz3:=hb3.size;(try simp at hz3));go_loop [30] (fun v=>v=.int .i64 0) (fun _=>0)
 case atStart=>exact rfl
 case round =>
  subst hrel;go_wp2;go_loop [11] (fun v=>v=.int .i64 0) (fun _=>0)
  case atStart=>exact rfl
  case round =>
   subst hrel;go_wp2
   go_region
   go_wp2;go_loop [2,3,65] (fun t u v=>v=.int .i64 0/\t=.int .i64 (-1)/\u=.int .i64 ((pasts b).length:Nat)) (fun _ _ _=>0)
   case atStart=>exact ⟨rfl,rfl,rfl⟩
   case round =>
    obtain ⟨rfl,rfl,rfl⟩:=hrel;go_wp2;exact bodyPost_ret (v:=.tuple #[.int .i64 (-1),.int .i64 ((pasts b).length:Nat),.int .i64 0]) (by simp [results,Tryz.results9,go_sem, *]) rfl ⟨rfl,bel⟩
end
end
end Go.Proofs.YtojkofjcblmnjaaGreatDoor
