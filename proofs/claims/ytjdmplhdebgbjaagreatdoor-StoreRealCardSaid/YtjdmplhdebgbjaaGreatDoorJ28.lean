/- Leads to StoreReal of chapter 6: AK3. -/
import Derived.Test.YtjdmplhdebgbjaaGreatDoorJ27
import Derived.Conc.PipeGen
import Derived.Conc.WalkWords
set_option maxHeartbeats 200000
set_option maxRecDepth 100000
set_option linter.all false
namespace Go.Proofs.YtjdmplhdebgbjaaGreatDoor
open Go.RowKit Sp Mt Go.Conc
noncomputable def bot:Frame:={ (default:Frame) with fn:=Tryz.prog.funcs.size,defers:=[],mode:=.panicking [goexitEntry] }
def bX:Frame:={ (default:Frame) with fn:=60,kind:=.deferred }
def taskD (Bl Bi Bo Bd:Nat):Deferred:={ target:=.fn (.func 60) #[.pointer (some ⟨Bl,0,none⟩),.pointer (some ⟨Bi,0,none⟩),.pointer (some ⟨Bo,0,none⟩),.pointer (some ⟨Bd,0,none⟩)],args:=#[] }
noncomputable def xSend:Code:=match Tryz.f60.body with | some (.seq _ (.seq _ (.seq _ (.seq c _))))=>c | _=>.skip
noncomputable def xSign:Code:=match Tryz.f60.body with | some (.seq _ (.seq _ (.seq _ (.seq _ c))))=>c | _=>.skip
theorem served_at {b:Frame} {a:Act} {k:List Item} {cs:List Frame} {ops:Array Oper} {i:Nat} {rest:List Nat} {v:Value} :
 Go.Conc.served (G (b.at a (.inRegion ops (i::rest)::k)) cs) v=G (b.at (a.put ((ops[i]?).bind (·.dst)) v) (.inRegion ops rest::k)) cs:=by
 unfold Go.Conc.served;rw [← Frame.finish_at];rfl
section
variable {W:World} {cO cD Bl Bi Bo Bd:Nat} {la:Option Addr} {l:List (List Int)} {lc i:Nat}
theorem wk_mid1 {c c1 c2 c3 c4:Code} (hc:Tryz.f60.body=some (.seq c (.seq c1 (.seq (.seq c2 c3) c4)))) {own:Hold} {r4 N:Nat} {a:Act} (ha:a={ tmps:=#[.pointer (some ⟨Bl,0,none⟩),.pointer (some ⟨Bi,0,none⟩),.pointer (some ⟨Bo,0,none⟩),.pointer (some ⟨Bd,0,none⟩),.pointer (some ⟨r4,0,none⟩),U,U,U,.agg #[.int .i64 0,.int .i64 0,.int .i64 0,.int .i64 0,.int .i64 0,.int .i64 0],U,U,U,U,U,U,U,U,U,U,U,U,U,U,U,U,U,U,U,U,U,U,U,U,U,U],defers:=[] }) :
 WF Tryz.prog false (roOf W cO cD) N c1 (fun e a' o'=>e=.normal/\a'={ tmps:=#[.pointer (some ⟨Bl,0,none⟩),.pointer (some ⟨Bi,0,none⟩),.pointer (some ⟨Bo,0,none⟩),.pointer (some ⟨Bd,0,none⟩),.pointer (some ⟨r4,0,none⟩),.int .i64 0,U,U,.agg #[.int .i64 0,.int .i64 0,.int .i64 0,.int .i64 0,.int .i64 0,.int .i64 0],U,U,U,U,U,U,U,U,U,U,U,U,U,U,U,U,U,U,U,U,U,U,U,U,U,U],defers:=[] }/\o'=own) a own:=by
 subst ha;simp only [Tryz.f60,Option.some.injEq,Code.seq.injEq] at hc;obtain ⟨rfl,rfl,⟨rfl,rfl⟩,rfl⟩:=hc;refine wf_region (wr_hide fun Q1 hQ1=>?_);simp only [List.size_toArray,List.length_cons,List.length_nil,Nat.reduceAdd,Nat.zero_add,List.range,List.range.loop];refine wr_any rfl rfl (fun w hm=>by simp [go_sem]) (fun w hm K hK=>?_);go_simp;refine hK _ _ _ (.refl hm) (wr_nil (hQ1 _ _ ⟨rfl,rfl,rfl⟩))
theorem wk_mid2 (T:Task W cO cD Bl Bo Bd la l lc) {c c1 c2 c3 c4:Code} (hc:Tryz.f60.body=some (.seq c (.seq c1 (.seq (.seq c2 c3) c4)))) {own:Hold} {r4 N:Nat} {a:Act} (ha:a={ tmps:=#[.pointer (some ⟨Bl,0,none⟩),.pointer (some ⟨Bi,0,none⟩),.pointer (some ⟨Bo,0,none⟩),.pointer (some ⟨Bd,0,none⟩),.pointer (some ⟨r4,0,none⟩),.int .i64 0,U,U,.agg #[.int .i64 0,.int .i64 0,.int .i64 0,.int .i64 0,.int .i64 0,.int .i64 0],U,U,U,U,U,U,U,U,U,U,U,U,U,U,U,U,U,U,U,U,U,U,U,U,U,U],defers:=[] }) :
 WF Tryz.prog false (roOf W cO cD) N c2 (fun e a' o'=>e=.normal/\a'={ tmps:=#[.pointer (some ⟨Bl,0,none⟩),.pointer (some ⟨Bi,0,none⟩),.pointer (some ⟨Bo,0,none⟩),.pointer (some ⟨Bd,0,none⟩),.pointer (some ⟨r4,0,none⟩),.int .i64 0,U,U,.agg #[.int .i64 0,.int .i64 0,.int .i64 0,.int .i64 0,.int .i64 0,.int .i64 0],.slice la l.length lc,.int .i64 l.length,.int .i64 0,U,U,U,U,U,U,U,U,U,U,U,U,U,U,U,U,U,U,U,U,U,U,U],defers:=[] }/\o'=own) a own:=by
 subst ha;have hl0:=T.l0;have hlt:=lt_of_cell hl0;obtain ⟨n1,n2⟩:=T.lN;simp only at hlt;simp only [Tryz.f60,Option.some.injEq,Code.seq.injEq] at hc;obtain ⟨rfl,rfl,⟨rfl,rfl⟩,rfl⟩:=hc;refine wf_region (wr_hide fun Q1 hQ1=>?_);simp only [List.size_toArray,List.length_cons,List.length_nil,Nat.reduceAdd,Nat.zero_add,List.range,List.range.loop];refine wr_any rfl rfl (fun w hm=>?_) (fun w hm K hK=>?_)
 ·skip
  have c0:=(ro_cell (o:=0) hm hlt n1 n2).trans hl0;have ev:=fun (o:Nat)=>ev_ro (own:=own) (o:=o) (ro_key hlt n1 n2);simp [go_sem,c0,ev]
 have c0:=(ro_cell (o:=0) hm hlt n1 n2).trans hl0;have ev:=fun (o:Nat)=>ev_ro (own:=own) (o:=o) (ro_key hlt n1 n2);go_simp;refine hK _ _ _ (.refl hm) (?_);clear hK hm w K c0 ev;refine wr_any rfl rfl (fun w hm=>by simp [go_sem]) (fun w hm K hK=>?_);go_simp;refine hK _ _ _ (.refl hm) (?_);clear hK hm w K ;refine wr_any rfl rfl (fun w hm=>by simp [go_sem]) (fun w hm K hK=>?_);go_simp;refine hK _ _ _ (.refl hm) (wr_nil (hQ1 _ _ ⟨rfl,rfl,rfl⟩))
theorem quits (T:Array Value) (ops:Array Oper):QuitsIn Tryz.prog 4 (G (bX.at ⟨T,[]⟩ [.inRegion ops []]) [bot]):=by
 refine .inr ⟨rfl,_,fun w=>stepG_region_end,?_⟩;refine .inr ⟨rfl,_,fun w=>stepG_end,?_⟩;refine .inr ⟨rfl,G bot [],fun w=>?_,?_⟩
 ·simp [G,stepG,unwind,doReturn,results,Frame.at,bX,bot,Tryz.func60,Tryz.f60,seen,GStep.after,goexitEntry]
 refine .inr ⟨rfl,{ G bot [] with status:=.finished },fun w=>?_,rfl⟩;simp [G,stepG,unwind,bot,goexitEntry,Frame.catches];rfl
theorem wk_send (T:Task W cO cD Bl Bo Bd la l lc) {F:Farm} (hP:F.P=Tryz.prog) (hro:F.ro=roOf W cO cD) (hcO:F.cO=cO) (hcD:F.cD=cD) (hv:F.v i=.agg #[.int .i64 i,.int .i64 (mostI l i)]) (hzs:F.zs=.tuple #[]) {a:Act} {own:Hold} (h:WkZ W Bl Bi Bo Bd la l lc i a own) :
 Walk Tryz.prog false (roOf W cO cD) (S0 F i) 5 (G (bX.at a [.code xSend,.code xSign]) [bot]) own:=by
 obtain ⟨r4,u7,u12,u13,u14,u15,u16,u17,u18,u19,u20,u21,u22,u23,u24,u25,u26,u27,u28,u29,rfl,hi⟩:=h;have ho0:=T.o0;have hd0:=T.d0;have hlo:=lt_of_cell ho0;have hld:=lt_of_cell hd0;obtain ⟨n1,n2⟩:=T.oN;obtain ⟨n3,n4⟩:=T.dN;simp only at hlo hld;have hb:bX.kind≠.early:=by decide
 simp only [xSend,xSign,Tryz.f60];refine Walk.ctl (n:=4) (fun w=>stepG_region) ?_;simp only [List.size_toArray,List.length_cons,List.length_nil,Nat.reduceAdd,Nat.zero_add,List.range,List.range.loop];refine walk_any hb rfl rfl (fun w hm=>?_) (fun w hm K hK=>?_)
 ·skip
  have c0:=(ro_cell (o:=0) hm hlo n1 n2).trans ho0;have ev:=fun (o:Nat)=>ev_ro (own:=own) (o:=o) (ro_key hlo n1 n2);simp [go_sem,c0,ev]
 have c0:=(ro_cell (o:=0) hm hlo n1 n2).trans ho0;have ev:=fun (o:Nat)=>ev_ro (own:=own) (o:=o) (ro_key hlo n1 n2);go_simp;refine hK _ _ _ (.refl hm) (?_);clear hK hm w K c0 ev;refine walk_any hb rfl rfl (fun w hm=>?_) (fun w hm K hK=>?_)
 ·skip
  have ci:=fun (k:Nat)=>own_cell (o:=k) hm hi;have fci:=fun (k:Nat)=>own_frozen (o:=k) hm hi;have eci:=fun (o:Nat) (wr:Bool)=>ev_own (ro:=roOf W cO cD) (o:=o) (wr:=wr) (key_of hi);simp [go_sem,ci,fci,eci]
 have ci:=fun (k:Nat)=>own_cell (o:=k) hm hi;have fci:=fun (k:Nat)=>own_frozen (o:=k) hm hi;have eci:=fun (o:Nat) (wr:Bool)=>ev_own (ro:=roOf W cO cD) (o:=o) (wr:=wr) (key_of hi);go_simp;refine hK _ _ _ (.refl hm) (?_);clear hK hm w K ci fci eci;refine walk_any hb rfl rfl (fun w hm=>by simp [go_sem]) (fun w hm K hK=>?_);go_simp;refine hK _ _ _ (.refl hm) (?_);clear hK hm w K ;refine walk_any hb rfl rfl (fun w hm=>by simp [go_sem]) (fun w hm K hK=>?_);go_simp;refine hK _ _ _ (.refl hm) (?_);clear hK hm w K ;show S0 F i _ own;unfold S0 After0 S1 AtComm;rw [hP,hro,hcO,hcD,hv,hzs];refine ⟨⟨rfl,fun w hm=>?_⟩,?_⟩
 ·apply Exists.intro;refine ⟨stepG_comm (w':=w) rfl rfl hb ?_,?_⟩
  ·simp [go_sem,scase]
  ·simp [go_sem,listed,seen]
 rw [served_at]
 walk_nrm
 refine ⟨_,Walk.ctl (n:=1+1) (fun w=>stepG_region_end) (Walk.ctl (fun w=>stepG_region) ?_)⟩;simp only [List.size_toArray,List.length_cons,List.length_nil,Nat.reduceAdd,Nat.zero_add,List.range,List.range.loop];refine walk_any hb rfl rfl (fun w hm=>?_) (fun w hm K hK=>?_)
 ·skip
  have c0:=(ro_cell (o:=0) hm hld n3 n4).trans hd0;have ev:=fun (o:Nat)=>ev_ro (own:=own) (o:=o) (ro_key hld n3 n4);simp [go_sem,c0,ev]
 have c0:=(ro_cell (o:=0) hm hld n3 n4).trans hd0;have ev:=fun (o:Nat)=>ev_ro (own:=own) (o:=o) (ro_key hld n3 n4);go_simp;refine hK _ _ _ (.refl hm) (?_);clear hK hm w K c0 ev;refine ⟨⟨rfl,fun w hm=>?_⟩,?_⟩
 ·apply Exists.intro;refine ⟨stepG_comm (w':=w) rfl rfl hb ?_,?_⟩
  ·simp [go_sem,scase,sgn]
  ·simp [go_sem,listed,seen]
 unfold After1;rw [served_at,hP];exact ⟨4,quits _ _⟩
theorem born_step (w:World):stepG Tryz.prog false (born Tryz.prog (taskD Bl Bi Bo Bd)) w=.go (G (bX.at { tmps:=#[.pointer (some ⟨Bl,0,none⟩),.pointer (some ⟨Bi,0,none⟩),.pointer (some ⟨Bo,0,none⟩),.pointer (some ⟨Bd,0,none⟩),U,U,U,U,U,U,U,U,U,U,U,U,U,U,U,U,U,U,U,U,U,U,U,U,U,U,U,U,U,U,U],defers:=[] } [.code (Tryz.f60.body.getD .skip)]) [bot]) w #[]:=by
 simp [born,taskD,stepG,unwind,callDeferred,invoke,callFunc,Tryz.func60,Tryz.f60,seen,GStep.after,G,Frame.enter,Frame.at,bX,bot]
theorem wk_all (T:Task W cO cD Bl Bo Bd la l lc) (hx:∀ x∈l,∃ v:Nat,v<=5/\(pad x).getD i 0=(v:Int)) (h4:∀ x∈l,(pad x).length=4) (hi3:i < 4)
 {F:Farm} (hP:F.P=Tryz.prog) (hro:F.ro=roOf W cO cD) (hcO:F.cO=cO) (hcD:F.cD=cD) (hv:F.v i=.agg #[.int .i64 i,.int .i64 (mostI l i)]) (hzs:F.zs=.tuple #[]) {own:Hold} (hi:own Bi=some (.cells #[.int .i64 i] 3)) :
 ∃ k,Walk Tryz.prog false (roOf W cO cD) (S0 F i) k (born Tryz.prog (taskD Bl Bi Bo Bd)) own:=by
 have hb:bX.kind≠.early:=by decide
 obtain ⟨c,c1,c2,c3,hc⟩:∃ c c1 c2 c3,Tryz.f60.body=some (.seq c (.seq c1 (.seq (.seq c2 c3) (.seq xSend xSign)))):=⟨_,_,_,_,rfl⟩;have e5:∀ a o,WkZ W Bl Bi Bo Bd la l lc i a o->Walk Tryz.prog false (roOf W cO cD) (S0 F i) (5+1) (G (bX.at a [.code (.seq xSend xSign)]) [bot]) o:=fun a o h=>Walk.ctl (fun w=>stepG_seq) (wk_send T hP hro hcO hcD hv hzs h);have e4:∀ a o,(∃ r4,a={ tmps:=#[.pointer (some ⟨Bl,0,none⟩),.pointer (some ⟨Bi,0,none⟩),.pointer (some ⟨Bo,0,none⟩),.pointer (some ⟨Bd,0,none⟩),.pointer (some ⟨r4,0,none⟩),.int .i64 0,U,U,.agg #[.int .i64 0,.int .i64 0,.int .i64 0,.int .i64 0,.int .i64 0,.int .i64 0],.slice la l.length lc,.int .i64 l.length,.int .i64 0,U,U,U,U,U,U,U,U,U,U,U,U,U,U,U,U,U,U,U,U,U,U,U],defers:=[] }/\o r4=some (.cells (cntCells [] i) 113)/\o Bi=some (.cells #[.int .i64 i] 3))->Walk Tryz.prog false (roOf W cO cD) (S0 F i) (5+1+fuel 2000 c3) (G (bX.at a [.code c3,.code (.seq xSend xSign)]) [bot]) o :=
  fun a o ⟨r4,h1,h2,h3⟩=>walk_code hb (wk_loop T hc hx h4 hi3 h2 h3 h1) e5
 have e3:∀ a o,(∃ r4,a={ tmps:=#[.pointer (some ⟨Bl,0,none⟩),.pointer (some ⟨Bi,0,none⟩),.pointer (some ⟨Bo,0,none⟩),.pointer (some ⟨Bd,0,none⟩),.pointer (some ⟨r4,0,none⟩),.int .i64 0,U,U,.agg #[.int .i64 0,.int .i64 0,.int .i64 0,.int .i64 0,.int .i64 0,.int .i64 0],U,U,U,U,U,U,U,U,U,U,U,U,U,U,U,U,U,U,U,U,U,U,U,U,U,U],defers:=[] }/\o r4=some (.cells (cntCells [] i) 113)/\o Bi=some (.cells #[.int .i64 i] 3))->Walk Tryz.prog false (roOf W cO cD) (S0 F i) (5+1+fuel 2000 c3+fuel 2000 c2+1+1) (G (bX.at a [.code (.seq (.seq c2 c3) (.seq xSend xSign))]) [bot]) o :=
  fun a o ⟨r4,h1,h2,h3⟩=>Walk.ctl (fun w=>stepG_seq) (Walk.ctl (fun w=>stepG_seq) (walk_code hb (wf_mono (wk_mid2 T hc h1) fun e a' o' ⟨h5,h6,h7⟩=>⟨h5,⟨r4,h6,by rw [h7];exact h2,by rw [h7];exact h3⟩⟩) e4))
 have e2:∀ a o,(∃ r4,a={ tmps:=#[.pointer (some ⟨Bl,0,none⟩),.pointer (some ⟨Bi,0,none⟩),.pointer (some ⟨Bo,0,none⟩),.pointer (some ⟨Bd,0,none⟩),.pointer (some ⟨r4,0,none⟩),U,U,U,.agg #[.int .i64 0,.int .i64 0,.int .i64 0,.int .i64 0,.int .i64 0,.int .i64 0],U,U,U,U,U,U,U,U,U,U,U,U,U,U,U,U,U,U,U,U,U,U,U,U,U,U],defers:=[] }/\o r4=some (.cells (cntCells [] i) 113)/\o Bi=some (.cells #[.int .i64 i] 3))->Walk Tryz.prog false (roOf W cO cD) (S0 F i) (5+1+fuel 2000 c3+fuel 2000 c2+1+1+fuel 2000 c1+1) (G (bX.at a [.code (.seq c1 (.seq (.seq c2 c3) (.seq xSend xSign)))]) [bot]) o :=
  fun a o ⟨r4,h1,h2,h3⟩=>Walk.ctl (fun w=>stepG_seq) (walk_code hb (wf_mono (wk_mid1 hc h1) fun e a' o' ⟨h5,h6,h7⟩=>⟨h5,⟨r4,h6,by rw [h7];exact h2,by rw [h7];exact h3⟩⟩) e3)
 refine ⟨(5+1+fuel 2000 c3+fuel 2000 c2+1+1+fuel 2000 c1+1+fuel 2000 c+1)+1,.inr ⟨rfl,fun w hm=>⟨_,w,#[],own,born_step w,.idle hm,?_⟩⟩⟩;rw [hc];exact Walk.ctl (fun w=>stepG_seq) (walk_code hb (wk_first hc hi) e2)
end
end Go.Proofs.YtjdmplhdebgbjaaGreatDoor

