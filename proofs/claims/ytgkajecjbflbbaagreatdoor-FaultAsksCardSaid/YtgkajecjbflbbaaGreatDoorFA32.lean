/- FaultAsks -/
import Derived.Test.YtgkajecjbflbbaaGreatDoorFA29
import Derived.Test.YtgkajecjbflbbaaGreatDoorRows
import Derived.Deep.Slices
import Derived.LaidMore
import Derived.Conc.HoldsTime
import Derived.SevenTiedAt
set_option maxHeartbeats 200000
set_option maxRecDepth 100000
set_option linter.all false
namespace Go.Proofs.YtgkajecjbflbbaaGreatDoor
namespace Mt
open Go Go.RowKit Go.Conc
theorem cellsStr:Tryz.prog.cellsOf 9=1:=by kernel_rfl
theorem cellsInt:Tryz.prog.cellsOf 3=1:=by kernel_rfl
theorem cellsBool:Tryz.prog.cellsOf 4=1:=by kernel_rfl
theorem cellsClm:Tryz.prog.cellsOf 29=1:=by kernel_rfl
theorem cellsBook:Tryz.prog.cellsOf 25=3:=by kernel_rfl
theorem cellsDev:Tryz.prog.cellsOf 74=4:=by kernel_rfl
theorem cellsTst:Tryz.prog.cellsOf 61=2:=by kernel_rfl
theorem cellsInts:Tryz.prog.cellsOf 26=1:=by kernel_rfl
theorem cellsDevs:Tryz.prog.cellsOf 22=1:=by kernel_rfl
theorem cellsTsts:Tryz.prog.cellsOf 23=1:=by kernel_rfl
theorem addr_plus (b o k:Nat):Addr.add ⟨b,o,none⟩ k=⟨b,o+k,none⟩:=by
 unfold Addr.add;split
 ·rename_i h;subst h;rfl
 ·rfl
theorem spot_of {w:World} {base:Nat} {a:Addr} {k q:Nat} {cs:List Value} (h:w.cells? base (a.add (0 * q)) k=some cs) (hk:0 < k):a.spot=none:=by
 obtain ⟨_,hl,hc⟩:=World.cells?_some h;have:=hc 0 hk;rw [List.getElem?_eq_getElem (by omega)] at this;simpa [Addr.add] using World.cell?_spot this
section
variable {H:Type} {enc:TypeId × Value->H} {w:World} {base:Nat} {sp:Nat->Bool} {held:Bool} {n:Nat} {cs:List Value} {y:DataW H × List MemPlace}
theorem open_dev (h:DataW.trod enc Tryz.prog w base sp held n 74 cs=some y):∃ m:Dev,cs=[.string m.name,.bool m.held,.bool m.blind,.int .i64 m.time]:=by
 obtain ⟨xs,k,_,_,hl,hx,hf⟩:=DataW.trod_struct Tryz.underlying74 h;rw [cellsDev] at hl;have hx3:xs.length=4:=hx;have h0:=hf 0 _ rfl;have h1:=hf 1 _ rfl;have h2:=hf 2 _ rfl;have h3:=hf 3 _ rfl
 match cs,hl,xs,hx3 with
 | [a,b,c,d],_,[x0,x1,x2,x3],_ =>
  simp [cellsStr,cellsInt,cellsBool] at h0 h1 h2 h3;obtain ⟨s,e0,_⟩:=DataW.trod_string Tryz.underlying9 h0;obtain ⟨g,e1,_⟩:=DataW.trod_bool Tryz.underlying4 h1;obtain ⟨d,e2,_⟩:=DataW.trod_bool Tryz.underlying4 h2;obtain ⟨t,e3,_⟩:=DataW.trod_int Tryz.underlying3 h3;cases e0;cases e1;cases e2;cases e3;exact ⟨⟨s,g,d,t⟩,rfl⟩
theorem open_ints {T E:TypeId} {f:Nat} (hT:Tryz.prog.underlying T=some (.slice E)) (hE:Tryz.prog.underlying E=some (.int .i64)) (hc:Tryz.prog.cellsOf E=1) (h:DataW.trod enc Tryz.prog w base (fun _=>true) held f T cs=some y):∃ a l c,cs=[.slice a (List.length l) c]/\List.length l<=c/\IntsAt w a l:=by
 rcases Deep.open_slice1 hT hc h with ⟨hcs,_⟩ | ⟨a,len,cap,m,k,V,D,Pl,hcs,hb,hl,hm,hmm,_,hx⟩
 ·exact ⟨none,[],0,hcs,Nat.le_refl _,fun i hi=>absurd hi (Nat.not_lt_zero _)⟩
 ·simp only [if_true] at hmm;obtain ⟨M,hM⟩:=Deep.choose_lt (α:=Int) (p:=fun i m=>w.cell? (a.add i)=some (.int .i64 m)) (fun i hi=>by
   obtain ⟨h1,h2⟩:=hx i (show i < m from hi)
   obtain ⟨q,e,_⟩:=DataW.trod_int hE h2
   exact ⟨q,h1.trans (congrArg some (List.cons.inj e).1)⟩)
  refine ⟨some a,(List.range len).map M,cap,by rw [hcs];simp,by simpa using hl,fun i hi=>?_⟩;have hi2:i < len:=by simpa using hi
  have hs:a.spot=none:=by simpa [Addr.add] using World.cell?_spot (hM 0 (by omega))
  obtain ⟨b,o,spot⟩:=a;simp only at hs;subst hs;have c0:=hM i (by omega);simp only [addr_plus] at c0;refine ⟨b,o,rfl,lt_of_cell c0,?_⟩;simp only [List.getElem_map,List.getElem_range];exact c0
theorem open_nums (h:DataW.trod enc Tryz.prog w base (fun _=>true) held n 26 cs=some y):∃ a l c,cs=[.slice a (List.length l) c]/\List.length l<=c/\IntsAt w a l:=open_ints Tryz.underlying26 Tryz.underlying3 cellsInt h
instance : Inhabited Dev := ⟨⟨ByteArray.empty, false, false, 0⟩⟩
instance : Inhabited Tst := ⟨⟨[], 0⟩⟩
theorem open_devs (h:DataW.trod enc Tryz.prog w base (fun _=>true) held n 22 cs=some y):∃ a l c,cs=[.slice a (List.length l) c]/\DevsAt w a l:=by
 rcases Deep.open_slice Tryz.underlying22 h with ⟨hcs,_⟩ | ⟨a,len,cap,m,k,D,Pl,hcs,hb,hl,hm,hmm,_,hx⟩
 ·exact ⟨none,[],0,hcs,fun i hi=>absurd hi (Nat.not_lt_zero _)⟩
 ·rw [cellsDev] at hx;simp only [if_true] at hmm;obtain ⟨M,hM⟩:=Deep.choose_lt (α:=Dev) (p:=fun i m=>w.cells? base (a.add (i * 4)) 4=some [.string m.name,.bool m.held,.bool m.blind,.int .i64 m.time]) (fun i hi=>by
   obtain ⟨cs',h1,h2⟩:=hx i (show i < m from hi)
   obtain ⟨q,rfl⟩:=open_dev h2
   exact ⟨q,h1⟩)
  refine ⟨some a,(List.range len).map M,cap,by rw [hcs];simp,fun i hi=>?_⟩;have hi2:i < len:=by simpa using hi
  have hs:=spot_of (hM 0 (by omega)) (by decide);obtain ⟨b,o,spot⟩:=a;simp only at hs;subst hs;obtain ⟨_,_,hc⟩:=World.cells?_some (hM i (by omega));have c0:=hc 0 (by decide);have c1:=hc 1 (by decide);have c2:=hc 2 (by decide);have c3:=hc 3 (by decide);simp only [addr_plus,Nat.add_zero,List.getElem?_cons_zero,List.getElem?_cons_succ] at c0 c1 c2 c3;refine ⟨b,o,rfl,lt_of_cell c0,?_,?_,?_,?_⟩ <;> simp only [List.getElem_map,List.getElem_range] <;> assumption
theorem open_tsts (h:DataW.trod enc Tryz.prog w base (fun _=>true) held n 23 cs=some y):∃ a l c,cs=[.slice a (List.length l) c]/\TestsRaw w a l:=by
 rcases Deep.open_slice Tryz.underlying23 h with ⟨hcs,_⟩ | ⟨a,len,cap,m,k,D,Pl,hcs,hb,hl,hm,hmm,_,hx⟩
 ·exact ⟨none,[],0,hcs,fun i hi=>absurd hi (Nat.not_lt_zero _)⟩
 ·rw [cellsTst] at hx;simp only [if_true] at hmm;obtain ⟨M,hM⟩:=Deep.choose_lt (α:=Tst) (p:=fun i m=>∃ pa pc,w.cells? base (a.add (i * 2)) 2=some [.slice pa m.path.length pc,.int .i64 m.seen]/\m.path.length<=pc/\IntsAt w pa m.path) (fun i hi=>by
   obtain ⟨cs',h1,h2⟩:=hx i (show i < m from hi)
   obtain ⟨xs,k',_,_,hl2,hx2,hf⟩:=DataW.trod_struct Tryz.underlying61 h2
   rw [cellsTst] at hl2
   have hx3:xs.length=2:=hx2
   have h0:=hf 0 _ rfl
   have h3:=hf 1 _ rfl
   match cs',hl2,xs,hx3 with
   | [u,v],_,[x0,x1],_ =>
    simp [cellsInts,cellsClm] at h0 h3
    obtain ⟨pa,q,pc,e,hq,hp⟩:=open_nums h0
    obtain ⟨s,e1,_⟩:=DataW.trod_int Tryz.underlying29 h3
    cases e;cases e1
    exact ⟨⟨q,s⟩,pa,pc,h1,hq,hp⟩)
  refine ⟨some a,(List.range len).map M,cap,by rw [hcs];simp,fun i hi=>?_⟩;have hi2:i < len:=by simpa using hi
  obtain ⟨_,_,hM0,_⟩:=hM 0 (by omega);have hs:=spot_of hM0 (by decide);obtain ⟨b,o,spot⟩:=a;simp only at hs;subst hs;obtain ⟨pa,pc,hMi,hq,hp⟩:=hM i (by omega);obtain ⟨_,_,hc⟩:=World.cells?_some hMi;have c0:=hc 0 (by decide);have c1:=hc 1 (by decide);simp only [addr_plus,Nat.add_zero,List.getElem?_cons_zero,List.getElem?_cons_succ] at c0 c1;refine ⟨b,o,rfl,lt_of_cell c0,pa,pc,?_,?_,?_,?_⟩ <;> simp only [List.getElem_map,List.getElem_range] <;> assumption
theorem open_fbook {v:Value} (h:DataW.trod enc Tryz.prog w base (fun _=>true) held n 25 v.cells.toList=some y):∃ b vm vd vt,v=.agg #[vm,vd,vt]/\FRaw w b vm vd vt:=by
 obtain ⟨xs,k,_,_,hl,hx,hf⟩:=DataW.trod_struct Tryz.underlying25 h;rw [cellsBook] at hl;obtain ⟨c,rfl⟩:∃ c,v=.agg c:=by
  cases v <;> first | exact ⟨_,rfl⟩ | (simp [Value.cells] at hl)
 simp only [Value.cells] at hl hf;have hx3:xs.length=3:=hx;have h0:=hf 0 _ rfl;have h1:=hf 1 _ rfl;have h2:=hf 2 _ rfl;obtain ⟨c⟩:=c;simp only at hl h0 h1 h2
 match c,hl,xs,hx3 with
 | [a0,a1,a2],_,[x0,x1,x2],_ =>
  simp [cellsInt,cellsDevs,cellsTsts] at h0 h1 h2;obtain ⟨q0,e0,_⟩:=DataW.trod_int Tryz.underlying3 h0;obtain ⟨da,dl,dc,e1,hd⟩:=open_devs h1;obtain ⟨ta,tl,tc,e2,ht⟩:=open_tsts h2;cases e0;cases e1;cases e2;exact ⟨⟨q0,dl,tl⟩,_,_,_,rfl,rfl,⟨_,_,rfl,hd⟩,_,_,rfl,ht⟩
end
theorem trod_array {H:Type} {enc:TypeId × Value->H} {P:Program} {w:World} {base:Nat} {spare:Nat->Bool} {held:Bool} {fuel n:Nat} {t e:TypeId} {cs:List Value} {x:DataW H × List MemPlace} (ht:P.underlying t=some (.array n e)) (h:DataW.trod enc P w base spare held fuel t cs=some x) :
 ∃ (xs:List (DataW H × List MemPlace)) (m:Nat),x=(.agg (xs.map (·.1)),xs.flatMap (·.2))/\cs.length=P.cellsOf t/\xs.length=n /\
  ∀ (i:Nat),i < n->DataW.trod enc P w base spare held m e ((cs.drop (i * P.cellsOf e)).take (P.cellsOf e))=xs[i]? := by
 cases fuel with
 | zero=>simp [DataW.trod] at h
 | succ m =>
  unfold DataW.trod at h;rw [ht] at h;split at h <;> simp_all;obtain ⟨hl,xs,hp,hd⟩:=h;exact ⟨xs,hd.symm,by simpa using mapM_some_length hp,m,fun i hi=>mapM_some_get hp i i (List.getElem?_range hi)⟩
theorem cellsAct:Tryz.prog.cellsOf 165=1:=by kernel_rfl
theorem cellsFun:Tryz.prog.cellsOf 163=1:=by kernel_rfl
theorem act_row {w:World} {sp:Nat->Bool} {n:Nat} {cs:List Value} {b1:UInt8} {r1:List UInt8} {f1:FuncId} {q:List MemPlace}
 (h:DataW.trod (funcToken Tryz.prog) Tryz.prog w 0 sp true n 165 cs=some (.agg [.held (b1::r1)],q))
 (h1:((List.range Tryz.prog.funcs.size).filter fun f=>(Tryz.prog.funcs[f]?).any (·.name.toUTF8.data.toList == b1::r1))=[f1]):cs=[.func (.func f1) #[] #[]]:=by
 obtain ⟨xs,k,_,he,hl,hx,hf⟩:=DataW.trod_struct Tryz.underlying165 h;rw [cellsAct] at hl;have hx3:xs.length=1:=hx;have g0:=hf 0 _ rfl
 match cs,hl,xs,hx3 with
 | [a0],_,[⟨x0,p0⟩],_ =>
  simp only [List.map_cons,List.map_nil,Prod.mk.injEq,DataW.agg.injEq,List.cons.injEq,and_true] at he;obtain ⟨e0,_⟩:=he;subst e0;simp [cellsFun] at g0;have c3:=func_of_trod Tryz.underlying163 h1 g0;subst c3;rfl
theorem gActs:Tryz.prog.globalNamed "baudot/fault.acts"=some 0:=by kernel_rfl
theorem tActs:(Tryz.prog.globals[0]?).map (·.type)=some 166:=by kernel_rfl
theorem acts_of_laid {W:World} (h:laidMetH Tryz.prog [("baudot/fault.acts",Rows.laid_baudot_fault_acts)] W):ActsAt W:=by
 obtain ⟨g,t,cs,fuel,p,hg,ht,hv,hd⟩:=h.funcs (List.mem_singleton.2 rfl);obtain rfl:=Option.some.inj (gActs.symm.trans hg);obtain rfl:=Option.some.inj (tActs.symm.trans ht);obtain ⟨xs,m,he,_,hx,hel⟩:=trod_array Tryz.underlying166 hd;have hcell:∀ i,W.cell? ⟨0,i,none⟩=cs.toList[i]? := fun i=>by
  rw [World.var?_cell hg hv i];simp
 rw [cellsAct] at hel;have e0:=hel 0 (by decide);have e1:=hel 1 (by decide);have e2:=hel 2 (by decide)
 match xs,hx with
 | [⟨x0,p0⟩,⟨x1,p1⟩,⟨x2,p2⟩],_ =>
  have hes:[x0,x1,x2]=_:=(DataW.agg.inj (congrArg Prod.fst he)).symm;simp only [List.getElem?_cons_zero,List.getElem?_cons_succ] at e0 e1 e2;injection hes with h0 hes;injection hes with h1 hes;injection hes with h2 hes;subst h0 h1 h2;have c0:=act_row (f1:=200+0) e0 (by kernel_rfl);have c1:=act_row (f1:=200+1) e1 (by kernel_rfl);have c2:=act_row (f1:=200+2) e2 (by kernel_rfl);have one:∀ {l:List Value} {k:Nat} {a:Value},(l.drop k).take 1=[a]->l[k]? = some a:=fun {l k a} h=>by
   have:((l.drop k).take 1)[0]? = some a:=by rw [h];rfl
   rw [List.getElem?_take,if_pos (by decide),List.getElem?_drop] at this;exact this
  have z0:=one c0;have z1:=one c1;have z2:=one c2;refine ⟨lt_of_cell ((hcell 0).trans z0),fun i hi=>?_⟩
  match i,hi with
  | 0,_=>exact (hcell _).trans z0
  | 1,_=>exact (hcell _).trans z1
  | 2,_=>exact (hcell _).trans z2
  | i+3,h=>omega
end Mt
namespace Mt
open Go Go.ChangeShapes Go.WideShapes Go.ChangeAt Go.RowKit Go.Conc
theorem ownNone:ownKnob Tryz.prog.godebug=none:=by kernel_rfl
theorem laidOutAll:laidOutB Tryz.prog=true:=by kernel_rfl
theorem door_met (os:Os) (args:Array Value):laidMetH Tryz.prog [("baudot/fault.acts",Rows.laid_baudot_fault_acts)] ((World.doorLaid Tryz.prog 20 os).forCall (fun _ _=>0) ⟨#[],args,[]⟩).memory :=
 laidMetH_of_parts3 (fuel:=8) (laidMet_of_run' 8 (by kernel_rfl) (by kernel_rfl)) (by kernel_rfl) (by kernel_rfl)
theorem arg_stays {H:Type} {enc:TypeId × Value->H} {t:TypeId} (hr:Tryz.prog.readableRec t=true) (hrow:t < Tryz.prog.types.size) {W W':World} {v:Value} {d:DataW H} {ps:List MemPlace}
 (h:DataW.Trod enc Tryz.prog W 0 (fun _=>true) true t v d ps) (ho:Old W W') (hlt:∀ x∈ps,x.block < W.heap.size) :
 DataW.Trod enc Tryz.prog W' 0 (fun b=>decide (b < W.heap.size)) true t v d ps :=
 DataW.Trod.of_heap (w:=W'.on W.tape 0) (by rfl) (Below.trod laidOutAll hr hrow h ho.below hlt)
theorem kept_old {W W':World} (ho:Old W W') (may:MemPlace->Prop):W.keptBut W' may:=ho.below.frame may
theorem Stays.view {D:Nat->Prop} {W w v:World} (hv:View D w v) (hD:∀ r,D r->W.heap.size<=r) (ho:Stays W v):Stays W w :=
 ⟨hv.output.symm.trans ho.output,hv.size ▸ ho.size,fun k hk=>(hv.live k fun d=>absurd (hD k d) (by omega)).symm.trans (ho.block k hk),hv.os ▸ ho.os⟩
theorem witness_calm {H:Type} {enc:TypeId × Value->H} {C:Checked} {os:Os} {f:FuncId} {fn:Func} {s:ChangeSpec} {conds:List PathCond} {apart:Bool} {X:World->Array Value->Prop} (w0:World) (args:Array Value) (fuel:Nat) (hos:w0.os=os)
 (hsh:(w0.forCall (fun _ _=>0) ⟨#[],args,[]⟩).Shaped C.prog)
 (hok:Input.okWideB C.prog (w0.forCall (fun _ _=>0) ⟨#[],args,[]⟩) f ⟨#[],args,[]⟩=true)
 (hpre:s.preB enc C.prog fn conds apart (w0.forCall (fun _ _=>0) ⟨#[],args,[]⟩).memory args fuel=true)
 (hsz:s.sizedB enc C.prog fn apart (w0.forCall (fun _ _=>0) ⟨#[],args,[]⟩).memory args fuel=true)
 (hx:X (w0.forCall (fun _ _=>0) ⟨#[],args,[]⟩).memory args) :
 ∃ (w:World) (tape:Tape) (i:Input),w.os=os/\(w.forCall tape i).Shaped C.prog/\i.vars=[]/\Input.okWide C.prog (w.forCall tape i) .any w.heap.size f i /\
  ((s.pre enc C.prog fn conds apart (w.forCall tape i).memory i.args/\X (w.forCall tape i).memory i.args)/\sizedMet enc C.prog fn (OpenSpec.ofChange s) apart (w.forCall tape i).memory i.args)/\({ calm:=true }:Assume).holds C.prog (lone (Frame.enter C.prog f i.args .normal) [] (w.forCall tape i)) :=
 ⟨w0,fun _ _=>0,⟨#[],args,[]⟩,hos,hsh,(Input.okWide_of_okWideB (base:=0) hok).1,(Input.okWide_of_okWideB hok).2,⟨⟨ChangeSpec.pre_of_preB hpre,hx⟩,sizedMet_of_sizedB hsz⟩,by
   simp only [Assume.holds]
   exact ⟨by simp,fun _ _ _ _=>rfl,by simp,by simp,by simp⟩⟩
end Mt
end Go.Proofs.YtgkajecjbflbbaaGreatDoor
