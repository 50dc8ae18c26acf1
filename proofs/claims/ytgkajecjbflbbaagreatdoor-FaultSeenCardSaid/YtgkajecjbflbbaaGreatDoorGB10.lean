/- the fault laws -/
import Derived.Conc.CompanyDraw
import Derived.Test.YtgkajecjbflbbaaGreatDoorGB09
set_option maxHeartbeats 400000
set_option maxRecDepth 100000
set_option linter.all false
namespace Go.Proofs.YtgkajecjbflbbaaGreatDoor
namespace Mt
open Go Go.Conc
theorem knl_mem {a:Act}:∀ {l:List (Nat × Value)},KnL a l↔∀ x∈l,a.tmps[x.1]? = some x.2
 | []=>⟨fun _=>by simp,fun _=>trivial⟩
 | y::l=>by
  constructor
  ·rintro ⟨h1,h2⟩ x hx;rcases List.mem_cons.1 hx with rfl | hx
   ·exact h1
   ·exact knl_mem.1 h2 x hx
  ·intro h;exact ⟨h y (by simp),knl_mem.2 fun x hx=>h x (by simp [hx])⟩
def lst (base:List (Nat × Value)) (ds:Nat->Nat) (V:Nat->Value) (N:Nat) (L:Array Bool):List (Nat × Value):=base ++ ((List.range N).filter fun i=>L.getD i false).map fun i=>(ds i,V i)
section
variable {base:List (Nat × Value)} {ds:Nat->Nat} {V:Nat->Value} {N n:Nat} {L:Array Bool} {a:Act}
theorem lst_get (q:Kn a n (lst base ds V N L)) {i:Nat} (hi:i < N) (h:L.getD i false=true):a.tmps[ds i]? = some (V i) :=
 knl_mem.1 q.kn (ds i,V i) (List.mem_append_right _ (List.mem_map.2 ⟨i,List.mem_filter.2 ⟨List.mem_range.2 hi,h⟩,rfl⟩))
theorem lst_base (q:Kn a n (lst base ds V N L)) {j:Nat} {v:Value} (h:(j,v)∈base):a.tmps[j]? = some v :=
 knl_mem.1 q.kn (j,v) (List.mem_append_left _ h)
theorem lst_step {i:Nat} (h1:∀ k,k < N->ds k=ds i->k=i) (h2:∀ x∈base,x.1≠ds i) (q:Kn a n ((ds i,V i)::(lst base ds V N L).filter fun x=>x.1 != ds i)):Kn a n (lst base ds V N (L.setIfInBounds i true)):=by
 refine ⟨q.sz,knl_mem.2 fun x hx=>?_⟩;have hq:=knl_mem.1 q.kn;rcases List.mem_append.1 hx with hx | hx
 ·exact hq x (List.mem_cons_of_mem _ (List.mem_filter.2 ⟨List.mem_append_left _ hx,by simpa using h2 x hx⟩))
 ·obtain ⟨k,hk,rfl⟩:=List.mem_map.1 hx;obtain ⟨hk1,hk2⟩:=List.mem_filter.1 hk;by_cases e:k=i
  ·subst e;exact hq _ (by simp)
  ·rw [getD_set_ne false (Ne.symm e)] at hk2;refine hq _ (List.mem_cons_of_mem _ (List.mem_filter.2 ⟨List.mem_append_right _ (List.mem_map.2 ⟨k,List.mem_filter.2 ⟨hk1,hk2⟩,rfl⟩),?_⟩));simp only [bne_iff_ne,ne_eq];exact fun h=>e (h1 k (List.mem_range.1 hk1) h)
theorem lst_none (q:Kn a n base):Kn a n (lst base ds V N (Array.replicate N false)):=by
 refine ⟨q.sz,knl_mem.2 fun x hx=>?_⟩;rcases List.mem_append.1 hx with hx | hx
 ·exact knl_mem.1 q.kn x hx
 ·obtain ⟨k,hk,rfl⟩:=List.mem_map.1 hx;obtain ⟨hk1,hk2⟩:=List.mem_filter.1 hk;have:=List.mem_range.1 hk1;simp [this] at hk2
end
def left (L:Array Bool):Nat->Nat
 | 0=>0
 | n+1=>left L n+if L.getD n true=false then 1 else 0
theorem left_same {L:Array Bool} {i:Nat}:∀ {n:Nat},n<=i->left (L.setIfInBounds i true) n=left L n
 | 0,_=>rfl
 | n+1,h=>by
  simp only [left];rw [left_same (by omega),getD_set_ne true (by omega)]
theorem left_set {L:Array Bool} {i:Nat} (hi:L.getD i true=false):∀ {n:Nat},i < n->left (L.setIfInBounds i true) n+1=left L n
 | n+1,h=>by
  simp only [left];by_cases e:i=n
  ·subst e;rw [left_same (Nat.le_refl _),hi];have:(L.setIfInBounds i true).getD i true=true:=by
    rcases Nat.lt_or_ge i L.size with h' | h'
    ·simp [h']
    ·simp [Array.getElem?_eq_none h']
   rw [this];simp
  ·have:=left_set hi (n:=n) (by omega);rw [getD_set_ne true e];omega
theorem left_zero {L:Array Bool}:∀ {n:Nat},left L n=0->∀ i,i < n->L.getD i true=true
 | n+1,h,i,hi=>by
  simp only [left] at h;by_cases e:i=n
  ·subst e
   cases hx:L.getD i true with
   | true=>rfl
   | false=>rw [hx] at h;simp at h
  ·exact left_zero (Nat.eq_zero_of_add_eq_zero_right h) i (by omega)
theorem left_le {L:Array Bool}:∀ {n:Nat},left L n<=n
 | 0=>Nat.le_refl _
 | n+1=>by
  simp only [left];have:=left_le (L:=L) (n:=n);split <;> omega
def lowB (md:Region.Mode) (ops:Array Oper) (rk:Nat->Nat):Bool:=(List.range ops.size).all fun k=>match ops[k]? with
 | some ok=>ok.after.all fun e=>!(Region.binds md e) || (decide (rk e.on < rk k) && decide (e.on < ops.size))
 | none=>true
theorem all_done {md:Region.Mode} {ops:Array Oper} {L:Array Bool} {rk:Nat->Nat} (hl:lowB md ops rk=true) (hs:L.size=ops.size) (h:Region.ready md ops L=[]):∀ i,i < ops.size->L.getD i true=true:=by
 have key:∀ r i,rk i < r->i < ops.size->L.getD i true=true:=by
  intro r
  induction r with
  | zero=>intro i h;omega
  | succ r ih =>
  intro i hr hi
  cases hx:L.getD i true with
  | true=>rfl
  | false =>
   have:i∈Region.ready md ops L:=by
    rw [mem_ready];refine ⟨hx,ops[i],by simp [hi],fun e he hb=>?_⟩;unfold lowB at hl;rw [List.all_eq_true] at hl;have h2:=hl i (List.mem_range.2 hi);rw [Array.getElem?_eq_getElem hi] at h2;simp only at h2;rw [Array.all_eq_true'] at h2;have h3:=h2 e he;rw [hb] at h3;simp at h3;have h4:=ih e.on (by omega) h3.2;have h5:e.on < L.size:=by omega
    simpa [h5] using h4
   rw [h] at this;cases this
 exact fun i hi=>key (rk i+1) i (by omega) hi
section
variable {P:Program} {main:Bool} {ro:Hold} {E:World->Prop} {Stop:Goroutine->Hold->Prop} {b:Frame} {k:List Item} {cs:List Frame} {ops:Array Oper}
theorem go_walk {md:Region.Mode} {rk:Nat->Nat} (hl:lowB md ops rk=true) (Inv:Array Bool->Act->Hold->Prop) (K M:Nat)
 (step:∀ i o L a own rest M,ops[i]? = some o->(∀ e∈o.after,Region.binds md e=true->L.getD e.on false=true)->Inv L a own ->
   (∀ a1 own1,Inv (L.setIfInBounds i true) a1 own1->WN P main ro E Stop own1 M (G (b.at a1 (.inRegion ops rest::k)) cs))->WN P main ro E Stop own (M+K) (G (b.at a (.inRegion ops (i::rest)::k)) cs))
 (fin:∀ L a own,L.size=ops.size->(∀ i,i < ops.size->L.getD i true=true)->Inv L a own->WN P main ro E Stop own M (G (b.at a (.inRegion ops []::k)) cs)) :
 ∀ (fuel t:Nat) (L:Array Bool) (a:Act) (own:Hold),left L ops.size<=fuel->L.size=ops.size->Inv L a own->WN P main ro E Stop own (M+fuel * K) (G (b.at a (.inRegion ops (Region.linearise.go md ops fuel t L [])::k)) cs):=by
 intro fuel
 induction fuel with
 | zero =>
  intro t L a own h0 hs hi;have:Region.linearise.go md ops 0 t L []=[]:=by simp [Region.linearise.go]
  rw [this];exact Walk.mono (fin L a own hs (left_zero (by omega)) hi) (by omega)
 | succ fuel ih =>
  intro t L a own h0 hs hi;simp only [Region.linearise.go]
  change WN P main ro E Stop own (M+(fuel+1) * K) (G (b.at a (.inRegion ops (match (Region.ready md ops L)[t % (Region.ready md ops L).length]? with
   | some i=>Region.linearise.go md ops fuel (t / (Region.ready md ops L).length) (L.setIfInBounds i true) [i]
   | none=>[].reverse)::k)) cs)
  cases hx:(Region.ready md ops L)[t % (Region.ready md ops L).length]? with
  | none =>
   have hnil:Region.ready md ops L=[]:=by
    cases hr:Region.ready md ops L with
    | nil=>rfl
    | cons x xs =>
     rw [hr] at hx;have hlt:t % (x::xs).length < (x::xs).length:=Nat.mod_lt _ (by simp);simp at hx;simp at hlt;omega
   exact Walk.mono (fin L a own hs (all_done hl hs hnil) hi) (by omega)
  | some i =>
   simp only [];rw [linearise_go_acc,List.reverse_singleton,List.singleton_append];have hr:=List.mem_of_getElem? hx;obtain ⟨hun,o,ho,hall⟩:=mem_ready.1 hr;have hlt:i < ops.size:=(Array.getElem?_eq_some_iff.1 ho).1;rw [show M+(fuel+1) * K=(M+fuel * K)+K by rw [Nat.succ_mul];omega];refine step i o L a own _ _ ho hall hi fun a1 own1 h1=>ih _ _ a1 own1 ?_ (by simp [hs]) h1;have:=left_set hun hlt;omega
def needs (ops:Array Oper) (i d:Nat):Bool:=match ops[i]? with
 | some o=>o.after.any fun e=>(e.on == d) && (match e.ground with | .textOnly _=>false | .gcOnly _=>false | _=>true)
 | none=>false
theorem needs_spec {ops:Array Oper} {md:Region.Mode} {i d:Nat} {o:Oper} {L:Array Bool} (ho:ops[i]? = some o) (h:∀ e∈o.after,Region.binds md e=true->L.getD e.on false=true) (hn:needs ops i d=true):L.getD d false=true:=by
 unfold needs at hn;rw [ho] at hn;simp only [Array.any_eq_true'] at hn;obtain ⟨e,he,h2⟩:=hn;simp only [Bool.and_eq_true,beq_iff_eq] at h2;rw [<- h2.1];refine h e he ?_;unfold Region.binds;split <;> simp_all
theorem nw_draw {id:Nat} (rk:Region.Mode->Nat->Nat) (hl:∀ md,lowB md ops (rk md)=true) (Inv:Array Bool->Act->Hold->Prop) (K M:Nat) {a:Act} {own:Hold}
 (h0:Inv (Array.replicate ops.size false) a own)
 (step:∀ i L a own rest M,i < ops.size->(∀ d,needs ops i d=true->L.getD d false=true)->Inv L a own ->
   (∀ a1 own1,Inv (L.setIfInBounds i true) a1 own1->WN P main ro E Stop own1 M (G (b.at a1 (.inRegion ops rest::k)) cs))->WN P main ro E Stop own (M+K) (G (b.at a (.inRegion ops (i::rest)::k)) cs))
 (fin:∀ L a own,L.size=ops.size->(∀ i,i < ops.size->L.getD i true=true)->Inv L a own->WN P main ro E Stop own M (G (b.at a (.inRegion ops []::k)) cs)) :
 WN P main ro E Stop own (M+ops.size * K+1) (G (b.at a (.code (.region id ops true)::k)) cs):=by
 refine .inr ⟨rfl,fun w hm hE=>⟨_,_,#[],own,stepG_region_draw,⟨⟨hm.mine,hm.shared,hm.apart⟩,Nat.le_refl _,fun _ _ _=>rfl,⟨rfl,rfl,rfl⟩,fun _ h=>.inl h,by simp⟩,⟨_,_,rfl⟩,?_⟩⟩;have:∃ md t,Region.schedule (P.follows .mixedOrders) ops (w.tape w.drawn (.order b.fn id))=Region.linearise.go md ops ops.size t (Array.replicate ops.size false) []:=by
  unfold Region.schedule Region.linearise;split
  ·exact ⟨_,_,rfl⟩
  ·exact ⟨_,_,rfl⟩
 obtain ⟨md,t,ht⟩:=this;rw [ht];exact go_walk (hl md) Inv K M (fun i o L a own rest M ho h=>step i L a own rest M (Array.getElem?_eq_some_iff.1 ho).1 fun d=>needs_spec ho h) fin ops.size _ _ a own left_le (by simp) h0
end
end Mt
namespace Mt
open Go Go.Conc Mob Go.RowKit
structure Hist (ro:Hold) (Bl lb lo lc Ln:Nat) (S:Nat->Nat->Nat):Prop where
 box:HCell ro Bl 0 (.slice (some ⟨lb,lo,none⟩) Ln lc)
 at_:∀ k,k < Ln->∀ j,j < 6->HCell ro lb (lo+k * 6+j) (.int .i64 (S k j:Int))
 st:∀ k j,S k j < 3
 few:Ln<=1000
structure TestAt (ro:Hold) (Bx tb to tc Tn t pb po pc L:Nat) (p:Nat->Nat):Prop where
 box:HCell ro Bx 2 (.slice (some ⟨tb,to,none⟩) Tn tc)
 lt:t < Tn
 few:Tn<=6
 at_:HCell ro tb (to+t * 2) (.slice (some ⟨pb,po,none⟩) L pc)
 path:HPath ro pb po L p
def cnt (S:Nat->Nat->Nat) (p:Nat->Nat) (L:Nat):Nat->Nat
 | 0=>0
 | k+1=>cnt S p L k+if (plays (S k) p L 0).1 then 1 else 0
theorem cnt_le (S:Nat->Nat->Nat) (p:Nat->Nat) (L:Nat):∀ k,cnt S p L k<=k
 | 0=>Nat.le_refl _
 | k+1=>by
  have:=cnt_le S p L k;simp only [cnt];split <;> omega
theorem Hold.set_set (H:Hold) (r:Nat) (a b:Obj):(H.set r a).set r b=H.set r b:=by
 funext x;unfold Hold.set;split <;> rfl
theorem Stp.put6 {ro own:Hold} {w:World} (hm:Meets w own ro) {r:Nat} {z0 z1 z2 z3 z4 z5 v0 v1 v2 v3 v4 v5:Value} {t:TypeId} {f:Nat × Nat} (h:own r=some (.cells #[z0,z1,z2,z3,z4,z5] t f)) :
 Stp ro own (own.set r (.cells #[v0,v1,v2,v3,v4,v5] t f)) w ((((((w.setCell ⟨r,0,none⟩ v0).setCell ⟨r,1,none⟩ v1).setCell ⟨r,2,none⟩ v2).setCell ⟨r,3,none⟩ v3).setCell ⟨r,4,none⟩ v4).setCell ⟨r,5,none⟩ v5):=by
 have h1:=(((((Stp.refl hm).set (k:=0) h v0).set (k:=1) (Hold.set_same _ _ _) v1).set (k:=2) (Hold.set_same _ _ _) v2).set (k:=3) (Hold.set_same _ _ _) v3).set (k:=4) (Hold.set_same _ _ _) v4;have h2:=h1.set (k:=5) (Hold.set_same _ _ _) v5;simpa [Hold.set_set] using h2
theorem nw_turn {P:Program} {main:Bool} {ro own own':Hold} {E:World->Prop} {Stop:Goroutine->Hold->Prop} {m:Nat} {b:Frame} {a:Act} {k:List Item} {cs:List Frame} {ops:Array Oper} {i:Nat} {rest:List Nat} {o:Oper} (hb:b.kind≠.early) (ho:ops[i]? = some o) (hd:o.dst=none) (hw:Region.wanted o (yielded ops a.tmps)=true)
 (hx:∀ w,Meets w own ro->E w->∃ w',(execOp a.eval o).run P w=.ok .skip w'/\Stp ro own own' w w'/\∀ e∈(execOp a.eval o).events P w #[],EvOwn own ro e)
 (h:WN P main ro E Stop own' m (G (b.at a (.inRegion ops rest::k)) cs)):WN P main ro E Stop own (m+1) (G (b.at a (.inRegion ops (i::rest)::k)) cs):=by
 refine .inr ⟨rfl,fun w hm hE=>?_⟩;obtain ⟨w',h1,st,h3⟩:=hx w hm hE;refine ⟨_,w',listed P b.fn a o w,own',?_,⟨st.holds,st.size,st.kept,st.rest,st.keys,fun e he=>(h3 e (seen_mem he)).mono st.keeps⟩,⟨_,_,rfl⟩,h⟩;rw [stepG_none ho hw hb h1,hd];rfl
noncomputable def asLB:Code:=match Tryz.f89.body with | some (.seq _ (.seq _ (.seq (.seq _ (.block _ (.loop c))) _)))=>c | _=>.skip
noncomputable def asREST:Code:=match Tryz.f89.body with | some (.seq _ (.seq _ (.seq _ c)))=>c | _=>.skip
noncomputable def asR5:Array Oper:=match asLB with | .seq _ (.seq _ (.seq (.block _ (.seq _ (.seq (.region _ o _) _))) _))=>o | _=>#[]
def dsA:Nat->Nat:=fun k=>[18,19,20,21,22,23,24,25,26,17,27,28,9,10].getD k 0
section
variable {ro:Hold} {E:World->Prop} {Stop:Goroutine->Hold->Prop} {m:Nat} {cs:List Frame} {Wg Mu Bl Bx Bi Bm lb lo lc Ln tb to tc Tn t pb po pc L:Nat} {p:Nat->Nat} {S:Nat->Nat->Nat}
variable {b:Frame} (hb:b.kind≠.early)
include hb
theorem as_play (H:Hist ro Bl lb lo lc Ln S) (T:TestAt ro Bx tb to tc Tn t pb po pc L p) (hA:HActs ro) {own:Hold} {k r:Nat} {kk:List Item} {ds:List Deferred} (hi:HCell own Bi 0 (.int .i64 (t:Int))) (hr:∀ j,j < 6->HCell own r j (.int .i64 (S k j:Int)))
 {a0:Act} (df0:a0.defers=ds) (q0:Kn a0 42 [(0,.pointer (some ⟨Wg,0,none⟩)),(1,.pointer (some ⟨Bl,0,none⟩)),(2,.pointer (some ⟨Bx,0,none⟩)),(3,.pointer (some ⟨Bi,0,none⟩)),(4,.pointer (some ⟨Mu,0,none⟩)),(5,.pointer (some ⟨Bm,0,none⟩)),(6,.int .i64 (cnt S p L k:Int)),(8,.pointer (some ⟨r,0,none⟩)),(11,.slice (some ⟨lb,lo,none⟩) Ln lc),(12,.int .i64 (Ln:Int)),(13,.int .i64 (k:Int))])
 (hC:∀ own',Ext own own'->∀ a1:Act,a1.defers=ds->Kn a1 42 [(0,.pointer (some ⟨Wg,0,none⟩)),(1,.pointer (some ⟨Bl,0,none⟩)),(2,.pointer (some ⟨Bx,0,none⟩)),(3,.pointer (some ⟨Bi,0,none⟩)),(4,.pointer (some ⟨Mu,0,none⟩)),(5,.pointer (some ⟨Bm,0,none⟩)),(6,.int .i64 (cnt S p L k:Int)),(11,.slice (some ⟨lb,lo,none⟩) Ln lc),(12,.int .i64 (Ln:Int)),(13,.int .i64 (k:Int)),(9,.bool (plays (S k) p L 0).1)]->WN Tryz.prog false ro E Stop own' m (G (b.at a1 (.inRegion asR5 []::kk)) cs)) :
 WN Tryz.prog false ro E Stop own (m+14 * 700+1) (G (b.at a0 (.code (.region 5 asR5 true)::kk)) cs):=by
 simp only [asR5,asLB,Tryz.f89] at hC ⊢;have hpl:=T.path;have h0:=hr 0 (by omega);have h1:=hr 1 (by omega);have h2:=hr 2 (by omega);have h3:=hr 3 (by omega);have h4:=hr 4 (by omega);have h5:=hr 5 (by omega);have htn:(t:Int) < (Tn:Int):=by have:=T.lt;omega
 have hs:=H.st k;have hbx:=T.box;have hat:=T.at_;refine nw_draw (fun md k=>if md=.gc then (if k=11 then 12 else if k=12 then 11 else k) else k) (by intro md;cases md <;> kernel_rfl) (fun L1 a1 own1=>Ext own own1/\a1.defers=ds/\Kn a1 42 (lst [(0,.pointer (some ⟨Wg,0,none⟩)),(1,.pointer (some ⟨Bl,0,none⟩)),(2,.pointer (some ⟨Bx,0,none⟩)),(3,.pointer (some ⟨Bi,0,none⟩)),(4,.pointer (some ⟨Mu,0,none⟩)),(5,.pointer (some ⟨Bm,0,none⟩)),(6,.int .i64 (cnt S p L k:Int)),(8,.pointer (some ⟨r,0,none⟩)),(11,.slice (some ⟨lb,lo,none⟩) Ln lc),(12,.int .i64 (Ln:Int)),(13,.int .i64 (k:Int))] dsA (fun k'=>[.agg #[.int .i64 (S k 0:Int),.int .i64 (S k 1:Int),.int .i64 (S k 2:Int),.int .i64 (S k 3:Int),.int .i64 (S k 4:Int),.int .i64 (S k 5:Int)],.pointer (some ⟨Bx,0,none⟩),.pointer (some ⟨Bx,2,none⟩),.slice (some ⟨tb,to,none⟩) Tn tc,.int .i64 (t:Int),.pointer (some ⟨tb,to+t * 2,none⟩),.pointer (some ⟨tb,to+t * 2,none⟩),.slice (some ⟨pb,po,none⟩) L pc,.tuple #[.bool (plays (S k) p L 0).1,.int .i64 ((plays (S k) p L 0).2:Int)],.tuple #[.bool (plays (S k) p L 0).1,.int .i64 ((plays (S k) p L 0).2:Int)],.bool (plays (S k) p L 0).1,.int .i64 ((plays (S k) p L 0).2:Int),.bool (plays (S k) p L 0).1,.int .i64 ((plays (S k) p L 0).2:Int)].getD k' undef) 14 L1)) 700 m ⟨.refl _,df0,lst_none q0⟩ (fun i L1 a own1 rest M hlt hall ⟨he,hd,q⟩ hk=>?_) (fun L1 a own1 hsz1 hall ⟨he,hd,q⟩=>?_)
 rotate_left
 ·have f9:=lst_get (i:=12) q (by decide) (by have:=hall 12 (by decide);have h2:12 < L1.size:=by rw [hsz1];decide
                                             simpa [h2] using this)
  exact hC own1 he a hd ⟨q.sz,lst_base (j:=0) q (by simp),lst_base (j:=1) q (by simp),lst_base (j:=2) q (by simp),lst_base (j:=3) q (by simp),lst_base (j:=4) q (by simp),lst_base (j:=5) q (by simp),lst_base (j:=6) q (by simp),lst_base (j:=11) q (by simp),lst_base (j:=12) q (by simp),lst_base (j:=13) q (by simp),f9,trivial⟩
 replace hlt:i < 14:=hlt;have hi1:=hi.ext he;obtain rfl | rfl | rfl | rfl | rfl | rfl | rfl | rfl | rfl | rfl | rfl | rfl | rfl | rfl:i=0\/i=1\/i=2\/i=3\/i=4\/i=5\/i=6\/i=7\/i=8\/i=9\/i=10\/i=11\/i=12\/i=13:=by omega
 ·skip
  have f8:a.tmps[8]? = some (.pointer (some ⟨r,0,none⟩)):=lst_base q (by simp);refine Walk.mono (n:=M+1) (nw_read (.agg #[.int .i64 (S k 0:Int),.int .i64 (S k 1:Int),.int .i64 (S k 2:Int),.int .i64 (S k 3:Int),.int .i64 (S k 4:Int),.int .i64 (S k 5:Int)]) hb rfl rfl rfl (fun w hm hE=>?_) q (by decide) fun a1 en qn=>hk a1 own1 ⟨he,en.trans hd,lst_step (i:=0) (by decide) (by simp [dsA]) qn⟩) (by omega);have c0:=own_at hm (h0.ext he);have c1:=own_at hm (h1.ext he);have c2:=own_at hm (h2.ext he);have c3:=own_at hm (h3.ext he);have c4:=own_at hm (h4.ext he);have c5:=own_at hm (h5.ext he);have e:=fun k wr=>own_ev (ro:=ro) (h0.ext he) k wr;exact ⟨by simp [go_sem,f8,c0,c1,c2,c3,c4,c5],by simp [go_sem,f8,c0,c1,c2,c3,c4,c5,e]⟩
 ·skip
  have f2:a.tmps[2]? = some (.pointer (some ⟨Bx,0,none⟩)):=lst_base q (by simp);exact Walk.mono (n:=M+1) (nw_op closedN (.pointer (some ⟨Bx,0,none⟩)) hb rfl rfl rfl (fun w hE=>⟨by simp [go_sem,f2],by unfold listed;simp [go_sem,f2,seen_none]⟩) q (by decide) fun a1 en qn=>hk a1 own1 ⟨he,en.trans hd,lst_step (i:=1) (by decide) (by simp [dsA]) qn⟩) (by omega)
 ·skip
  have f19:a.tmps[19]? = some (.pointer (some ⟨Bx,0,none⟩)):=lst_get (i:=1) q (by decide) (hall 1 (by kernel_rfl));exact Walk.mono (n:=M+1) (nw_op closedN (.pointer (some ⟨Bx,2,none⟩)) hb rfl rfl rfl (fun w hE=>⟨by simp [go_sem,f19],by unfold listed;simp [go_sem,f19,seen_none]⟩) q (by decide) fun a1 en qn=>hk a1 own1 ⟨he,en.trans hd,lst_step (i:=2) (by decide) (by simp [dsA]) qn⟩) (by omega)
 ·skip
  have f20:a.tmps[20]? = some (.pointer (some ⟨Bx,2,none⟩)):=lst_get (i:=2) q (by decide) (hall 2 (by kernel_rfl));refine Walk.mono (n:=M+1) (nw_read (.slice (some ⟨tb,to,none⟩) Tn tc) hb rfl rfl rfl (fun w hm hE=>?_) q (by decide) fun a1 en qn=>hk a1 own1 ⟨he,en.trans hd,lst_step (i:=3) (by decide) (by simp [dsA]) qn⟩) (by omega);have c:=ro_at hm hbx;have e:=fun k=>ro_ev (own:=own1) hbx k;exact ⟨by simp [go_sem,f20,c],by simp [go_sem,f20,c,e]⟩
 ·skip
  have f3:a.tmps[3]? = some (.pointer (some ⟨Bi,0,none⟩)):=lst_base q (by simp);refine Walk.mono (n:=M+1) (nw_read (.int .i64 (t:Int)) hb rfl rfl rfl (fun w hm hE=>?_) q (by decide) fun a1 en qn=>hk a1 own1 ⟨he,en.trans hd,lst_step (i:=4) (by decide) (by simp [dsA]) qn⟩) (by omega);have c:=own_at hm hi1;have e:=fun k wr=>own_ev (ro:=ro) hi1 k wr;exact ⟨by simp [go_sem,f3,c],by simp [go_sem,f3,c,e]⟩
 ·skip
  have f21:a.tmps[21]? = some (.slice (some ⟨tb,to,none⟩) Tn tc):=lst_get (i:=3) q (by decide) (hall 3 (by kernel_rfl));have f22:a.tmps[22]? = some (.int .i64 (t:Int)):=lst_get (i:=4) q (by decide) (hall 4 (by kernel_rfl));refine Walk.mono (n:=M+1) (nw_read (.pointer (some ⟨tb,to+t * 2,none⟩)) hb rfl rfl rfl (fun w hm hE=>?_) q (by decide) fun a1 en qn=>hk a1 own1 ⟨he,en.trans hd,lst_step (i:=5) (by decide) (by simp [dsA]) qn⟩) (by omega);exact ⟨by simp [go_sem,f21,f22,htn,T.lt],by simp [go_sem,f21,f22,htn,T.lt]⟩
 ·skip
  have f23:a.tmps[23]? = some (.pointer (some ⟨tb,to+t * 2,none⟩)):=lst_get (i:=5) q (by decide) (hall 5 (by kernel_rfl));exact Walk.mono (n:=M+1) (nw_op closedN (.pointer (some ⟨tb,to+t * 2,none⟩)) hb rfl rfl rfl (fun w hE=>⟨by simp [go_sem,f23],by unfold listed;simp [go_sem,f23,seen_none]⟩) q (by decide) fun a1 en qn=>hk a1 own1 ⟨he,en.trans hd,lst_step (i:=6) (by decide) (by simp [dsA]) qn⟩) (by omega)
 ·skip
  have f24:a.tmps[24]? = some (.pointer (some ⟨tb,to+t * 2,none⟩)):=lst_get (i:=6) q (by decide) (hall 6 (by kernel_rfl));refine Walk.mono (n:=M+1) (nw_read (.slice (some ⟨pb,po,none⟩) L pc) hb rfl rfl rfl (fun w hm hE=>?_) q (by decide) fun a1 en qn=>hk a1 own1 ⟨he,en.trans hd,lst_step (i:=7) (by decide) (by simp [dsA]) qn⟩) (by omega);have c:=ro_at hm hat;have e:=fun k=>ro_ev (own:=own1) hat k;exact ⟨by simp [go_sem,f24,c],by simp [go_sem,f24,c,e]⟩
 ·skip
  have f18:a.tmps[18]? = some (.agg #[.int .i64 (S k 0:Int),.int .i64 (S k 1:Int),.int .i64 (S k 2:Int),.int .i64 (S k 3:Int),.int .i64 (S k 4:Int),.int .i64 (S k 5:Int)]):=lst_get (i:=0) q (by decide) (hall 0 (by kernel_rfl));have f25:a.tmps[25]? = some (.slice (some ⟨pb,po,none⟩) L pc):=lst_get (i:=7) q (by decide) (hall 7 (by kernel_rfl));refine Walk.mono (n:=M+600+1) (nw_call (c:=Tryz.f69.body.getD .skip) closedN hb rfl rfl rfl Tryz.func69 (by kernel_rfl) rfl fun a2 df2 et=>?_) (by omega);have q2:Kn a2 33 [(0,.agg #[.int .i64 (S k 0:Int),.int .i64 (S k 1:Int),.int .i64 (S k 2:Int),.int .i64 (S k 3:Int),.int .i64 (S k 4:Int),.int .i64 (S k 5:Int)]),(1,.slice (some ⟨pb,po,none⟩) L pc)]:=⟨by rw [et];simp [Tryz.f69],by simp [KnL,et,Act.eval,f18,f25]⟩;refine play_go (s:=S k) rfl q (by decide) hpl hA hs (fun own2 hx a1 en qn=>hk a1 own2 ⟨he.trans hx,en.trans hd,lst_step (i:=8) (by decide) (by simp [dsA]) qn⟩) df2 q2
 ·skip
  have f26:a.tmps[26]? = some (.tuple #[.bool (plays (S k) p L 0).1,.int .i64 ((plays (S k) p L 0).2:Int)]):=lst_get (i:=8) q (by decide) (hall 8 (by kernel_rfl));exact Walk.mono (n:=M+1) (nw_op closedN (.tuple #[.bool (plays (S k) p L 0).1,.int .i64 ((plays (S k) p L 0).2:Int)]) hb rfl rfl rfl (fun w hE=>⟨by simp [go_sem,f26],by unfold listed;simp [go_sem,f26,seen_none]⟩) q (by decide) fun a1 en qn=>hk a1 own1 ⟨he,en.trans hd,lst_step (i:=9) (by decide) (by simp [dsA]) qn⟩) (by omega)
 ·skip
  have f17:a.tmps[17]? = some (.tuple #[.bool (plays (S k) p L 0).1,.int .i64 ((plays (S k) p L 0).2:Int)]):=lst_get (i:=9) q (by decide) (hall 9 (by kernel_rfl));exact Walk.mono (n:=M+1) (nw_op closedN (.bool (plays (S k) p L 0).1) hb rfl rfl rfl (fun w hE=>⟨by simp [go_sem,f17],by unfold listed;simp [go_sem,f17,seen_none]⟩) q (by decide) fun a1 en qn=>hk a1 own1 ⟨he,en.trans hd,lst_step (i:=10) (by decide) (by simp [dsA]) qn⟩) (by omega)
 ·skip
  have f17:a.tmps[17]? = some (.tuple #[.bool (plays (S k) p L 0).1,.int .i64 ((plays (S k) p L 0).2:Int)]):=lst_get (i:=9) q (by decide) (hall 9 (by kernel_rfl));exact Walk.mono (n:=M+1) (nw_op closedN (.int .i64 ((plays (S k) p L 0).2:Int)) hb rfl rfl rfl (fun w hE=>⟨by simp [go_sem,f17],by unfold listed;simp [go_sem,f17,seen_none]⟩) q (by decide) fun a1 en qn=>hk a1 own1 ⟨he,en.trans hd,lst_step (i:=11) (by decide) (by simp [dsA]) qn⟩) (by omega)
 ·skip
  have f27:a.tmps[27]? = some (.bool (plays (S k) p L 0).1):=lst_get (i:=10) q (by decide) (hall 10 (by kernel_rfl));exact Walk.mono (n:=M+1) (nw_op closedN (.bool (plays (S k) p L 0).1) hb rfl rfl rfl (fun w hE=>⟨by simp [go_sem,f27],by unfold listed;simp [go_sem,f27,seen_none]⟩) q (by decide) fun a1 en qn=>hk a1 own1 ⟨he,en.trans hd,lst_step (i:=12) (by decide) (by simp [dsA]) qn⟩) (by omega)
 ·skip
  have f28:a.tmps[28]? = some (.int .i64 ((plays (S k) p L 0).2:Int)):=lst_get (i:=11) q (by decide) (hall 11 (by kernel_rfl));exact Walk.mono (n:=M+1) (nw_op closedN (.int .i64 ((plays (S k) p L 0).2:Int)) hb rfl rfl rfl (fun w hE=>⟨by simp [go_sem,f28],by unfold listed;simp [go_sem,f28,seen_none]⟩) q (by decide) fun a1 en qn=>hk a1 own1 ⟨he,en.trans hd,lst_step (i:=13) (by decide) (by simp [dsA]) qn⟩) (by omega)
end
end Mt
end Go.Proofs.YtgkajecjbflbbaaGreatDoor
