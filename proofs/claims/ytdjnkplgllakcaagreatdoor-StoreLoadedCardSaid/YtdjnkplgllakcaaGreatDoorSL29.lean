/- StoreLoaded -/
import Derived.Test.YtdjnkplgllakcaaGreatDoorSL28
set_option maxHeartbeats 4000000
set_option maxRecDepth 100000
set_option linter.all false
namespace Go.Proofs.YtdjnkplgllakcaaGreatDoor
section
open Go.RowKit Go.Maps Sp
section
variable {w:World}
theorem less_at {a b c d:Nat} (hb:0 < b) (hd:0 < d) (hab:a<=1000000000/\b<=1000000000/\c<=1000000000/\d<=1000000000) {v:Bool} (hv:overN (c,d) (a,b)=v) (w:World) :
 Calls Tryz.prog 15 #[.agg #[.int .i64 a,.int .i64 b],.agg #[.int .i64 c,.int .i64 d]] w fun e w'=>e=.returned (.bool v)/\Below w.heap.size w w':=by
 have HV:=Hh hv;clear hv
 go_enter Tryz.func15,Tryz.ntmps15
 go_wp2;obtain ⟨W0,hW0⟩:∃ W0,W0=(w.alloc (.cells #[.int .i64 a,.int .i64 b] 45)).alloc (.cells #[.int .i64 c,.int .i64 d] 45):=⟨_,rfl⟩;rw [<- hW0];have hb0:Below w.heap.size w W0:=by rw [hW0];(exact bel)
 have hs0:w.heap.size+1 < W0.heap.size:=by rw [hW0];simp
 have y0:W0.cell? ⟨w.heap.size,0,none⟩=some (.int .i64 a):=by rw [hW0,World.cell?_alloc_past _ _ _ (by simp),World.cell?_alloc_at _ _ _ _ rfl];rfl
 have y1:W0.cell? ⟨w.heap.size,1,none⟩=some (.int .i64 b):=by rw [hW0,World.cell?_alloc_past _ _ _ (by simp),World.cell?_alloc_at _ _ _ _ rfl];rfl
 have y2:W0.cell? ⟨w.heap.size+1,0,none⟩=some (.int .i64 c):=by rw [hW0,World.cell?_alloc_at _ _ _ _ (by simp)];rfl
 have y3:W0.cell? ⟨w.heap.size+1,1,none⟩=some (.int .i64 d):=by rw [hW0,World.cell?_alloc_at _ _ _ _ (by simp)];rfl
 have z:∀ k,W0.frozen? ⟨w.heap.size,k,none⟩=false:=fun k=>by rw [hW0,World.frozen?_alloc_past _ _ _ (by simp),World.frozen?_alloc_at _ _ _ _ rfl]
 have z':∀ k,W0.frozen? ⟨w.heap.size+1,k,none⟩=false:=fun k=>by rw [hW0,World.frozen?_alloc_at _ _ _ _ (by simp)]
 have z0:=z 0;have z1:=z 1;have z2:=z' 0;have z3:=z' 1;have H0:=Hh (⟨y0,y1,y2,y3,z0,z1,z2,z3⟩:_/\_/\_/\_/\_/\_/\_/\_);have HB0:=Hh hb0;clear hW0 hb0 z z' y0 y1 y2 y3 z0 z1 z2 z3;go_loopw [] (fun wr=>∃ a' b' c' d':Nat,0 < b'/\0 < d'/\a'<=1000000000/\b'<=1000000000/\c'<=1000000000/\d'<=1000000000/\Hid (overN (c',d') (a',b')=v)/\wr.cell? ⟨w.heap.size,0,none⟩=some (.int .i64 a')/\wr.cell? ⟨w.heap.size,1,none⟩=some (.int .i64 b')/\wr.cell? ⟨w.heap.size+1,0,none⟩=some (.int .i64 c')/\wr.cell? ⟨w.heap.size+1,1,none⟩=some (.int .i64 d')/\wr.frozen? ⟨w.heap.size,0,none⟩=false/\wr.frozen? ⟨w.heap.size,1,none⟩=false/\wr.frozen? ⟨w.heap.size+1,0,none⟩=false/\wr.frozen? ⟨w.heap.size+1,1,none⟩=false/\w.heap.size+1 < wr.heap.size/\Below w.heap.size w wr) (fun wr=>cellNat wr ⟨w.heap.size,1,none⟩+cellNat wr ⟨w.heap.size+1,1,none⟩)
 case atStart=>exact ⟨a,b,c,d,hb,hd,hab.1,hab.2.1,hab.2.2.1,hab.2.2.2,HV,H0.out.1,H0.out.2.1,H0.out.2.2.1,H0.out.2.2.2.1,H0.out.2.2.2.2.1,H0.out.2.2.2.2.2.1,H0.out.2.2.2.2.2.2.1,H0.out.2.2.2.2.2.2.2,hs0,HB0.out⟩
 case round =>
  obtain ⟨a,b,c,d,hb,hd,ha9,hb9,hc9,hd9,HR,c0,c1,c2,c3,f0,f1,f2,f3,hsr,hW⟩:=hrel;have eb:=eqz hb;have ed:=eqz hd;have eb2:b≠0:=by omega
  have ed2:d≠0:=by omega
  have q1:wrap64 ((a:Int) / (b:Int))=((a / b:Nat):Int):=quoN (by omega);have q2:wrap64 ((c:Int) / (d:Int))=((c / d:Nat):Int):=quoN (by omega);have hsr2:w.heap.size < wr.heap.size:=by omega
  have HW:=Hh hW;have CN:=Hh (show cellNat wr ⟨w.heap.size,1,none⟩+cellNat wr ⟨w.heap.size+1,1,none⟩=b+d by rw [cellNat_eq c1,cellNat_eq c3]);clear hW;have hbX0:True:=trivial;go_wp2;go_quiet (fail);obtain ⟨X,hX⟩:∃ X,wr.drewN nq=X:=⟨_,rfl⟩;rw [hX];have hbX:Below wr.heap.size wr X:=by rw [<- hX];(exact bel)
  have c0:=(hbX.cell (p:=⟨w.heap.size,0,none⟩) hsr2).trans c0;have c1:=(hbX.cell (p:=⟨w.heap.size,1,none⟩) hsr2).trans c1;have c2:=(hbX.cell (p:=⟨w.heap.size+1,0,none⟩) hsr).trans c2;have c3:=(hbX.cell (p:=⟨w.heap.size+1,1,none⟩) hsr).trans c3;have f0:=(hbX.frozen (p:=⟨w.heap.size,0,none⟩) hsr2).trans f0;have f1:=(hbX.frozen (p:=⟨w.heap.size,1,none⟩) hsr2).trans f1;have f2:=(hbX.frozen (p:=⟨w.heap.size+1,0,none⟩) hsr).trans f2;have f3:=(hbX.frozen (p:=⟨w.heap.size+1,1,none⟩) hsr).trans f3;have hsX:=hbX.size;have hx1:w.heap.size+1 < X.heap.size:=by omega
  have hx2:w.heap.size < X.heap.size:=by omega
  have HW:=Hh (Below.next HW.out hbX);clear hX hbX;go_wp2;go_quiet (fail);obtain ⟨Y,hY⟩:∃ Y,X.drewN nq=Y:=⟨_,rfl⟩;rw [hY];have hbX:Below X.heap.size X Y:=by rw [<- hY];(exact bel)
  have c0:=(hbX.cell (p:=⟨w.heap.size,0,none⟩) hx2).trans c0;have c1:=(hbX.cell (p:=⟨w.heap.size,1,none⟩) hx2).trans c1;have c2:=(hbX.cell (p:=⟨w.heap.size+1,0,none⟩) hx1).trans c2;have c3:=(hbX.cell (p:=⟨w.heap.size+1,1,none⟩) hx1).trans c3;have f0:=(hbX.frozen (p:=⟨w.heap.size,0,none⟩) hx2).trans f0;have f1:=(hbX.frozen (p:=⟨w.heap.size,1,none⟩) hx2).trans f1;have f2:=(hbX.frozen (p:=⟨w.heap.size+1,0,none⟩) hx1).trans f2;have f3:=(hbX.frozen (p:=⟨w.heap.size+1,1,none⟩) hx1).trans f3;have hsY0:=hbX.size;have hsY:w.heap.size+1 < Y.heap.size:=by omega
  have hsY2:w.heap.size < Y.heap.size:=by omega
  have HY:=Hh (Below.next HW.out hbX);clear hY hbX;obtain ⟨r,hr⟩:∃ r:Nat,a % b=r:=⟨_,rfl⟩;obtain ⟨s,hs⟩:∃ s:Nat,c % d=s:=⟨_,rfl⟩;have hr2:(a:Int) % (b:Int)=(r:Int):=by rw [<- hr];rfl
  have hs2:(c:Int) % (d:Int)=(s:Int):=by rw [<- hs];rfl
  have hrb:r < b:=by rw [<- hr];exact Nat.mod_lt a hb
  have hsd:s < d:=by rw [<- hs];exact Nat.mod_lt c hd
  have hquo:=fun h=>over_quo hd hb (a:=c) (c:=a) h;have hend:=fun h=>over_end hd hb (a:=c) (c:=a) h;have hturn:=fun h=>over_turn (a:=c) (b:=d) (c:=a) (d:=b) h;rw [q1,q2,hr2,hs2];rw [HR.out,hr,hs] at hend hturn;rw [HR.out] at hquo;generalize a / b=qa at *;generalize c / d=qb at *;clear hr hs hr2 hs2 q1 q2;by_cases hq:qa=qb
  ·subst hq;have hne:((qa:Int) != (qa:Int))=false:=by simp
   have HE:=Hh (hend rfl);have HT:=Hh (hturn rfl);clear hend hturn hquo;by_cases hz:s=0\/r=0
   ·have HV2:=Hh (HE.out hz);by_cases hr0:r=0
    ·have e1:((r:Int) == 0)=true:=by rw [beq_iff_eq];omega
     clear hz hr0;go_wp2;go_ret;exact ⟨by rw [HV2.out];rfl,HY.out⟩
    ·obtain rfl:s=0:=by omega
     have e1:((r:Int) == 0)=false:=eqz (by omega);clear hz hr0;go_wp2;go_ret;exact ⟨by rw [HV2.out];rfl,HY.out⟩
   ·have e1:((r:Int) == 0)=false:=eqz (by omega);have e2:((s:Int) == 0)=false:=eqz (by omega);have hr0:0 < r:=by omega
    have hs0':0 < s:=by omega
    clear hz;go_wp2;go_roundw
    case rel =>
     obtain ⟨x0,x1,x2,x3,xf,xs,xb⟩:=four_put (B:=w.heap.size) c0 c1 c2 c3 (.int .i64 d) (.int .i64 s) (.int .i64 b) (.int .i64 r);exact ⟨d,s,b,r,hs0',hr0,by omega,by omega,by omega,by omega,Hh HT.out.symm,x0,x1,x2,x3,(xf _).trans f0,(xf _).trans f1,(xf _).trans f2,(xf _).trans f3,by rw [xs];exact hsY,xb HY.out (Nat.le_refl _)⟩
    case measure =>
     obtain ⟨x0,x1,x2,x3,-,-,-⟩:=four_put (B:=w.heap.size) c0 c1 c2 c3 (.int .i64 d) (.int .i64 s) (.int .i64 b) (.int .i64 r);rw [cellNat_eq x1,cellNat_eq x3,CN.out];omega
  ·have hne:((qa:Int) != (qb:Int))=true:=by simpa using fun h=>hq (by omega)
   have HV2:=Hh (hquo (fun h=>hq h.symm));clear hend hturn hquo;go_wp2;go_ret;exact ⟨by rw [HV2.out];rfl,HY.out⟩
end
end
section
open Go Go.RowKit
def IterB {α:Type} (P:Program) (gf:Nat) (caps:Array Value) (enc:α->Array Value->World->Prop) (xs:List α) (own p:Nat->Prop) (W:World):Prop :=
 ∀ (l:Nat) (J Jx:List α->World->Prop),
  (∀ pre A B,J pre A->KS (fun k=>¬ own k) A B->J pre B)->(∀ pre A B,Jx pre A->KS (fun k=>¬ own k) A B->Jx pre B) ->
  (∀ pre x args A,(∃ suf,xs=pre ++ x::suf)->enc x args A->J pre A->YieldAt Fence.wide 0 P l args A fun e B =>
    (e=.returned (.bool true)/\J (pre ++ [x]) B/\KS p A B)\/(e=.returned (.bool false)/\Jx (pre ++ [x]) B)) ->
  (∀ A,¬ J xs A)->J [] W->CallsIn Fence.wide 0 P gf (#[.func (.yield l) #[] #[]] ++ caps) W fun e W'=>(∃ v,e=.returned v)/\∃ pre,Jx pre W'
def rPostB {α:Type} (id:Nat) (q:Nat->Prop) (J Jx:List α->World->Prop) (xs:List α) (A:World):Exit->Act->World->Prop
 | .normal,_,B=>KS q A B/\J xs B
 | .exit x,_,B=>x=id/\KS q A B/\Jx xs B
 | _,_,_=>False
variable {P:Program}
theorem wpIn_rangeB {α:Type} {g:Operand} {ps:Array Tmp} {assign body:Code} {Q:Exit->Act->World->Prop} {a:Act} {w:World} {gf id:Nat} {caps:Array Value}
 (hg:a.eval g=.func (.func gf) #[] caps) (eg:∀ args w,(callFunc gf args).run P w=.ok (.enter gf args) w)
 (enc:α->Array Value->World->Prop) (hps:∀ x args W,enc x args W->args.size=ps.size) (xs:List α) (own p:Nat->Prop) (hown:¬ own (w.heap.size+1)/\¬ own w.heap.size) (hp:¬ p (w.heap.size+1))
 (hseq:∀ W,Below w.heap.size w W->W.heap.size=w.heap.size+1+1->IterB P gf caps enc xs own p W)
 (J Jx:List α->World->Prop) (hJ:∀ pre A B,J pre A->KS (fun k=>¬ (own k\/k=w.heap.size+1)) A B->J pre B) (hJx:∀ pre A B,Jx pre A->KS (fun k=>¬ (own k\/k=w.heap.size+1)) A B->Jx pre B)
 (h0:∀ W,Below w.heap.size w W->W.heap.size=w.heap.size+1+1->J [] W)
 (Mid:List α->α->Act->World->Prop) (hMid:∀ pre x a₁ A B,Mid pre x a₁ A->KS (fun k=>¬ (k=w.heap.size+1)) A B->A.heap.size=B.heap.size->Mid pre x a₁ B)
 (hassign:∀ pre x args A,(∃ suf,xs=pre ++ x::suf)->enc x args A->J pre A->w.heap.size+1 < A.heap.size ->
   assign.wpIn (Fence.wide.inRound (w.heap.size+1)) 0 P (Exit.then (fun a₁ w₁=>KS (fun k=>p k\/k=w.heap.size\/k=w.heap.size+1) A w₁/\Mid pre x a₁ w₁) (fun _ _ _=>False)) { tmps:=(ps.zip args).foldl (fun t (p,v)=>t.setIfInBounds p v) a.tmps,defers:=[] } A)
 (hbody:∀ pre x a₁ A,(∃ suf,xs=pre ++ x::suf)->Mid pre x a₁ A->w.heap.size+1 < A.heap.size->body.wpIn (Fence.wide.inRound (w.heap.size+1)) 0 P (rPostB id (fun k=>p k\/k=w.heap.size\/k=w.heap.size+1) J Jx (pre ++ [x]) A) a₁ A)
 (hfin:∀ W,¬ J xs W)
 (hstop:∀ pre W,Jx pre W->W.heap[w.heap.size]? = some (.deferred (some []))->(Code.exit id).wpIn Fence.wide 0 P Q { a with defers:={ target:=.collected w.heap.size,args:=#[] }::a.defers } W) :
 (Code.rangeFunc g ps assign body).wpIn Fence.wide 0 P Q a w:=by
 refine wpIn_rangeFunc ?_;intro fn hfn;have hro:Fence.wide.round=none:=rfl;rw [hro];obtain ⟨rec,hrec⟩:∃ rec:LoopState->Option Code->Loop,rec=fun st pe=>{ state:=st,pending:=pe,fn,tmps:=a.tmps,params:=ps,assign,body,defers:=w.heap.size }:=⟨_,rfl⟩;obtain ⟨W1,hW1⟩:∃ W1,(w.alloc (.deferred (some []))).alloc (.loop (rec .ready none))=W1:=⟨_,rfl⟩;have hL1:W1.heap[w.heap.size+1]? = some (.loop (rec .ready none)):=by
  rw [<- hW1];have:=World.alloc_heap_new (w.alloc (.deferred (some []))) (.loop (rec .ready none));rwa [World.size_alloc] at this
 have hD1:W1.heap[w.heap.size]? = some (.deferred (some [])):=by
  rw [<- hW1];exact (Below.heap_alloc _ _ _ (by simp)).trans (World.alloc_heap_new w _)
 have hb1:Below w.heap.size w W1:=by rw [<- hW1];(exact bel)
 have hs1:W1.heap.size=w.heap.size+1+1:=by rw [<- hW1];simp
 refine ⟨w.heap.size+1,[{ target:=.collected w.heap.size,args:=#[] }],W1,{ target:=.fn (.func gf) caps,args:=#[.func (.yield (w.heap.size+1)) #[] #[]] },W1,gf,
  #[.func (.yield (w.heap.size+1)) #[] #[]] ++ caps,W1,?_,?_,?_,?_,(fun h=>by cases h),?_⟩
 ·rw [<- hW1,hrec];exact run_enterLoop_outer _ _ _ _ _
 ·simp only [resolve,hg];simp [go_sem]
 ·intro f' _;trivial
 ·simp [invoke,go_sem,eg]
 ·refine (hseq W1 hb1 hs1 (w.heap.size+1)
   (fun pre W=>J pre W/\W.heap[w.heap.size+1]? = some (.loop (rec .ready none))/\W.heap[w.heap.size]? = some (.deferred (some [])))
   (fun pre W=>Jx pre W/\W.heap[w.heap.size+1]? = some (.loop (rec .done (some (.exit id))))/\W.heap[w.heap.size]? = some (.deferred (some []))) ?_ ?_ ?_ (fun A hA=>hfin A hA.1) ⟨h0 W1 hb1 hs1,hL1,hD1⟩).mono ?_
  ·rintro pre A B ⟨h1,h2,h3⟩ hk;exact ⟨hJ pre A B h1 (hk.mono fun k _ hk=>fun h=>hk (.inl h)),(hk.block _ (Array.getElem?_eq_some_iff.1 h2).1 hown.1).trans h2,(hk.block _ (Array.getElem?_eq_some_iff.1 h3).1 hown.2).trans h3⟩
  ·rintro pre A B ⟨h1,h2,h3⟩ hk;exact ⟨hJx pre A B h1 (hk.mono fun k _ hk=>fun h=>hk (.inl h)),(hk.block _ (Array.getElem?_eq_some_iff.1 h2).1 hown.1).trans h2,(hk.block _ (Array.getElem?_eq_some_iff.1 h3).1 hown.2).trans h3⟩
  ·rintro pre x args A hx he ⟨h1,h2,h3⟩;have hlt:w.heap.size+1 < A.heap.size:=(Array.getElem?_eq_some_iff.1 h2).1;have hy:=run_yield (P:=P) (args:=args) h2 (by rw [hrec];exact hps x args A he);rw [hrec] at hy;refine ⟨fn,_,assign,body,hy,roundIn_of_wpIn hfn (wpIn_mono (hassign pre x args A hx he h1 hlt) ?_)⟩;rintro e a₁ w₁ hp1
   cases e with
   | normal =>
    obtain ⟨hks,hm⟩:=hp1;have hl1:w₁.heap[w.heap.size+1]? = some (.loop (rec .ready none)):=(hks.block _ hlt (.inr (.inr rfl))).trans h2;have hd1:w₁.heap[w.heap.size]? = some (.deferred (some [])):=(hks.block _ (by omega) (.inr (.inl rfl))).trans h3;have hlt1:w.heap.size+1 < w₁.heap.size:=(Array.getElem?_eq_some_iff.1 hl1).1;refine ⟨_,run_beginRound hl1 (by rw [hrec]),?_⟩;have hm2:=hMid pre x a₁ w₁ (w₁.putObj (w.heap.size+1) (.loop { rec .ready none with state:=.busy })) hm (KS.putObj (by simp) _ _) (by simp);refine wpIn_mono (hbody pre x a₁ _ hx hm2 (by simpa using hlt1)) ?_;have hl2:(w₁.putObj (w.heap.size+1) (.loop { rec .ready none with state:=.busy })).heap[w.heap.size+1]? = some (.loop { rec .ready none with state:=.busy }):=World.putObj_heap_same hlt1;have hd2:(w₁.putObj (w.heap.size+1) (.loop { rec .ready none with state:=.busy })).heap[w.heap.size]? = some (.deferred (some [])):=(World.putObj_heap_other (by omega)).trans hd1;have hks2:KS p A (w₁.putObj (w.heap.size+1) (.loop { rec .ready none with state:=.busy })):=(hks.mono fun k _ h=>.inl h).trans (KS.putObj hp _ _);rintro e2 a3 W3 hp3;have fin:∀ (jump:Option Code),KS (fun k=>p k\/k=w.heap.size\/k=w.heap.size+1) (w₁.putObj (w.heap.size+1) (.loop { rec .ready none with state:=.busy })) W3 ->
     (Instr.endRound (w.heap.size+1) jump).run P W3=.ok (.bool jump.isNone) (W3.putObj (w.heap.size+1) (.loop (rec (if jump.isNone then .ready else .done) jump))) /\
     (W3.putObj (w.heap.size+1) (.loop (rec (if jump.isNone then .ready else .done) jump))).heap[w.heap.size+1]? = some (.loop (rec (if jump.isNone then .ready else .done) jump)) /\
     (W3.putObj (w.heap.size+1) (.loop (rec (if jump.isNone then .ready else .done) jump))).heap[w.heap.size]? = some (.deferred (some [])):=fun jump hk3=>by
     have hl3:=(hk3.block _ (by simpa using hlt1) (.inr (.inr rfl))).trans hl2;have hd3:=(hk3.block _ (by simp;omega) (.inr (.inl rfl))).trans hd2;have:=run_endRound (P:=P) jump hl3;rw [hrec] at this ⊢;exact ⟨this,World.putObj_heap_same (Array.getElem?_eq_some_iff.1 hl3).1,(World.putObj_heap_other (by omega)).trans hd3⟩
    cases e2 with
    | normal =>
     obtain ⟨hk3,hj3⟩:=hp3;obtain ⟨hr,hl4,hd4⟩:=fin none hk3;exact ⟨_,_,hr,.inl ⟨rfl,⟨hJ _ _ _ hj3 (KS.putObj (by simp) _ _),hl4,hd4⟩,(hks2.trans (hk3.mono fun k _ h=>.inl h)).trans (KS.putObj hp _ _)⟩⟩
    | exit x =>
     obtain ⟨rfl,hk3,hj3⟩:=hp3;obtain ⟨hr,hl4,hd4⟩:=fin (some (.exit x)) hk3;exact ⟨_,_,hr,.inr ⟨rfl,hJx _ _ _ hj3 (KS.putObj (by simp) _ _),hl4,hd4⟩⟩
    | ret=>exact hp3.elim
    | goto t=>exact hp3.elim
    | panic ch=>exact hp3.elim
    | outgrown=>exact hp3.elim
   | exit id=>exact hp1.elim
   | goto t=>exact hp1.elim
   | ret=>exact hp1.elim
   | panic ch=>exact hp1.elim
   | outgrown=>exact hp1.elim
  ·rintro e W2 ⟨⟨v,rfl⟩,pre,hj,hl,hd⟩;exact ⟨some (.exit id),_,by have:=run_endLoop (P:=P) hl (by rw [hrec];simp);rw [hrec] at this;exact this,hstop pre _ (hJx _ _ _ hj (KS.putObj (by simp) _ _)) ((World.putObj_heap_other (by omega)).trans hd)⟩
end
section
open Go.RowKit Go.Maps Sp
def encL (t:Nat) (n:Nat) (args:Array Value) (_:World):Prop:=args=#[.int .i64 n,.agg #[.int .i64 (lossN t n).1,.int .i64 (lossN t n).2]]
theorem range_cut {k n:Nat} (h:n<=k):∃ suf,List.range (k+1)=List.range n ++ n::suf:=by
 refine ⟨(List.range (k+1)).drop (n+1),?_⟩;have h1:=(List.take_append_drop n (List.range (k+1))).symm;have h2:n < (List.range (k+1)).length:=by simp;omega
 rw [List.drop_eq_getElem_cons h2,List.take_range,Nat.min_eq_left (by omega),List.getElem_range] at h1;exact h1
section
variable {t k LB:Nat} {W:World}
theorem losses_iter (ht:t < 6) (hk:k < 8) (a0:W.cell? ⟨LB,0,none⟩=some (.int .i64 t)) (a1:W.cell? ⟨LB,1,none⟩=some (.int .i64 1)) {p:Nat->Prop} (hp0:p LB) (hp1:p W.heap.size) :
 IterB Tryz.prog 102 #[.pointer (some ⟨LB,0,none⟩)] (encL t) (List.range (k+1)) (fun j=>j=W.heap.size) p W:=by
 intro l J Jx hJ hJx hY hfin h0;have HJ:=Hh hJ;have HY:=Hh hY;have HF:=Hh hfin;have H0:=Hh h0;have HP0:=Hh hp0;have HP1:=Hh hp1;have hLB:=lt_of_cell a0;simp only at hLB;clear hJ hJx hY hfin h0 hp0 hp1;show CallsIn _ _ _ _ #[.func (.yield l) #[] #[],.pointer (some ⟨LB,0,none⟩)] _ _
 (refine callsIn_of_wp Tryz.func102 rfl trivial ?_ rfl;simp only [Tryz.ntmps102,List.size_toArray,List.length_cons,List.length_nil,Nat.reduceAdd,Nat.reduceSub,Array.replicate_succ,Array.replicate_zero,List.push_toArray,List.append_toArray,List.nil_append,List.cons_append])
 gi_wp2
 obtain ⟨W0,hW0⟩:∃ W0,W0=W.alloc (.cells #[.int .i64 1,.int .i64 1] 138):=⟨_,rfl⟩;rw [<- hW0];have hb0:Below W.heap.size W W0:=by rw [hW0];(exact bel)
 have hs0:W.heap.size < W0.heap.size:=by rw [hW0];simp
 have y0:W0.cell? ⟨W.heap.size,0,none⟩=some (.int .i64 1):=by rw [hW0,World.cell?_alloc_at _ _ _ _ rfl];rfl
 have y1:W0.cell? ⟨W.heap.size,1,none⟩=some (.int .i64 1):=by rw [hW0,World.cell?_alloc_at _ _ _ _ rfl];rfl
 have z0:W0.frozen? ⟨W.heap.size,0,none⟩=false:=by rw [hW0,World.frozen?_alloc_at _ _ _ _ rfl]
 have z1:W0.frozen? ⟨W.heap.size,1,none⟩=false:=by rw [hW0,World.frozen?_alloc_at _ _ _ _ rfl]
 have b0:=(hb0.cell (p:=⟨LB,0,none⟩) hLB).trans a0;have b1:=(hb0.cell (p:=⟨LB,1,none⟩) hLB).trans a1;have hks0:KS (fun j=>¬ j=W.heap.size) W W0:=KS.all hb0 _;clear hW0 hb0 a0 a1
 gi_loopw [4] (fun i wr=>∃ n:Nat,n<=k+1/\i=.int .i64 n/\Hid (J (List.range n) wr)/\wr.cell? ⟨W.heap.size,0,none⟩=some (.int .i64 (lossN t n).1)/\wr.cell? ⟨W.heap.size,1,none⟩=some (.int .i64 (lossN t n).2)/\wr.frozen? ⟨W.heap.size,0,none⟩=false/\wr.frozen? ⟨W.heap.size,1,none⟩=false/\wr.cell? ⟨LB,0,none⟩=some (.int .i64 t)/\wr.cell? ⟨LB,1,none⟩=some (.int .i64 1)/\W.heap.size < wr.heap.size) (fun i _=>k+1 - (intOf i).toNat)
 case atStart=>exact ⟨0,Nat.zero_le _,rfl,HJ.out _ _ _ H0.out hks0,y0,y1,z0,z1,b0,b1,hs0⟩
 case round =>
  obtain ⟨n,hn,rfl,HJN,c0,c1,f0,f1,b0,b1,hsr⟩:=hrel;have hnk:n<=k:=by
   apply Classical.byContradiction;intro hc;obtain rfl:n=k+1:=by omega
   exact HF.out _ HJN.out
  obtain ⟨fn,tmps,assign,body,hy,hR⟩:=HY.out (List.range n) n _ wr (range_cut hnk) rfl HJN.out;have HR:=Hh hR;obtain ⟨q1,q2,q3⟩:=loss_bd t ht n (by omega);obtain ⟨r1,r2,r3⟩:=times_bd t ht n (by omega);have hls:lossN t (n+1)=lossStep t n (lossN t n):=rfl;unfold lossStep at hls;have HLS:=Hh hls;have htl:t * (lossN t n).1<=1000000000:=by have:t * (lossN t n).1<=5 * 1000000:=Nat.mul_le_mul (by omega) q2;omega
  have HT:=Hh (fun w=>times_at (t:=t) (l:=(lossN t n).1) (m:=(lossN t n).2) (by omega) htl (by omega) w);generalize lossN t n=L at *;generalize lowN (t * L.1) L.2=X at *;have hnx:(n+1) * X.2<=8 * 1000000:=Nat.mul_le_mul (by omega) r3;have hee:(((n+1) * X.2+X.1:Nat):Int)=((n:Int)+1) * (X.2:Int)+(X.1:Int):=by simp
  have HLO:=Hh (show ∀ w,Calls Tryz.prog 101 #[.int .i64 X.1,.int .i64 (((n:Int)+1) * (X.2:Int)+(X.1:Int))] w (fun e w'=>e=.returned (.agg #[.int .i64 (lowN X.1 ((n+1) * X.2+X.1)).1,.int .i64 (lowN X.1 ((n+1) * X.2+X.1)).2])/\Below w.heap.size w w') from fun w=>by
   have h:=lowest_at (t:=X.1) (b:=(n+1) * X.2+X.1) (by have:1 * 1<=(n+1) * X.2:=Nat.mul_le_mul (by omega) r1;omega) (by omega) (by omega) w
   rw [hee] at h
   exact h)
  have hw1:wrap64 (((n:Int)+1) * (X.2:Int)+(X.1:Int))=((n:Int)+1) * (X.2:Int)+(X.1:Int):=by
   rw [<- hee];exact wr64 (by omega)
  clear hee;generalize lowN X.1 ((n+1) * X.2+X.1)=Y at HLO HLS;have hw0:wrap64 (((n:Int)+1) * (X.2:Int))=((n:Int)+1) * (X.2:Int):=by
   have e:((n:Int)+1) * (X.2:Int)=(((n+1) * X.2:Nat):Int):=by simp
   rw [e];exact wr64 (by omega)
  have hlb:LB < wr.heap.size:=lt_of_cell b0;clear hR hls
  gi_wp2
  refine HR.out.mono ?_;rintro e B (⟨rfl,hj',hk'⟩ | ⟨rfl,hjx⟩)
  ·have hj3:J (List.range (n+1)) B:=by rw [List.range_succ];exact hj'
   have HJ3:=Hh hj3;have HK:=Hh hk';have c0:=(hk'.cell (x:=⟨W.heap.size,0,none⟩) hsr HP1.out).trans c0;have c1:=(hk'.cell (x:=⟨W.heap.size,1,none⟩) hsr HP1.out).trans c1;have f0:=(hk'.frozen (x:=⟨W.heap.size,0,none⟩) hsr HP1.out).trans f0;have f1:=(hk'.frozen (x:=⟨W.heap.size,1,none⟩) hsr HP1.out).trans f1;have b0:=(hk'.cell (x:=⟨LB,0,none⟩) hlb HP0.out).trans b0;have b1:=(hk'.cell (x:=⟨LB,1,none⟩) hlb HP0.out).trans b1;have hsB:W.heap.size < B.heap.size:=Nat.lt_of_lt_of_le hsr hk'.size;have hlB:LB < B.heap.size:=Nat.lt_of_lt_of_le hlb hk'.size;clear hj3 hj' hk'
   gi_wp2_with (first
    | (gi_at_call 103;(with_reducible refine ((callsIn_wide (n:=0)).2 (HT.out _)).mono ?_);rintro e w5 ⟨rfl,hb5⟩;have hsz5:=hb5.size)
    | (gi_at_call 101;(try rw [hw0]);(try rw [hw1]);(with_reducible refine ((callsIn_wide (n:=0)).2 (HLO.out _)).mono ?_);rintro e w6 ⟨rfl,hb6⟩;have hbB:Below B.heap.size B w6:=Below.next (Below.al hb5 _) hb6;have c0:=(hbB.cell (p:=⟨W.heap.size,0,none⟩) hsB).trans c0;have c1:=(hbB.cell (p:=⟨W.heap.size,1,none⟩) hsB).trans c1;have b0:=(hbB.cell (p:=⟨LB,0,none⟩) hlB).trans b0;have b1:=(hbB.cell (p:=⟨LB,1,none⟩) hlB).trans b1;have f0:=(hbB.frozen (p:=⟨W.heap.size,0,none⟩) hsB).trans f0;have f1:=(hbB.frozen (p:=⟨W.heap.size,1,none⟩) hsB).trans f1;have hs6:W.heap.size < w6.heap.size:=Nat.lt_of_lt_of_le hsB hbB.size;have hl6:LB < w6.heap.size:=Nat.lt_of_lt_of_le hlB hbB.size))
   go_roundw
   case rel =>
    have hne:LB≠W.heap.size:=by omega
    have hk1:KS (fun j=>j≠W.heap.size) w6 ((w6.setCell ⟨W.heap.size,0,none⟩ (.int .i64 Y.1)).setCell ⟨W.heap.size,1,none⟩ (.int .i64 Y.2)):=(KS.setCell (by simp) _ _).trans (KS.setCell (by simp) _ _);have hj6:J (List.range (n+1)) ((w6.setCell ⟨W.heap.size,0,none⟩ (.int .i64 Y.1)).setCell ⟨W.heap.size,1,none⟩ (.int .i64 Y.2)):=HJ.out _ _ _ (HJ.out _ _ _ HJ3.out (KS.all hbB _)) hk1;refine ⟨n+1,by omega,by go_num,hj6,?_,?_,?_,?_,(hk1.cell (x:=⟨LB,0,none⟩) hl6 hne).trans b0,(hk1.cell (x:=⟨LB,1,none⟩) hl6 hne).trans b1,by simpa [World.setCell] using hs6⟩
    ·rw [HLS.out,World.cell?_setCell_other (h:=fun e=>by injection e with _ e _;cases e)];exact World.cell?_setCell_same' _ _ _ (by rw [c0];rfl)
    ·rw [HLS.out];exact World.cell?_setCell_same' _ _ _ (by rw [World.cell?_setCell_other (h:=fun e=>by injection e with _ e _;cases e),c1];rfl)
    ·rw [World.frozen?_setCell,World.frozen?_setCell];exact f0
    ·rw [World.frozen?_setCell,World.frozen?_setCell];exact f1
   case measure=>simp [intOf];omega
  ·have HJX:=Hh hjx;clear hjx
   gi_wp2
   go_end0
   exact ⟨⟨_,rfl⟩,_,HJX.out⟩
end
attribute [local go_sem] Oper.semAt_some
theorem range_at {k x:Nat} {pre suf:List Nat} (h:List.range (k+1)=pre ++ x::suf):x=pre.length/\x<=k:=by
 have h1:(List.range (k+1))[pre.length]? = some x:=by rw [h];simp
 have h2:pre.length < k+1:=by
  have:=congrArg List.length h;simp at this;omega
 rw [List.getElem?_range h2] at h1;have:=Option.some.inj h1;omega
theorem losses_at (t:Nat) (w:World):Calls Tryz.prog 82 #[.agg #[.int .i64 t,.int .i64 1]] w fun e w'=>e=.returned (.func (.func 102) #[] #[.pointer (some ⟨w.heap.size,0,none⟩)])/\w'.cell? ⟨w.heap.size,0,none⟩=some (.int .i64 t)/\w'.cell? ⟨w.heap.size,1,none⟩=some (.int .i64 1)/\Below w.heap.size w w':=by
 go_enter Tryz.func82,Tryz.ntmps82
 go_wp2;go_ret;exact ⟨rfl,by rw [World.cell?_alloc_at _ _ _ _ rfl];rfl,by rw [World.cell?_alloc_at _ _ _ _ rfl];rfl,bel⟩
section
variable {t k:Nat}
theorem lossOf_at (ht:t < 6) (hk:k < 8) (w:World) :
 Calls Tryz.prog 47 #[.agg #[.int .i64 t,.int .i64 1],.int .i64 k] w fun e w'=>e=.returned (.agg #[.int .i64 (lossN t k).1,.int .i64 (lossN t k).2])/\Below w.heap.size w w':=by
 refine (callsIn_wide (n:=0)).1 (callsIn_of_wp_marks Tryz.func47 rfl trivial (wpIn_wide.2 ?_) rfl);simp only [Tryz.ntmps47,List.size_toArray,List.length_cons,List.length_nil,Nat.reduceAdd,Nat.reduceSub,Array.replicate_succ,Array.replicate_zero,List.push_toArray,List.append_toArray,List.nil_append,List.cons_append];have HT:=Hh ht;have HKK:=Hh hk;clear ht hk;go_wp2_with (go_at_call 82;(with_reducible refine (losses_at t _).mono ?_);rintro e w1 ⟨rfl,l0,l1,hb1⟩);have hs1:=hb1.size;simp only [World.size_alloc] at hs1 l0 l1;have hLB:w.heap.size+1+1+1+1 < w1.heap.size:=lt_of_cell l0;have x1:w1.cell? ⟨w.heap.size+1,0,none⟩=some (.int .i64 k):=by
  refine (hb1.cell (p:=⟨w.heap.size+1,0,none⟩) (by first | (simp;done) | (simp;omega))).trans ?_;rw [World.cell?_alloc_past _ _ _ (by first | omega | (simp;done) | (simp;omega)),World.cell?_alloc_past _ _ _ (by first | omega | (simp;done) | (simp;omega)),World.cell?_alloc_at _ _ _ _ (by simp)];rfl
 have al:∀ j,(w1.cell? ⟨w.heap.size+1+1,j,none⟩=((((w.alloc (.cells #[.int .i64 t,.int .i64 1] 138)).alloc (.cells #[.int .i64 k] 3)).alloc (.cells #[.int .i64 0,.int .i64 0] 138)).cell? ⟨w.heap.size+1+1,j,none⟩))/\w1.frozen? ⟨w.heap.size+1+1,j,none⟩=false:=fun j=>by
  refine ⟨(hb1.cell (p:=⟨w.heap.size+1+1,j,none⟩) (by first | (simp;done) | (simp;omega))).trans ?_,(hb1.frozen (p:=⟨w.heap.size+1+1,j,none⟩) (by first | (simp;done) | (simp;omega))).trans ?_⟩
  ·rw [World.cell?_alloc_past _ _ _ (by first | omega | (simp;done) | (simp;omega))]
  ·rw [World.frozen?_alloc_past _ _ _ (by first | omega | (simp;done) | (simp;omega)),World.frozen?_alloc_at _ _ _ _ (by simp)]
 have fl:∀ j,w1.frozen? ⟨w.heap.size+1+1+1,j,none⟩=false:=fun j=>by
  refine (hb1.frozen (p:=⟨w.heap.size+1+1+1,j,none⟩) (by simp)).trans ?_;rw [World.frozen?_alloc_at _ _ _ _ (by simp)]
 have y0:w1.cell? ⟨w.heap.size+1+1+1,0,none⟩=some (.int .i64 0):=by
  refine (hb1.cell (p:=⟨w.heap.size+1+1+1,0,none⟩) (by simp)).trans ?_;rw [World.cell?_alloc_at _ _ _ _ (by simp)];rfl
 have y1:w1.cell? ⟨w.heap.size+1+1+1,1,none⟩=some (.int .i64 0):=by
  refine (hb1.cell (p:=⟨w.heap.size+1+1+1,1,none⟩) (by simp)).trans ?_;rw [World.cell?_alloc_at _ _ _ _ (by simp)];rfl
 have r0:w1.cell? ⟨w.heap.size+1+1,0,none⟩=some (.int .i64 0):=by rw [(al 0).1,World.cell?_alloc_at _ _ _ _ (by simp)];rfl
 have r1:w1.cell? ⟨w.heap.size+1+1,1,none⟩=some (.int .i64 0):=by rw [(al 1).1,World.cell?_alloc_at _ _ _ _ (by simp)];rfl
 have g0:=(al 0).2;have g1:=(al 1).2;have f0:=fl 0;have f1:=fl 1;have hbw:Below w.heap.size w w1:=bel;have HF:=Hh (⟨x1,y0,y1,r0,r1,g0,g1,f0,f1,hbw⟩:_/\_/\_/\_/\_/\_/\_/\_/\_/\_);have HLL:=Hh (⟨l0,l1⟩:_/\_);clear x1 y0 y1 r0 r1 g0 g1 f0 f1 hbw al fl l0 l1 hb1;refine wpIn_wide.1 (wpIn_rangeB (id:=0) (gf:=102) (caps:=#[.pointer (some ⟨w.heap.size+1+1+1+1,0,none⟩)]) rfl (enters_of Tryz.func102 (by kernel_rfl) rfl) (encL t) (fun x args W h=>by rw [show args=_ from h];rfl) (List.range (k+1)) (fun j=>j=w1.heap.size+1+1) (fun j=>j≠w1.heap.size+1/\j≠w.heap.size+1+1+1) ⟨by omega,by omega⟩ (by omega)
  (fun W hW hsz=>?seq) (fun pre A=>pre.length<=k/\KS (fun j=>j < w1.heap.size) w1 A) (fun _ A=>A.cell? ⟨w.heap.size+1+1+1,0,none⟩=some (.int .i64 (lossN t k).1)/\A.cell? ⟨w.heap.size+1+1+1,1,none⟩=some (.int .i64 (lossN t k).2)/\KS (fun j=>j < w1.heap.size/\j≠w.heap.size+1+1+1) w1 A) ?hJ ?hJx ?h0
  (fun pre x a A=>∃ R,w1.heap.size+1 < R/\R < A.heap.size/\A.cell? ⟨R,0,none⟩=some (.int .i64 (lossN t x).1)/\A.cell? ⟨R,1,none⟩=some (.int .i64 (lossN t x).2)/\KS (fun j=>j < w1.heap.size) w1 A/\x=pre.length/\x<=k/\a={ tmps:=#[.agg #[.int .i64 t,.int .i64 1],.int .i64 k,.pointer (some ⟨w.heap.size,0,none⟩),.pointer (some ⟨w.heap.size+1,0,none⟩),.pointer (some ⟨w.heap.size+1+1,0,none⟩),.pointer (some ⟨w.heap.size+1+1+1,0,none⟩),.int .i64 x,.pointer (some ⟨R,0,none⟩),.agg #[.int .i64 t,.int .i64 1],.func (.func 102) #[] #[.pointer (some ⟨w.heap.size+1+1+1+1,0,none⟩)],.int .i64 x,.agg #[.int .i64 (lossN t x).1,.int .i64 (lossN t x).2],U,U,U,U,U],defers:=[] }) ?hMid ?assign ?body ?fin ?stop)
 case seq =>
  have hh:=losses_iter (t:=t) (k:=k) (LB:=w.heap.size+1+1+1+1) (W:=W) HT.out HKK.out ((hW.cell (p:=⟨_,0,none⟩) hLB).trans HLL.out.1) ((hW.cell (p:=⟨_,1,none⟩) hLB).trans HLL.out.2) (p:=fun j=>j≠w1.heap.size+1/\j≠w.heap.size+1+1+1) ⟨by omega,by omega⟩ (by rw [hsz];exact ⟨by omega,by omega⟩);rw [hsz] at hh;exact hh
 case hJ=>exact fun pre A B h hk=>⟨h.1,h.2.trans (hk.mono fun j _ hj=>by omega)⟩
 case hJx =>
  rintro pre A B ⟨h1,h2,h3⟩ hk;have hlt:=lt_of_cell h1;exact ⟨(hk.cell (x:=⟨w.heap.size+1+1+1,0,none⟩) hlt (by simp;omega)).trans h1,(hk.cell (x:=⟨w.heap.size+1+1+1,1,none⟩) hlt (by simp;omega)).trans h2,h3.trans (hk.mono fun j _ hj=>by omega)⟩
 case h0=>exact fun W hW hsz=>⟨Nat.zero_le _,KS.all hW _⟩
 case hMid =>
  rintro pre x a₁ A B ⟨R,h1,h2,h3,h4,h5,h6,h7,ha⟩ hk hsz;exact ⟨R,h1,by omega,(hk.cell (x:=⟨R,0,none⟩) h2 (by simp;omega)).trans h3,(hk.cell (x:=⟨R,1,none⟩) h2 (by simp;omega)).trans h4,h5.trans (hk.mono fun j _ hj=>by omega),h6,h7,ha⟩
 case assign =>
  rintro pre x args A ⟨suf,hx⟩ he hj hlt;obtain ⟨hxp,hxk⟩:=range_at hx;obtain rfl:args=_:=he;have HJ:=Hh hj.2;have HXP:=Hh hxp;have HXK:=Hh hxk;clear hj hx hxp hxk;rw [two_param];show Code.wpIn _ _ _ _ _ { tmps:=#[.agg #[.int .i64 t,.int .i64 1],.int .i64 k,.pointer (some ⟨w.heap.size,0,none⟩),.pointer (some ⟨w.heap.size+1,0,none⟩),.pointer (some ⟨w.heap.size+1+1,0,none⟩),.pointer (some ⟨w.heap.size+1+1+1,0,none⟩),U,U,.agg #[.int .i64 t,.int .i64 1],.func (.func 102) #[] #[.pointer (some ⟨w.heap.size+1+1+1+1,0,none⟩)],.int .i64 x,.agg #[.int .i64 (lossN t x).1,.int .i64 (lossN t x).2],U,U,U,U,U],defers:=[] } _
  gi_wp2
  gi_wp2
  exact ⟨KS.alloc _ _ _,A.heap.size,by omega,by simp,by rw [World.cell?_alloc_at _ _ _ _ rfl];rfl,by rw [World.cell?_alloc_at _ _ _ _ rfl];rfl,HJ.out.trans (KS.alloc _ _ _),HXP.out,HXK.out,rfl⟩
 case body =>
  rintro pre x a₁ A ⟨suf,hx⟩ ⟨R,h1,h2,h3,h4,h5,h6,h7,rfl⟩ hlt;obtain ⟨x1,y0,y1,r0,r1,g0,g1,f0,f1,hbw⟩:=HF.out;have a1:=(h5.cell (x:=⟨w.heap.size+1,0,none⟩) (by simp;omega) (by simp;omega)).trans x1;have a2:=(h5.cell (x:=⟨w.heap.size+1+1+1,0,none⟩) (by simp;omega) (by simp;omega)).trans y0;have a3:=(h5.cell (x:=⟨w.heap.size+1+1+1,1,none⟩) (by simp;omega) (by simp;omega)).trans y1;have b2:=(h5.frozen (x:=⟨w.heap.size+1+1+1,0,none⟩) (by simp;omega) (by simp;omega)).trans f0;have b3:=(h5.frozen (x:=⟨w.heap.size+1+1+1,1,none⟩) (by simp;omega) (by simp;omega)).trans f1;have hsA:w1.heap.size<=A.heap.size:=h5.size;have s1:w.heap.size+1 < A.heap.size:=by omega
  have s2:w.heap.size+1+1+1 < A.heap.size:=by omega
  have HK5:=Hh h5;clear h5 x1 y0 y1 r0 r1 g0 g1 f0 f1 hbw hx;by_cases hxk:x=k
  ·have he:((x:Int) == (k:Int))=true:=by rw [beq_iff_eq];omega
   have HX:=Hh hxk;clear hxk h6
   gi_wp2
   have hk1:KS (fun j=>j≠w.heap.size+1+1+1) A ((A.setCell ⟨w.heap.size+1+1+1,0,none⟩ (.int .i64 (lossN t x).1)).setCell ⟨w.heap.size+1+1+1,1,none⟩ (.int .i64 (lossN t x).2)):=(KS.setCell (by simp) _ _).trans (KS.setCell (by simp) _ _);refine ⟨rfl,hk1.mono fun j hj hq=>?_,?_,?_,(HK5.out.mono (q:=fun j=>j < w1.heap.size/\j≠w.heap.size+1+1+1) fun j _ h=>h.1).trans (hk1.mono (q:=fun j=>j < w1.heap.size/\j≠w.heap.size+1+1+1) fun j _ h=>h.2)⟩
   ·show j≠w.heap.size+1+1+1;rcases hq with h | h | h <;> omega
   ·rw [<- HX.out,World.cell?_setCell_other (h:=fun e=>by injection e with _ e _;cases e)];exact World.cell?_setCell_same' _ _ _ (by rw [a2];rfl)
   ·rw [<- HX.out];exact World.cell?_setCell_same' _ _ _ (by rw [World.cell?_setCell_other (h:=fun e=>by injection e with _ e _;cases e),a3];rfl)
  ·have he:((x:Int) == (k:Int))=false:=by rw [beq_eq_false_iff_ne];omega
   have HP:=Hh (show (pre ++ [x]).length<=k by simp;omega);clear hxk h6
   gi_wp2
   exact ⟨KS.refl _ _,HP.out,HK5.out⟩
 case fin=>exact fun W h=>by have:=h.1;rw [List.length_range] at this;omega
 case stop =>
  rintro pre W ⟨q0,q1,q2⟩ hd;obtain ⟨x1,y0,y1,r0,r1,g0,g1,f0,f1,hbw⟩:=HF.out;have hsW:w1.heap.size<=W.heap.size:=q2.size;have hD:w1.heap.size < W.heap.size:=(Array.getElem?_eq_some_iff.1 hd).1;have r0:=(q2.cell (x:=⟨w.heap.size+1+1,0,none⟩) (by simp;omega) (by simp;omega)).trans r0;have r1:=(q2.cell (x:=⟨w.heap.size+1+1,1,none⟩) (by simp;omega) (by simp;omega)).trans r1;have g0:=(q2.frozen (x:=⟨w.heap.size+1+1,0,none⟩) (by simp;omega) (by simp;omega)).trans g0;have g1:=(q2.frozen (x:=⟨w.heap.size+1+1,1,none⟩) (by simp;omega) (by simp;omega)).trans g1;have s1:w.heap.size+1+1 < W.heap.size:=by omega
  have s2:w.heap.size+1+1+1 < W.heap.size:=by omega
  have HQ:=Hh q2;have HBW:=Hh hbw;obtain ⟨u,hu⟩:∃ u:Int,((lossN t k).1:Int)=u:=⟨_,rfl⟩;obtain ⟨v,hv⟩:∃ v:Int,((lossN t k).2:Int)=v:=⟨_,rfl⟩;rw [hu] at q0;rw [hv] at q1;have HU:=Hh hu;have HV:=Hh hv;clear q2 x1 y0 y1 f0 f1 hbw hu hv
  gi_wp2
  go_wp2;obtain ⟨W9,hW9⟩:∃ W9,W9=(W.setCell ⟨w.heap.size+1+1,0,none⟩ (.int .i64 u)).setCell ⟨w.heap.size+1+1,1,none⟩ (.int .i64 v):=⟨_,rfl⟩;rw [<- hW9];have k9:KS (fun j=>j≠w.heap.size+1+1) W W9:=by rw [hW9];exact (KS.setCell (by simp) _ _).trans (KS.setCell (by simp) _ _)
  have hd9:W9.heap[w1.heap.size]? = some (.deferred (some [])):=(k9.block _ hD (by omega)).trans hd;have k10:KS (fun j=>j≠w1.heap.size) W9 (W9.putObj w1.heap.size (.deferred none)):=KS.putObj (by simp) _ _;have s9:w.heap.size+1+1 < W9.heap.size:=Nat.lt_of_lt_of_le s1 k9.size;have c1:(W9.putObj w1.heap.size (.deferred none)).cell? ⟨w.heap.size+1+1,0,none⟩=some (.int .i64 u):=by
   rw [k10.cell (x:=⟨w.heap.size+1+1,0,none⟩) s9 (by simp;omega),hW9,World.cell?_setCell_other (h:=fun e=>by injection e with _ e _;cases e),World.cell?_setCell_same' _ _ _ (by rw [r0];rfl)]
  have c2:(W9.putObj w1.heap.size (.deferred none)).cell? ⟨w.heap.size+1+1,1,none⟩=some (.int .i64 v):=by
   rw [k10.cell (x:=⟨w.heap.size+1+1,1,none⟩) s9 (by simp;omega),hW9,World.cell?_setCell_same' _ _ _ (by rw [World.cell?_setCell_other (h:=fun e=>by injection e with _ e _;cases e),r1];rfl)]
  have hbw9:Below w.heap.size w (W9.putObj w1.heap.size (.deferred none)):=by
   have h2:=HQ.out.toBelow (n:=w.heap.size) (by omega) (fun j hj=>by omega);have h3:=k9.toBelow (n:=w.heap.size) (by omega) (fun j hj=>by omega);have h4:=k10.toBelow (n:=w.heap.size) (by omega) (fun j hj=>by omega);exact ((HBW.out.trans h2).trans h3).trans h4
  clear hW9 r0 r1 g0 g1;refine ⟨by simp,.inl ⟨_,_,rfl,run_takeDeferred hd9,?_⟩⟩;exact ⟨.agg #[.int .i64 u,.int .i64 v],by simp [results,Tryz.results47,go_sem,c1,c2],by rw [HU.out,HV.out],hbw9⟩
end
section
variable {t k p n:Nat}
theorem of_one (h:t<=1000) (w:World):Calls Tryz.prog 80 #[.agg #[.int .i64 t,.int .i64 1]] w fun e w'=>e=.returned (.agg #[.int .i64 t,.int .i64 1])/\Below w.heap.size w w':=by
 have h1:=of_at (t:=t) (b:=1) (by omega) (by omega) (by omega) w;rw [low_one] at h1;exact h1
theorem told_at (ht:t < 6) (hk:k < 8) (w:World):Calls Tryz.prog 46 #[.agg #[.int .i64 t,.int .i64 1],.int .i64 k,.func (.func 47) #[] #[]] w fun e w'=>e=.returned (.tuple #[.agg #[.int .i64 (lossN t k).1,.int .i64 (lossN t k).2],.int .i64 0])/\Below w.heap.size w w':=by
 have H1:=Hh (fun W=>isTraffic_at (t:=t) (by omega) W);have H2:=Hh (fun W=>isTrunks_at (k:=k) (by omega) W);have H3:=Hh (fun W=>of_one (t:=t) (by omega) W);have H4:=Hh (fun W=>lossOf_at ht hk W);generalize ((lossN t k).1:Int)=x at H4 ⊢;generalize ((lossN t k).2:Int)=y at H4 ⊢;have H5:=Hh (fun W=>fraction_at x y W);clear ht hk
 go_enter Tryz.func46,Tryz.ntmps46
 go_wp2_with (first
  | (go_at_call 48;(with_reducible refine (H1.out _).mono ?_);rintro e w1 ⟨rfl,hb1⟩;obtain ⟨hc1,hf1⟩:=bcell hb1;have hs1:w.heap.size+1 < w1.heap.size:=(by have:=hb1.size;simp at this;omega))
  | (go_at_call 79;(with_reducible refine (H2.out _).mono ?_);rintro e w2 ⟨rfl,hw2⟩;subst w2)
  | (go_at_call 80;(with_reducible refine (H3.out _).mono ?_);rintro e w3 ⟨rfl,hb3⟩)
  | (go_at_call 47;(with_reducible refine (H4.out _).mono ?_);rintro e w4 ⟨rfl,hb4⟩)
  | (go_at_call 81;(with_reducible refine (H5.out _).mono ?_);rintro e w5 ⟨rfl,hb5⟩;have hbB:Below w1.heap.size w1 w5:=Below.next (Below.next hb3 hb4) hb5;have q0:w5.cell? ⟨w.heap.size+1,0,none⟩=some (.int .i64 0):=(by refine (hbB.cell (p:=⟨w.heap.size+1,0,none⟩) hs1).trans ((hb1.cell (p:=⟨w.heap.size+1,0,none⟩) (by simp)).trans ?_);rw [World.cell?_alloc_at _ _ _ _ (by simp)];rfl);have q1:w5.cell? ⟨w.heap.size+1,1,none⟩=some (.int .i64 0):=(by refine (hbB.cell (p:=⟨w.heap.size+1,1,none⟩) hs1).trans ((hb1.cell (p:=⟨w.heap.size+1,1,none⟩) (by simp)).trans ?_);rw [World.cell?_alloc_at _ _ _ _ (by simp)];rfl);have g0:∀ j,w5.frozen? ⟨w.heap.size+1,j,none⟩=false:=(fun j=>by refine (hbB.frozen (p:=⟨w.heap.size+1,j,none⟩) hs1).trans ((hb1.frozen (p:=⟨w.heap.size+1,j,none⟩) (by simp)).trans ?_);rw [World.frozen?_alloc_at _ _ _ _ (by simp)]);have g1:=g0 0;have g2:=g0 1;have hs5:w.heap.size+1 < w5.heap.size:=Nat.lt_of_lt_of_le hs1 hbB.size))
 have hbw:Below w.heap.size w w5:=bel;have hb9:=Below.wr (Below.wr hbw (p:=⟨w.heap.size+1,0,none⟩) (Nat.le_succ _) (.int .i64 x)) (p:=⟨w.heap.size+1,1,none⟩) (Nat.le_succ _) (.int .i64 y);have e0:((w5.setCell ⟨w.heap.size+1,0,none⟩ (.int .i64 x)).setCell ⟨w.heap.size+1,1,none⟩ (.int .i64 y)).cell? ⟨w.heap.size+1,0,none⟩=some (.int .i64 x):=by
  rw [World.cell?_setCell_other (h:=fun e=>by injection e with _ e _;cases e)];exact World.cell?_setCell_same' _ _ _ (by rw [q0];rfl)
 have e1:((w5.setCell ⟨w.heap.size+1,0,none⟩ (.int .i64 x)).setCell ⟨w.heap.size+1,1,none⟩ (.int .i64 y)).cell? ⟨w.heap.size+1,1,none⟩=some (.int .i64 y) :=
  World.cell?_setCell_same' _ _ _ (by rw [World.cell?_setCell_other (h:=fun e=>by injection e with _ e _;cases e),q1];rfl)
 exact bodyPost_ret (v:=.tuple #[.agg #[.int .i64 x,.int .i64 y],.int .i64 0]) (by simp [results,Tryz.results46,go_sem,e0,e1]) rfl ⟨rfl,hb9⟩
theorem loss_at (ht:t < 6) (hk:k < 8) (w:World):Calls Tryz.prog 13 #[.agg #[.int .i64 t,.int .i64 1],.int .i64 k] w fun e w'=>e=.returned (.tuple #[.agg #[.int .i64 (lossN t k).1,.int .i64 (lossN t k).2],.int .i64 0])/\Below w.heap.size w w':=by
 have H1:=Hh (fun W=>told_at ht hk W);generalize ((lossN t k).1:Int)=x at H1 ⊢;generalize ((lossN t k).2:Int)=y at H1 ⊢;clear ht hk
 go_enter Tryz.func13,Tryz.ntmps13
 go_wp2_with (go_at_call 46;(with_reducible refine (H1.out _).mono ?_);rintro e w5 ⟨rfl,hb5⟩;have q0:w5.cell? ⟨w.heap.size+1,0,none⟩=some (.int .i64 0):=(by refine (hb5.cell (p:=⟨w.heap.size+1,0,none⟩) (by simp)).trans ?_;rw [World.cell?_alloc_at _ _ _ _ (by simp)];rfl);have q1:w5.cell? ⟨w.heap.size+1,1,none⟩=some (.int .i64 0):=(by refine (hb5.cell (p:=⟨w.heap.size+1,1,none⟩) (by simp)).trans ?_;rw [World.cell?_alloc_at _ _ _ _ (by simp)];rfl);have g0:∀ j,w5.frozen? ⟨w.heap.size+1,j,none⟩=false:=(fun j=>by refine (hb5.frozen (p:=⟨w.heap.size+1,j,none⟩) (by simp)).trans ?_;rw [World.frozen?_alloc_at _ _ _ _ (by simp)]);have g1:=g0 0;have g2:=g0 1;have hs5:w.heap.size+1 < w5.heap.size:=(by have:=hb5.size;simp at this;omega));have hbw:Below w.heap.size w w5:=bel;have hb9:=Below.wr (Below.wr hbw (p:=⟨w.heap.size+1,0,none⟩) (Nat.le_succ _) (.int .i64 x)) (p:=⟨w.heap.size+1,1,none⟩) (Nat.le_succ _) (.int .i64 y);have e0:((w5.setCell ⟨w.heap.size+1,0,none⟩ (.int .i64 x)).setCell ⟨w.heap.size+1,1,none⟩ (.int .i64 y)).cell? ⟨w.heap.size+1,0,none⟩=some (.int .i64 x):=by
  rw [World.cell?_setCell_other (h:=fun e=>by injection e with _ e _;cases e)];exact World.cell?_setCell_same' _ _ _ (by rw [q0];rfl)
 have e1:((w5.setCell ⟨w.heap.size+1,0,none⟩ (.int .i64 x)).setCell ⟨w.heap.size+1,1,none⟩ (.int .i64 y)).cell? ⟨w.heap.size+1,1,none⟩=some (.int .i64 y) :=
  World.cell?_setCell_same' _ _ _ (by rw [World.cell?_setCell_other (h:=fun e=>by injection e with _ e _;cases e),q1];rfl)
 exact bodyPost_ret (v:=.tuple #[.agg #[.int .i64 x,.int .i64 y],.int .i64 0]) (by simp [results,Tryz.results13,go_sem,e0,e1]) rfl ⟨rfl,hb9⟩
theorem bears_at (ht:t < 6) (hn:n < 8) (hp:p < 11) {v:Bool} (hv:bearsN t p n=v) (w:World):Calls Tryz.prog 50 #[.agg #[.int .i64 t,.int .i64 1],.int .i64 n,.agg #[.int .i64 p,.int .i64 10]] w fun e w'=>e=.returned (.bool v)/\Below w.heap.size w w':=by
 have H1:=Hh (fun W=>of_one (t:=t) (by omega) W);have H2:=Hh (fun W=>lossOf_at ht hn W);have H3:=Hh (fun W=>of_at (t:=p) (b:=10) (by omega) (by omega) (by omega) W);obtain ⟨a1,a2,a3⟩:=loss_bd t ht n hn;obtain ⟨b1,b2,b3⟩:=lim_bd p hp;obtain ⟨u,hu⟩:∃ u,overN (lossN t n) (lowN p 10)=u:=⟨_,rfl⟩;have hvu:v=!u:=by rw [<- hv,<- hu];rfl
 have H4:=Hh (fun W=>above_at (a:=(lossN t n).1) (b:=(lossN t n).2) (c:=(lowN p 10).1) (d:=(lowN p 10).2) (by omega) (by omega) ⟨by omega,by omega,by omega,by omega⟩ hu W);generalize ((lossN t n).1:Int)=x1 at H2 H4;generalize ((lossN t n).2:Int)=x2 at H2 H4;generalize ((lowN p 10).1:Int)=y1 at H3 H4;generalize ((lowN p 10).2:Int)=y2 at H3 H4;subst hvu;clear ht hn hp hv hu a1 a2 a3 b1 b2 b3
 go_enter Tryz.func50,Tryz.ntmps50
 go_wp2
 (refine wp_region_bel (by kernel_rfl) (by kernel_rfl) ?_;(repeat (go_big_quiet_step (first | (go_at_call 80;with_reducible exact Calls.bel_of (H1.out _)) | (go_at_call 47;with_reducible exact Calls.bel_of (H2.out _)) | (go_at_call 80;with_reducible exact Calls.bel_of (H3.out _)) | (go_at_call 84;with_reducible exact Calls.bel_of (H4.out _)))));refine wpQuiet_nil ?_;rintro _ ⟨xq,rfl⟩)
 go_wp2;go_ret;exact ⟨by simp,Below.next (Below.al (Below.al (Below.refl _ _) _) _) (later_below _ _)⟩
theorem find_range {q:Nat->Bool} {m:Nat}:∀ {j:Nat},j<=m->(∀ i,i < j->q i=false)->(List.range m).find? q=((List.range m).drop j).find? q
 | 0,_,_=>by simp
 | j+1,h,hq=>by
  rw [find_range (j:=j) (by omega) (fun i hi=>hq i (by omega)),List.drop_eq_getElem_cons (by simp;omega),List.find?_cons,List.getElem_range,hq j (by omega)]
theorem enough_hit {t p n:Nat} (hn:n < 8) (hq:∀ i,i < n->bearsN t p i=false) (h:bearsN t p n=true):enoughN t p=some n:=by
 unfold enoughN;rw [find_range (j:=n) (by omega) hq,List.drop_eq_getElem_cons (by simp;omega),List.find?_cons,List.getElem_range,h]
theorem enough_miss {t p:Nat} (hq:∀ i,i < 8->bearsN t p i=false):enoughN t p=none:=by
 unfold enoughN;rw [find_range (j:=8) (by omega) hq];rfl
theorem enoughL_at (ht:t < 6) (hp:p < 11) (w:World):Calls Tryz.prog 14 #[.agg #[.int .i64 t,.int .i64 1],.agg #[.int .i64 p,.int .i64 10]] w fun e w'=>e=.returned (.tuple #[.int .i64 ((enoughN t p).getD 0:Nat),.bool (enoughN t p).isSome,.int .i64 0])/\Below w.heap.size w w':=by
 have H1:=Hh (fun W=>isTraffic_at (t:=t) (by omega) W);have H2:=Hh (fun W=>isLimit_at (p:=p) (by omega) W);have H3:=Hh (fun n (hn:n < 8) v (hv:bearsN t p n=v) W=>bears_at ht hn hp hv W);clear ht hp
 go_enter Tryz.func14,Tryz.ntmps14
 go_wp2_with (first
  | (go_at_call 48;(with_reducible refine (H1.out _).mono ?_);rintro e w1 ⟨rfl,hb1⟩;obtain ⟨hc1,hf1⟩:=bcell hb1;have hs1:w.heap.size+1 < w1.heap.size:=(by have:=hb1.size;simp at this;omega))
  | (go_at_call 49;(with_reducible refine (H2.out _).mono ?_);rintro e w2 ⟨rfl,hb2⟩))
 have hbw:Below w.heap.size w w2:=bel;have hs2:w.heap.size+1 < w2.heap.size:=Nat.lt_of_lt_of_le hs1 hb2.size;have y0:w2.cell? ⟨w.heap.size,0,none⟩=some (.int .i64 t):=by
  refine (hb2.cell (p:=⟨w.heap.size,0,none⟩) (by show w.heap.size < _;omega)).trans ((hb1.cell (p:=⟨w.heap.size,0,none⟩) (by first | (simp;done) | (simp;omega))).trans ?_);rw [World.cell?_alloc_past _ _ _ (by simp),World.cell?_alloc_at _ _ _ _ rfl];rfl
 have y1:w2.cell? ⟨w.heap.size,1,none⟩=some (.int .i64 1):=by
  refine (hb2.cell (p:=⟨w.heap.size,1,none⟩) (by show w.heap.size < _;omega)).trans ((hb1.cell (p:=⟨w.heap.size,1,none⟩) (by first | (simp;done) | (simp;omega))).trans ?_);rw [World.cell?_alloc_past _ _ _ (by simp),World.cell?_alloc_at _ _ _ _ rfl];rfl
 have z0:w2.cell? ⟨w.heap.size+1,0,none⟩=some (.int .i64 p):=by
  refine (hb2.cell (p:=⟨w.heap.size+1,0,none⟩) hs1).trans ((hb1.cell (p:=⟨w.heap.size+1,0,none⟩) (by simp)).trans ?_);rw [World.cell?_alloc_at _ _ _ _ (by simp)];rfl
 have z1:w2.cell? ⟨w.heap.size+1,1,none⟩=some (.int .i64 10):=by
  refine (hb2.cell (p:=⟨w.heap.size+1,1,none⟩) hs1).trans ((hb1.cell (p:=⟨w.heap.size+1,1,none⟩) (by simp)).trans ?_);rw [World.cell?_alloc_at _ _ _ _ (by simp)];rfl
 have HBW:=Hh hbw;clear hbw hb1 hb2 hc1 hf1;go_loopw [16] (fun i wr=>∃ n:Nat,n<=8/\i=.int .i64 n/\Hid (∀ j,j < n->bearsN t p j=false)/\Below w2.heap.size w2 wr) (fun i _=>8 - (intOf i).toNat)
 case atStart=>exact ⟨0,by omega,rfl,Hh (fun j hj=>absurd hj (Nat.not_lt_zero _)),Below.refl _ _⟩
 case round =>
  obtain ⟨n,hn,rfl,HN,hW⟩:=hrel;have a0:=(hW.cell (p:=⟨w.heap.size,0,none⟩) (by show w.heap.size < _;omega)).trans y0;have a1:=(hW.cell (p:=⟨w.heap.size,1,none⟩) (by show w.heap.size < _;omega)).trans y1;have a2:=(hW.cell (p:=⟨w.heap.size+1,0,none⟩) hs2).trans z0;have a3:=(hW.cell (p:=⟨w.heap.size+1,1,none⟩) hs2).trans z1;have HW:=Hh hW;clear hW;by_cases hlt:n < 8
  ·have hlt2:(n:Int) < 8:=by omega
   cases hv:bearsN t p n with
   | true =>
    have HE:=Hh (enough_hit hlt HN.out hv);have HV:=Hh hv;clear hv;go_wp2_with (go_at_call 50;(with_reducible refine (H3.out n hlt _ HV.out _).mono ?_);rintro e w5 ⟨rfl,hb5⟩);exact bodyPost_ret (v:=.tuple #[.int .i64 n,.bool true,.int .i64 0]) (by simp [results,Tryz.results14,go_sem]) rfl ⟨by rw [HE.out];rfl,Below.next (Below.next HBW.out HW.out) hb5⟩
   | false =>
    have HV:=Hh hv;clear hv;go_wp2_with (go_at_call 50;(with_reducible refine (H3.out n hlt _ HV.out _).mono ?_);rintro e w5 ⟨rfl,hb5⟩);go_roundw
    case rel=>exact ⟨n+1,by omega,by go_num,Hh (fun j hj=>by by_cases e:j=n;(· subst e;exact HV.out);exact HN.out j (by omega)),Below.next HW.out hb5⟩
    case measure=>simp [intOf];omega
  ·have hlt2:¬ (n:Int) < 8:=by omega
   obtain rfl:n=8:=by omega
   have HE:=Hh (enough_miss HN.out);go_wp2;exact bodyPost_ret (v:=.tuple #[.int .i64 0,.bool false,.int .i64 0]) (by simp [results,Tryz.results14,go_sem]) rfl ⟨by rw [HE.out];rfl,Below.next HBW.out HW.out⟩
end
end
end Go.Proofs.YtdjnkplgllakcaaGreatDoor
