/- FaultReached -/
import Derived.Test.YtgkajecjbflbbaaGreatDoorRE00
import Derived.Deep.WholeRow
set_option maxHeartbeats 4000000
set_option maxRecDepth 100000
set_option linter.all false
namespace Go.Proofs.YtgkajecjbflbbaaGreatDoor
namespace Mt
open Go Go.RowKit Go.Maps
attribute [local go_sem] Oper.semAt_some
theorem stL_snoc {i k:Nat} {s:Nat->Nat}:stL i s ++ [(k:Int)]=stL (i+1) (setS s i k):=by
 unfold stL;rw [List.range_succ,List.map_append];congr 1
 ·apply List.map_congr_left;intro j hj;have:=List.mem_range.1 hj;unfold setS;rw [if_neg (by omega)]
 ·simp [setS]
theorem stepsOf_stL {n:Nat} {s:Nat->Nat} {j:Nat} (h:j < n):stepsOf (stL n s) j=s j:=by
 simp [stepsOf,stL,List.getD,h]
theorem plays_congr {s s' p:Nat->Nat}:∀ (N i:Nat),(∀ j,i<=j->j < i+N->s (p j)=s' (p j))->plays s p N i=plays s' p N i
 | 0,i,_=>rfl
 | N+1,i,h=>by
  unfold plays;rw [h i (Nat.le_refl _) (by omega),plays_congr N (i+1) (fun j h1 h2=>h j (by omega) (by omega))]
theorem playI_congr {n:Nat} {s s':Nat->Nat} {l:List Int} (hl:∀ x∈l,0<=x/\x < (n:Int)) (h:∀ j,j < n->s j=s' j):playI s l=playI s' l:=by
 unfold playI;apply plays_congr;intro j _ hj;apply h;rw [Nat.zero_add] at hj;have:=hl _ (List.getElem_mem hj);unfold stepsOf;simp [List.getD,hj];omega
theorem goR_congr {b:Fbk} (hO:TestsOk b) {s s':Nat->Nat} (h:∀ j,j < b.devs.length->s j=s' j):goR s b.tests=goR s' b.tests:=by
 have:∀ l:List Tst,(∀ t∈l,t∈b.tests)->goR s l=goR s' l:=by
  intro l
  induction l with
  | nil=>intro _;rfl
  | cons t l ih =>
   intro hm;unfold goR;rw [ih (fun t h=>hm t (List.mem_cons_of_mem _ h)),playI_congr (hO t (hm t (List.mem_cons_self ..))).1 h]
 exact this _ (fun _ h=>h)
theorem pastsL_eq {b:Fbk} (hO:TestsOk b):∀ (l:List Dev) (i left:Nat) (s:Nat->Nat),i+l.length=b.devs.length->pastsL b l (stL i s) left=((histL l i left s).filter fun s=>goR s b.tests).map (stL b.devs.length)
 | [],i,left,s,h=>by
  have hi:i=b.devs.length:=by simpa using h
  subst hi;unfold pastsL histL;rw [goR_congr hO (s:=stepsOf (stL b.devs.length s)) (s':=s) (fun j hj=>stepsOf_stL hj)];cases hg:goR s b.tests <;> simp [hg]
 | d::l,i,left,s,h=>by
  have hl:i+1+l.length=b.devs.length:=by simp at h;omega
  have ih:=fun k left'=>pastsL_eq hO l (i+1) left' (setS s i k) hl;unfold pastsL histL;simp only [stL_snoc,ih];rw [show List.range 3=[0,1,2] from rfl];simp only [List.flatMap_cons,List.flatMap_nil,List.append_nil,List.filter_append,List.map_append];congr 1
  ·cases hd:d.held <;> cases he:d.blind <;> by_cases h0:0 < left <;> simp [canI,hd,he,h0]
theorem pastsL_hists {b:Fbk} (hO:TestsOk b):pastsL b b.devs [] b.most.toNat=(histsI b).map (stL b.devs.length):=by
 have h:=pastsL_eq hO b.devs 0 b.most.toNat (fun _=>0) (by simp);exact h
theorem boundH_le:∀ m:Fin 3,∀ n:Fin 7,boundH n.1 m.1<=73:=by decide
theorem pastsL_le {b:Fbk}:∀ (l:List Dev) (pre:List Int) (left:Nat),(pastsL b l pre left).length<=boundH l.length left
 | [],pre,left=>by
  unfold pastsL boundH;split <;> simp
 | d::l,pre,left=>by
  have i0:=pastsL_le (b:=b) l (pre ++ [((0:Nat):Int)]) left;have i1:=pastsL_le (b:=b) l (pre ++ [((1:Nat):Int)]) (left - 1);have i2:=pastsL_le (b:=b) l (pre ++ [((2:Nat):Int)]) (left - 1);unfold pastsL;rw [show List.range 3=[0,1,2] from rfl];simp only [List.flatMap_cons,List.flatMap_nil,List.append_nil,List.length_append];have e0:(if (0=0\/0 < left)/\canI d 0=true then pastsL b l (pre ++ [((0:Nat):Int)]) (if 0=0 then left else left - 1) else []).length<=boundH l.length left:=by
   split
   ·exact i0
   ·simp
  cases left with
  | zero =>
   simp only [List.length_cons,boundH];simp only [Nat.lt_irrefl,or_false,Nat.succ_ne_self] at *;simp at *;exact e0
  | succ m =>
   have e1:(if (1=0\/0 < m+1)/\canI d 1=true then pastsL b l (pre ++ [((1:Nat):Int)]) (if 1=0 then m+1 else m+1 - 1) else []).length<=boundH l.length m:=by
    split
    ·exact i1
    ·simp
   have e2:(if (2=0\/0 < m+1)/\canI d 2=true then pastsL b l (pre ++ [((2:Nat):Int)]) (if 2=0 then m+1 else m+1 - 1) else []).length<=boundH l.length m:=by
    split
    ·exact i2
    ·simp
   simp only [List.length_cons,boundH];simp only [Nat.add_sub_cancel] at e1 e2 ⊢;simp at e0 e1 e2 ⊢;omega
section
variable {b:Fbk} {vm vd vt:Value}
theorem rPasts_at (hO:TestsOk b) (h6:b.devs.length<=6):∀ (l:List Dev) (pre:List Int) (left:Nat) (w:World) (la:Option Addr) (lc:Nat),left<=2->FBookAt w b vm vd vt->b.devs.drop pre.length=l->pre.length<=b.devs.length->(∀ x∈pre,0<=x/\x < 3)->StaV w (.slice la pre.length lc) pre ->
 Calls Mz.prog 104 #[.agg #[vm,vd,vt],.slice la pre.length lc,.int .i64 (left:Int)] w (SOut w (pastsL b l pre left))
 | [],pre,left,w,la,lc,hlf,hB,hs,hle,hp,hL=>by
  have hl:pre.length=b.devs.length:=by
   apply Classical.byContradiction;intro h;have:=congrArg List.length hs;rw [List.length_drop,List.length_nil] at this;omega
  unfold pastsL;exact rPasts_leaf hB hO hl hp hL
 | d::l,pre,left,w,la,lc,hlf,hB,hs,hle,hp,hL=>by
  have hlt:pre.length < b.devs.length:=by
   apply Classical.byContradiction;intro h;rw [List.drop_eq_nil_of_le (by omega)] at hs;cases hs
  have hd:=List.drop_eq_getElem_cons hlt;rw [hs] at hd;obtain ⟨h1,h2⟩:=List.cons.inj hd;have hll:l.length<=6:=by rw [h2,List.length_drop];omega
  unfold pastsL;refine rPasts_step hB h6 hlf hs (fun k=>?_) (fun k hk=>if_neg hk) (fun k hk hok W la' lc' hW hL'=>?_) hL
  ·split
   ·have a:=pastsL_le (b:=b) l (pre ++ [(k:Int)]) (if k=0 then left else left - 1);have c:=boundH_le ⟨if k=0 then left else left - 1,by split <;> omega⟩ ⟨l.length,by omega⟩;simp only at c;omega
   ·simp
  ·rw [if_pos hok];have:=rPasts_at hO h6 l (pre ++ [(k:Int)]) (if k=0 then left else left - 1) W la' lc' (by split <;> omega) (hB.below hW) (by rw [List.length_append];exact h2.symm) (by rw [List.length_append];simp;omega) (fun x hx=>?_) (by rw [List.length_append];exact hL')
   ·rw [List.length_append] at this;exact this
   ·rcases List.mem_append.1 hx with hx | hx
    ·exact hp x hx
    ·rw [List.mem_singleton] at hx;subst hx;omega
theorem rPastsOf_at {w:World} (hB:FBookAt w b vm vd vt) (hO:TestsOk b) (h6:b.devs.length<=6) (hm:0<=b.most/\b.most<=2) :
 Calls Mz.prog 33 #[.agg #[vm,vd,vt]] w (SOut w ((histsI b).map (stL b.devs.length))):=by
 have hc:∀ (W:World) (hb:Below w.heap.size w W),Calls Mz.prog 104 #[.agg #[vm,vd,vt],.slice none 0 0,.int .i64 b.most] W (SOut W ((histsI b).map (stL b.devs.length))):=fun (W:World) (hb:Below w.heap.size w W)=>by
  have h:=rPasts_at (vm:=vm) (vd:=vd) (vt:=vt) hO h6 b.devs [] b.most.toNat W none 0 (by omega) (hB.below hb) rfl (Nat.zero_le _) (fun x hx=>by cases hx) (StaV.nil _);rw [pastsL_hists hO] at h;have e:((b.most.toNat:Nat):Int)=b.most:=by omega
  rw [e] at h;exact h
 have HC:=Hh hc;obtain ⟨rfl,⟨da,dc,rfl,_,_⟩,ta,tc,rfl,_,_⟩:=hB;clear hc hO
 go_enter (mz_func (i:=33) rfl Tryz.func33),Tryz.ntmps33
 go_wp2_with (go_at_call 104;(with_reducible refine (HC.out _ (bel)).mono ?_);rintro e w1 ⟨a,c,vs',rfl,h1,h2,h3⟩);go_ret;exact ⟨a,c,vs',by simp,by simpa using ownsRow_base h1 (by simp),h2,bel⟩
end
end Mt
namespace Mt
open Go Go.Conc Go.RowKit
section
variable {P:Program} {K:Frame->List Frame->World->Prop} {b:Frame} {k:List Item} {cs:List Frame} {ops:Array Oper}
def nds (base:List (Nat × Value)) (ds:Nat->Nat) (V:Nat->Value) (ops:Array Oper) (i:Nat):List (Nat × Value):=base ++ ((List.range ops.size).filter fun d=>needs ops i d).map fun d=>(ds d,V d)
theorem nds_kn {base:List (Nat × Value)} {ds:Nat->Nat} {V:Nat->Value} {i n:Nat} {L:Array Bool} {a:Act} (q:Kn a n (lst base ds V ops.size L)) (h:∀ d,needs ops i d=true->L.getD d false=true):Kn a n (nds base ds V ops i):=by
 refine ⟨q.sz,knl_mem.2 fun x hx=>?_⟩;rcases List.mem_append.1 hx with hx | hx
 ·exact knl_mem.1 q.kn x (List.mem_append_left _ hx)
 ·obtain ⟨d,hd,rfl⟩:=List.mem_map.1 hx;obtain ⟨hd1,hd2⟩:=List.mem_filter.1 hd;exact lst_get q (List.mem_range.1 hd1) (h d hd2)
theorem lst_put {base:List (Nat × Value)} {ds:Nat->Nat} {V:Nat->Value} {i n N:Nat} {L:Array Bool} {a:Act} (h1:∀ k,k < N->ds k=ds i->k=i) (h2:∀ x∈base,x.1≠ds i) (hj:ds i < n) (q:Kn a n (lst base ds V N L)):Kn (a.put (some (ds i)) (V i)) n (lst base ds V N (L.setIfInBounds i true)):=lst_step h1 h2 (q.cons hj _)
theorem co_one {w0 w:World} {I:World->Prop} {a:Act} {n i j:Nat} {rest:List Nat} {l:List (Nat × Value)} {v v0:Value} (hi:Ivt w0 I w) (q:Kn a n l) (hv:v0=v)
 (h:∀ w1,Ivt w0 I w1->Leads P K (b.at (a.put (some j) v) (.inRegion ops rest::k)) cs w1) (hb:b.kind=.normal:=by rfl) (e:∀ d,st1 P d [] n l [.inRegion ops [i]]=some ((j,v0)::l,[.inRegion ops []],[]):=by intro d;kernel_rfl):Leads P K (b.at a (.inRegion ops (i::rest)::k)) cs w:=by
 subst hv;have e:=e fun t=>a.tmps.getD t undef;have hne:b.kind≠.early:=by rw [hb];decide
 unfold st1 at e;simp only at e;split at e
 ·cases e
 ·rename_i o ho
  split at e
  ·rename_i j' hg hd
   split at e
   ·rename_i v' hp
    split at e
    ·rename_i hj
     simp only [List.lookup_nil] at e;cases e;have hx:=fun w=>pureV_run hp w;rw [<- q.sil.ev] at hx;refine leads_op v0 hb ho (gd_true q.sil hg) (fun W D hv d=>(hx _).1) (fun W D hv d e he=>?_) fun d=>?_
     ·rw [(hx _).2] at he;simp at he
     ·rw [hd];exact h _ (hi.to (Stays.at w d))
    ·cases e
   ·cases e
  ·rename_i j' hg hd
   split at e
   ·rename_i hj
    cases e;refine leads_go (fun W=>stepG_unwanted ho (gd_true q.sil hg)) fun d=>?_;rw [hd];exact h _ (hi.to (Stays.at w d))
   ·cases e
  ·cases e
  ·cases e
end
end Mt
namespace Mt
open Go Go.RowKit Go.Maps Go.Conc
attribute [local go_sem] Oper.semAt_some
def PicksAt (w:World) (a:Option Addr) (l:List Int):Prop:=∀ i (h:i < l.length),(∃ b o,a=some ⟨b,o,none⟩/\b < w.heap.size/\w.cell? ⟨b,o+i,none⟩=some (.int .u16 l[i]))/\0<=l[i]/\l[i]<=65535
theorem PicksAt.alike {w w1:World} {a:Option Addr} {l:List Int} (h:PicksAt w a l) (ha:Alike w w1):PicksAt w1 a l:=fun i hi=>by
 obtain ⟨⟨b,o,e,hlt,c⟩,h2⟩:=h i hi;exact ⟨⟨b,o,e,Nat.lt_of_lt_of_le hlt ha.size,(ha.cell _ _ hlt).trans c⟩,h2⟩
def choiceI (l:List Int) (k:Nat):Int:=l.getD k 0
theorem choice_bd {w:World} {a:Option Addr} {l:List Int} (h:PicksAt w a l) (k:Nat):0<=choiceI l k/\choiceI l k<=65535:=by
 unfold choiceI;by_cases hk:k < l.length
 ·have:=(h k hk).2;simpa [List.getD,hk] using this
 ·simp [List.getD,hk]
section
variable {w:World} {a:Option Addr} {l:List Int} {ac:Nat}
theorem choice_at (hL:PicksAt w a l) {k:Nat} {t:Int} (h:choiceI l k=t) :
 Calls Mz.prog 46 #[.slice a l.length ac,.int .i64 (k:Int)] w fun e w'=>e=.returned (.int .i64 t)/\w'=w:=by
 unfold choiceI at h;by_cases hk:k < l.length
 ·obtain ⟨⟨pb,po,rfl,hpb,e0⟩,h1,h2⟩:=hL k hk;have hkI:(k:Int) < (l.length:Int):=by omega
  have ht:l[k]=t:=by rw [<- h];simp [List.getD,hk]
  rw [ht] at e0 h1 h2;have hw:IntKind.i64.wrap t=t:=IntWalk.i64_in _ (by omega);clear hL h ht
  go_enter (mz_func (i:=46) rfl Tryz.func46),Tryz.ntmps46
  go_wp2;go_ret;exact ⟨rfl,rfl⟩
 ·have hkI:¬ (k:Int) < (l.length:Int):=by omega
  have ht:t=0:=by rw [<- h];simp [List.getD,hk]
  subst ht
  go_enter (mz_func (i:=46) rfl Tryz.func46),Tryz.ntmps46
  go_wp2;go_ret;exact ⟨rfl,rfl⟩
end
end Mt
namespace Mt
open Go Go.RowKit
theorem goP_zero {n:Nat}:∀ (l seen:List Int),(∀ x∈l,0<=x/\x < (n:Int))->l.Nodup->(∀ x∈l,x ∉ seen)->goP n seen l=0
 | [],_,_,_,_=>rfl
 | k::l,seen,h1,h2,h3=>by
  have hk:=h1 k (by simp);rw [List.nodup_cons] at h2;unfold goP;rw [if_neg (by unfold inB;simp;omega),if_neg (h3 k (by simp))];refine goP_zero l _ (fun x hx=>h1 x (by simp [hx])) h2.2 fun x hx=>?_;rw [List.mem_append,List.mem_singleton];rintro (h | rfl)
  ·exact h3 x (by simp [hx]) h
  ·exact h2.1 hx
theorem path_zero {n:Nat} {l:List Int} (h1:1<=l.length) (h6:l.length<=6) (hr:∀ x∈l,0<=x/\x < (n:Int)) (hn:l.Nodup):pathAl n l=0:=by
 unfold pathAl;rw [if_neg (by unfold inB;simp;omega)];exact goP_zero l [] hr hn fun x _ h=>by cases h
theorem nodup_le:∀ (l m:List Int),l.Nodup->(∀ x∈l,x∈m)->l.length<=m.length
 | [],_,_,_=>Nat.zero_le _
 | x::l,m,h1,h2=>by
  rw [List.nodup_cons] at h1;have hx:=h2 x (by simp);have ih:=nodup_le l (m.erase x) h1.2 fun y hy=>by
   have hne:y≠x:=fun e=>h1.1 (e ▸ hy);exact (List.mem_erase_of_ne hne).2 (h2 y (by simp [hy]))
  have hp:=List.length_pos_of_mem hx;rw [List.length_erase_of_mem hx] at ih;simp only [List.length_cons];omega
theorem free_there {n k:Nat} {L:List Int} (hn:L.length < n) (hk:k < n):∃ t,t < n/\(((k+t) % n:Nat):Int) ∉ L:=by
 apply Classical.byContradiction;intro h;have h2:∀ t,t < n->(((k+t) % n:Nat):Int)∈L:=fun t ht=>Classical.byContradiction fun hh=>h ⟨t,ht,hh⟩;have h3:∀ x∈(List.range n).map (fun y:Nat=>(y:Int)),x∈L:=fun x hx=>by
  obtain ⟨y,hy,rfl⟩:=List.mem_map.1 hx;have hy:=List.mem_range.1 hy;have:=h2 ((y+n - k) % n) (Nat.mod_lt _ (by omega));have e:(k+(y+n - k) % n) % n=y:=by
   rw [Nat.add_mod_mod,show k+(y+n - k)=y+n by omega,Nat.add_mod_right,Nat.mod_eq_of_lt hy]
  rwa [e] at this
 have h4:=nodup_le _ L (List.Pairwise.map (fun y:Nat=>(y:Int)) (fun a b hab h=>hab (Int.ofNat.inj h)) List.nodup_range) h3;simp at h4;omega
end Mt
namespace Mt
open Go Go.RowKit Go.Maps
attribute [local go_sem] Oper.semAt_some
def PathRet (w:World) (n:Nat) (e:Ending) (w':World):Prop:=∃ (l:List Int) (a:Option Addr) (c:Nat),e=.returned (.slice a l.length c)/\IntsAt w' a l/\l.length<=c/\pathAl n l=0/\Below w.heap.size w w'
theorem row_cap {w:World} {base n c:Nat} {a:Option Addr} {t:TypeId} {xs:List Value} (h:w.ownsRow base t 1 (.slice a n c) n xs):n<=c:=by
 obtain ⟨_,⟨_,h2⟩ | ⟨g,cap,cur,e,_,_,h4,_⟩⟩:=h
 ·omega
 ·cases e;exact h4
def OnWay (n:Nat) (L:List Int):Prop:=L.Nodup/\(∀ x∈L,0<=x/\x < (n:Int))/\L.length<=6
theorem OnWay.snoc {n:Nat} {L:List Int} (h:OnWay n L) (h6:L.length < 6) {x:Nat} (hx:x < n) (hn:(x:Int) ∉ L):OnWay n (L ++ [(x:Int)]):=by
 obtain ⟨h1,h2,h3⟩:=h;refine ⟨List.nodup_append.2 ⟨h1,by simp,fun a ha b hb e=>?_⟩,fun y hy=>?_,by simp;omega⟩
 ·simp at hb;subst hb;exact hn (e ▸ ha)
 ·simp at hy;rcases hy with hy | rfl
  ·exact h2 y hy
  ·omega
def distF (y n x:Nat):Nat:=if x<=y then y - x else y+n - x
theorem dist_lt {y n x:Nat} (hx:x < n) (hy:y < n) (h:x≠y):distF y n ((x+1) % n) < distF y n x:=by
 unfold distF;by_cases h1:x+1 < n
 ·rw [Nat.mod_eq_of_lt h1];split <;> split <;> omega
 ·rw [show x+1=n by omega,Nat.mod_self];split <;> split <;> omega
section
variable {b:Fbk} {vm vd vt:Value} {w:World} {pa:Option Addr} {pc:Nat} {ps:List Int}
theorem choice_nat {w:World} {l:List Int} {a:Option Addr} (hL:PicksAt w a l) (k:Nat):∃ q:Nat,q<=65535/\choiceI l k=(q:Int):=by
 obtain ⟨h1,h2⟩:=choice_bd hL k;exact ⟨(choiceI l k).toNat,by omega,by omega⟩
theorem choice_any (hP:PicksAt w pa ps) (k:Nat) {z:Int} (hz:z=(k:Int)) {W:World} (hW:Below w.heap.size w W) {q:Nat} (hq:choiceI ps k=(q:Int)) :
 Calls Mz.prog 46 #[.slice pa ps.length pc,.int .i64 z] W fun e w'=>e=.returned (.int .i64 (q:Int))/\w'=W:=by
 subst hz;exact choice_at (hP.alike (Mt.Below.alike hW)) hq
theorem lawPath_at (hB:FBookAt w b vm vd vt) (hP:PicksAt w pa ps) (hn1:1<=b.devs.length) (hn6:b.devs.length<=6) :
 Calls Mz.prog 34 #[.agg #[vm,vd,vt],.slice pa ps.length pc] w (PathRet w b.devs.length):=by
 obtain ⟨rfl,⟨da,dc,rfl,_,_⟩,ta,tc,rfl,_,_⟩:=hB;have HP:=Hh hP;have HCN:=Hh fun k=>choice_nat hP k;obtain ⟨n,hn⟩:∃ n,b.devs.length=n:=⟨_,rfl⟩;rw [hn] at hn1 hn6 ⊢;clear hn;obtain ⟨q,hq1,hq2⟩:=choice_nat hP 5;have H5:=Hh fun W (hW:Below w.heap.size w W)=>choice_any (pc:=pc) hP 5 (z:=5) rfl hW hq2;have hnz:¬ ((n:Int)=0):=by omega
 clear hP hq2
 go_enter (mz_func (i:=34) rfl Tryz.func34),Tryz.ntmps34
 go_wp2;obtain ⟨W0,hW0⟩:∃ W0,W0=w.alloc (.cells #[.int .i64 b.most,.slice da n dc,.slice ta b.tests.length tc] 25):=⟨_,rfl⟩;rw [<- hW0];have hb0:Below w.heap.size w W0:=by rw [hW0];(exact bel)
 have hs0:w.heap.size < W0.heap.size:=by rw [hW0];simp
 clear hW0;go_loopw [6,7] (fun v i wr=>∃ (a:Option Addr) (c:Nat) (L:List Int),i=.int .i64 (L.length:Int)/\v=.slice a L.length c/\wr.ownsRow W0.heap.size 3 1 (.slice a L.length c) L.length (L.map (Value.int .i64))/\Below W0.heap.size W0 wr/\Hid (OnWay n L)) (fun _ i _=>6 - (intOf i).toNat)
 case atStart=>exact ⟨none,0,[],rfl,rfl,by simpa using World.ownsRow_nil _ _ _ _,Below.refl _ _,⟨by simp,by simp,by simp⟩⟩
 case round =>
  obtain ⟨a,c,L,rfl,rfl,hrow,hW,HO⟩:=hrel;have hWs:=hW.size;obtain ⟨wo,rfl⟩:∃ x,x=wr:=⟨_,rfl⟩;have hL6:=HO.out.2.2;have HROW:=Hh hrow;have HBW:=Hh (Below.next hb0 hW);have HW:=Hh hW;clear hrow hW;have hqn:∃ m:Nat,m < n/\((q:Int) % (n:Int))=(m:Int):=⟨q % n,Nat.mod_lt _ (by omega),by omega⟩;obtain ⟨m,hmn,hm⟩:=hqn;have HM:=Hh hm;clear hm;have done:(0 < L.length)->bodyPost Mz.prog Tryz.f34 (PathRet w n) Exit.ret { tmps:=#[],defers:=[] } wo->True:=fun _ _=>trivial;clear done;by_cases hle:(L.length:Int)<=(q:Int) % (n:Int)
  ·have hLn:L.length < n:=by have:=HM.out;omega
   by_cases h6:(L.length:Int) < 6
   ·obtain ⟨q6,hq61,hq62⟩:=HCN.out (6+L.length);have H6:=Hh fun W (hW:Below w.heap.size w W)=>choice_any (pc:=pc) HP.out (6+L.length) (z:=6+(L.length:Int)) (by omega) hW hq62;clear hq62;obtain ⟨x0,hx0,hx0'⟩:∃ m:Nat,m < n/\((q6:Int) % (n:Int))=(m:Int):=⟨q6 % n,Nat.mod_lt _ (by omega),by omega⟩;have HX0:=Hh hx0';clear hx0';obtain ⟨y,hyn,hy⟩:∃ y:Nat,y < n/\(y:Int) ∉ L:=by
     obtain ⟨t,_,h⟩:=free_there (n:=n) (k:=0) hLn (by omega);exact ⟨(0+t) % n,Nat.mod_lt _ (by omega),h⟩
    have HY:=Hh hy;clear hy;go_wp2_with (first
     | (go_at_call 46;(with_reducible refine (H5.out _ HBW.out).mono ?_);rintro e w1 ⟨rfl,hw1⟩;subst hw1)
     | (go_at_call 46;(with_reducible refine (H6.out _ HBW.out).mono ?_);rintro e w1 ⟨rfl,hw1⟩;subst hw1))
    go_loopw [8] (fun i wr=>∃ x:Nat,i=.int .i64 (x:Int)/\x < n/\wr=w1) (fun i _=>distF y n (intOf i).toNat)
    case atStart=>exact ⟨x0,by rw [HX0.out],hx0,rfl⟩
    case round =>
     obtain ⟨x,rfl,hx,hwr⟩:=hrel;subst hwr;have hxw:IntKind.i64.wrap ((x:Int)+1)=(x:Int)+1:=IntWalk.i64_in _ (by omega);by_cases hin:(x:Int)∈L
     ·have HD:=Hh (decide_eq_true hin);have hne:x≠y:=fun e=>HY.out (e ▸ hin);have hnx:(((x:Int)+1) % (n:Int))=(((x+1) % n:Nat):Int):=by rw [Int.natCast_emod];rfl
      have HNX:=Hh hnx;clear hin hnx;go_wp2_with (go_at_call 41;(with_reducible refine (hasNum_at (lc:=c) (ints_row HROW.out) rfl (by omega) HD.out).mono ?_);rintro e w2 ⟨rfl,hw2⟩;subst hw2);go_roundw
      case rel=>exact ⟨(x+1) % n,by rw [HNX.out],Nat.mod_lt _ (by omega),trivial⟩
      case measure =>
       simp only [intOf,HNX.out,Int.toNat_natCast];exact dist_lt hx hyn hne
     ·have HD:=Hh (decide_eq_false hin);have HN:=Hh hin;clear hin;have hln:(L ++ [(x:Int)]).length=L.length+1:=by simp
      have HLN:=Hh hln;clear hln;go_wp2_with (first
       | (go_at_call 41;(with_reducible refine (hasNum_at (lc:=c) (ints_row HROW.out) rfl (by omega) HD.out).mono ?_);rintro e w2 ⟨rfl,hw2⟩;subst hw2)
       | (at_builtin;go_loud (refine wpl_append1 rfl _ _ 26 rfl W0.heap.size 3 (mzu Tryz.underlying26) mz_intInfo rfl (by omega) (.slice a L.length c) L.length _ rfl HROW.out (by omega) (by omega) _ (n:=w2.heap.size) rfl rfl (by simp [Value.oneCell']) ?_;intro g cap w6 hown6 hb6)))
      have HB6:=Hh hb6;have HR6:=Hh hown6;clear hb6 hown6;go_roundw
      case rel=>exact ⟨_,cap,L ++ [(x:Int)],by rw [HLN.out];rfl,by rw [HLN.out],by rw [HLN.out,List.map_append];exact HR6.out,Below.trans HW.out HB6.out,HO.out.snoc (by omega) hx HN.out⟩
      case measure=>simp [intOf];omega
   ·exfalso;omega
  ·have HL0:=Hh (show 1<=L.length by
    have:=HM.out
    omega)
   have hnz2:¬ n=0:=by omega
   have hle2:(q:Int) % (n:Int) < (L.length:Int):=by omega
   go_wp2_with (go_at_call 46;(with_reducible refine (H5.out _ HBW.out).mono ?_);rintro e w1 ⟨rfl,hw1⟩;subst hw1);exact bodyPost_ret (v:=.slice a L.length c) (by simp [results,Tryz.results34,go_sem, *]) rfl ⟨L,a,c,rfl,ints_row HROW.out,row_cap HROW.out,path_zero HL0.out hL6 HO.out.2.1 HO.out.1,HBW.out⟩
end
end Mt
namespace Mt
open Go Go.RowKit
theorem claim_one {α:Type} (p:α->Bool) (l:List α):claimI (l.countP p) l.length=1↔l≠[]/\∀ x∈l,p x=true:=by
 unfold claimI;rcases l with _ | ⟨a,l⟩
 ·simp
 by_cases h0:(a::l).countP p=0
 ·rw [if_pos h0];refine ⟨fun h=>absurd h (by decide),fun h=>?_⟩;exact absurd (h.2 a (by simp)) (by have:=List.countP_eq_zero.1 h0 a (by simp);simpa using this)
 ·rw [if_neg h0];by_cases h1:(a::l).countP p=(a::l).length
  ·rw [if_pos h1];exact ⟨fun _=>⟨by simp,List.countP_eq_length.1 h1⟩,fun _=>rfl⟩
  ·rw [if_neg h1];exact ⟨fun h=>absurd h (by decide),fun h=>absurd (List.countP_eq_length.2 h.2) h1⟩
theorem mem_susp {l:List (Nat->Nat)} {k:Nat} {x:Int}:x∈suspTo l k↔∃ i:Nat,i < k/\x=(i:Int)/\¬(l≠[]/\∀ s∈l,s i=0):=by
 unfold suspTo goodC;simp only [List.mem_map,List.mem_filter,List.mem_range,decide_eq_true_eq,ne_eq];constructor
 ·rintro ⟨i,⟨h1,h2⟩,rfl⟩;exact ⟨i,h1,rfl,fun h=>h2 ((claim_one _ _).2 ⟨h.1,fun s hs=>by simp [h.2 s hs]⟩)⟩
 ·rintro ⟨i,h1,rfl,h2⟩;exact ⟨i,⟨h1,fun h=>h2 ⟨((claim_one _ _).1 h).1,fun s hs=>by simpa using ((claim_one _ _).1 h).2 s hs⟩⟩,rfl⟩
end Mt
namespace Mt
open Go Go.RowKit Go.Maps Go.Conc
attribute [local go_sem] Oper.semAt_some
def StasL (w:World) (a:Option Addr) (ls:List (List Int)):Prop:=∀ i (h:i < ls.length),∃ b o xa xc,a=some ⟨b,o,none⟩/\b < w.heap.size/\w.cell? ⟨b,o+i,none⟩=some (.slice xa ls[i].length xc)/\IntsAt w xa ls[i]
theorem StasL.of {w:World} {a:Option Addr} {ls:List (List Int)} (h:StaAt w a ls):StasL w a ls:=fun i hi=>by
 obtain ⟨b,o,e,hlt,v,hc,hv⟩:=h i hi;obtain ⟨xa,xc,rfl,hx,_⟩:=hv.form;exact ⟨b,o,xa,xc,e,hlt,hc,hx⟩
theorem StasL.alike {w w1:World} {a:Option Addr} {ls:List (List Int)} (h:StasL w a ls) (ha:Alike w w1):StasL w1 a ls:=fun i hi=>by
 obtain ⟨b,o,xa,xc,e,hlt,hc,hx⟩:=h i hi;exact ⟨b,o,xa,xc,e,Nat.lt_of_lt_of_le hlt ha.size,(ha.cell _ _ hlt).trans hc,IntsAt.alike hx ha⟩
def justB (t:Int) (k n:Int):Bool:=((t == 1) == (k == n)) && ((t == 2) == (k == 0))
theorem just_claim {α:Type} (p:α->Bool) {l:List α} (h:l≠[]):justB (claimI (l.countP p) l.length) ((l.countP p:Nat):Int) ((l.length:Nat):Int)=true:=by
 have hn:l.length≠0:=fun e=>h (List.eq_nil_of_length_eq_zero e);have hle:=List.countP_le_length (p:=p) (l:=l);unfold justB claimI;by_cases h0:l.countP p=0
 ·rw [if_pos h0,h0];have:((0:Nat):Int)≠((l.length:Nat):Int):=by omega
  simp [this];omega
 ·rw [if_neg h0];by_cases h1:l.countP p=l.length
  ·rw [if_pos h1,h1];have:((l.length:Nat):Int)≠0:=by omega
   simp;omega
  ·rw [if_neg h1];have e1:((l.countP p:Nat):Int)≠((l.length:Nat):Int):=by omega
   have e2:((l.countP p:Nat):Int)≠0:=by omega
   rw [show (((l.countP p:Nat):Int) == ((l.length:Nat):Int))=false from beq_eq_false_iff_ne.2 e1,show (((l.countP p:Nat):Int) == 0)=false from beq_eq_false_iff_ne.2 e2];rfl
section
variable {w:World}
theorem just_at {t k n:Int} {r:Bool} (h:justB t k n=r):Calls Mz.prog 40 #[.int .i64 t,.int .i64 k,.int .i64 n] w fun e w'=>e=.returned (.bool r)/\w'=w:=by
 unfold justB at h;by_cases h1:((t == 1) == (k == n))=true
 ·rw [h1,Bool.true_and] at h;have H:=Hh h;clear h
  go_enter (mz_func (i:=40) rfl Tryz.func40),Tryz.ntmps40
  go_wp2;exact bodyPost_ret (v:=.bool r) (by simp [results,Tryz.results40,go_sem, *,<- H.out]) rfl ⟨rfl,rfl⟩
 ·have h2:((t == 1) == (k == n))=false:=by simpa using h1
  rw [h2,Bool.false_and] at h;subst h;clear h1
  go_enter (mz_func (i:=40) rfl Tryz.func40),Tryz.ntmps40
  go_wp2;exact bodyPost_ret (v:=.bool false) (by simp [results,Tryz.results40,go_sem, *]) rfl ⟨rfl,rfl⟩
theorem soundOf_at {sa pa:Option Addr} {l:List Int} {sc pc n:Nat} {s:Nat->Nat} (hS:IntsAt w sa (stL n s)) (hn:n<=1000000) (hp:IntsAt w pa l) (hl:∀ x∈l,0<=x/\x < (n:Int)) (hll:l.length<=1000000) {r:Bool} (h:soundI s l=r) :
 Calls Mz.prog 39 #[.slice sa n sc,.slice pa l.length pc] w fun e w'=>e=.returned (.bool r)/\w'=w:=by
 have H:=Hh h;have HS:=Hh hS;have HP:=Hh hp;have HL:=Hh hl;clear h hS hp hl
 go_enter (mz_func (i:=39) rfl Tryz.func39),Tryz.ntmps39
 go_wp2;go_loop [5] (fun i=>∃ k:Nat,k<=l.length/\i=.int .i64 k/\Hid (∀ x∈l.take k,s x.toNat=0)) (fun i=>l.length - (intOf i).toNat)
 case atStart=>exact ⟨0,Nat.zero_le _,rfl,by simp [Hid]⟩
 case round =>
  obtain ⟨k,hk,rfl,hgo⟩:=hrel;by_cases hlt:k < l.length
  ·obtain ⟨pb,po,rfl,hpb,c0⟩:=HP.out k hlt;have hxb:=HL.out l[k] (List.getElem_mem hlt);have htk:=List.take_succ_eq_append_getElem hlt;have hmem:l[k]∈l:=List.getElem_mem hlt;obtain ⟨x,hx⟩:∃ x,l[k]=x:=⟨_,rfl⟩;rw [hx] at c0 hxb htk hmem;obtain ⟨xn,rfl⟩:∃ xn:Nat,x=(xn:Int):=⟨x.toNat,by omega⟩;have hxI:(xn:Int) < (n:Int):=by omega
   have hxn:xn < (stL n s).length:=by rw [stL_len];omega
   obtain ⟨sb,so,rfl,hsb,d0⟩:=HS.out xn hxn;rw [stL_get] at d0;have HTK:=Hh htk;have HM:=Hh hmem;clear hx htk hmem;by_cases hz:s xn=0
   ·have d1:w.cell? ⟨sb,so+xn,none⟩=some (.int .i64 0):=by rw [d0,hz];rfl
    have HZ:=Hh hz;clear hz d0;go_wp2;go_round
    case rel=>exact ⟨k+1,hlt,by go_num,fun y hy=>by
     rw [HTK.out] at hy
     rcases List.mem_append.1 hy with hy | hy
     ·exact hgo.out y hy
     ·simp at hy
      subst hy
      rw [Int.toNat_natCast]
      exact HZ.out⟩
    case measure=>simp [intOf];omega
   ·have hzI:((s xn:Int) != 0)=true:=by simp;omega
    obtain ⟨v,hv⟩:∃ v:Int,(s xn:Int)=v:=⟨_,rfl⟩;rw [hv] at d0 hzI;have hr:r=false:=by
     rw [<- H.out];unfold soundI;simp only [Bool.not_eq_false',List.any_eq_true,decide_eq_true_eq];exact ⟨_,HM.out,by rw [Int.toNat_natCast];exact hz⟩
    have HR:=Hh hr;clear hz hv hr;go_wp2;exact bodyPost_ret (v:=.bool false) (by simp [results,Tryz.results39,go_sem, *]) rfl ⟨by rw [HR.out],rfl⟩
  ·obtain rfl:k=l.length:=by omega
   have hr:r=true:=by
    rw [<- H.out];have:=hgo.out;rw [List.take_length] at this;unfold soundI;simpa using this
   have HR:=Hh hr;clear hr hgo;go_wp2;exact bodyPost_ret (v:=.bool true) (by simp [results,Tryz.results39,go_sem, *]) rfl ⟨by rw [HR.out],rfl⟩
theorem asc_at {la:Option Addr} {l:List Int} {lc n:Nat} (hL:IntsAt w la l) (hll:l.length<=1000000) (hn:n<=1000000) (ha:l.Pairwise (· < ·)) (hb:∀ x∈l,0<=x/\x < (n:Int)) :
 Calls Mz.prog 42 #[.slice la l.length lc,.int .i64 (n:Int)] w fun e w'=>e=.returned (.int .i64 0)/\Below w.heap.size w w':=by
 have HL:=Hh hL;have HA:=Hh ha;have HB:=Hh hb;have hwr:IntKind.i64.wrap ((n:Int) - 1)=(n:Int) - 1:=IntWalk.i64_in _ (by omega);clear hL ha hb
 go_enter (mz_func (i:=42) rfl Tryz.func42),Tryz.ntmps42
 go_wp2;go_loopw [5] (fun i wr=>∃ k:Nat,k<=l.length/\i=.int .i64 k/\Below w.heap.size w wr) (fun i _=>l.length - (intOf i).toNat)
 case atStart=>exact ⟨0,Nat.zero_le _,rfl,Below.refl _ _⟩
 case round =>
  obtain ⟨k,hk,rfl,hW⟩:=hrel;by_cases hlt:k < l.length
  ·obtain ⟨pb,po,rfl,hpb,c0⟩:=HL.out k hlt;have c1:=(hW.cell (p:=⟨pb,po+k,none⟩) hpb).trans c0;have hxb:=HB.out l[k] (List.getElem_mem hlt);have hin:inB l[k] 0 ((n:Int) - 1)=true:=by unfold inB;simp;omega
   have hprev:0 < k->∃ y,w.cell? ⟨pb,po+(k - 1),none⟩=some (.int .i64 y)/\y < l[k]:=fun h0=>by
    obtain ⟨pb',po',e,_,c2⟩:=HL.out (k - 1) (by omega);cases e;exact ⟨_,c2,List.pairwise_iff_getElem.1 HA.out (k - 1) k (by omega) hlt (by omega)⟩
   generalize l[k]=x at c0 c1 hxb hin hprev;have HIN:=Hh (fun W=>rin_at (w:=W) hin);clear c0 hin;by_cases h0:k=0
   ·subst h0;clear hprev;rw [Nat.add_zero] at c1;have hk0:decide ((0:Int) < 0)=false:=by decide
    go_wp2_with (go_at_call 43;(with_reducible refine (HIN.out _).mono ?_);rintro e w1 ⟨rfl,hw1⟩;subst hw1)
    go_region
    go_wp2;go_roundw
    case rel=>first | exact ⟨1,hlt,by go_num,hW⟩ | exact ⟨1,hlt,by go_num,bel⟩
    case measure=>simp [intOf];omega
   ·obtain ⟨y,c2,hyx⟩:=hprev (by omega);have c3:=(hW.cell (p:=⟨pb,po+(k - 1),none⟩) hpb).trans c2;obtain ⟨j,rfl⟩:∃ j,k=j+1:=⟨k - 1,by omega⟩;simp only [Nat.add_sub_cancel] at c3;have hgt:decide ((((j+1:Nat):Int)) > 0)=true:=decide_eq_true (by omega);have hge:decide (x<=y)=false:=decide_eq_false (by omega);clear c2;go_wp2_with (go_at_call 43;(with_reducible refine (HIN.out _).mono ?_);rintro e w1 ⟨rfl,hw1⟩;subst hw1)
    go_region
    go_wp2;go_roundw
    case rel=>first | exact ⟨j+1+1,hlt,by go_num,hW⟩ | exact ⟨j+1+1,hlt,by go_num,bel⟩
    case measure=>simp [intOf];omega
  ·obtain rfl:k=l.length:=by omega
   go_wp2;exact bodyPost_ret (v:=.int .i64 0) (by simp [results,Tryz.results42,go_sem, *]) rfl ⟨rfl,hW⟩
end
theorem susp_asc (l:List (Nat->Nat)) (k:Nat):(suspTo l k).Pairwise (· < ·):=by
 unfold suspTo;exact List.pairwise_map.2 ((List.pairwise_lt_range.filter _).imp fun h=>Int.ofNat_lt.2 h)
theorem susp_bd {l:List (Nat->Nat)} {k:Nat}:∀ x∈suspTo l k,0<=x/\x < (k:Int):=fun x hx=>by
 obtain ⟨i,h1,rfl,_⟩:=mem_susp.1 hx;omega
attribute [local go_sem] Oper.semAt_some
section
variable {P:Program} {K:Frame->List Frame->World->Prop} {b:Frame} {a:Act} {w0 w:World} {I:World->Prop} {k:List Item} {cs:List Frame} {n:Nat} {l:List (Nat × Value)} {D:List Deferred}
end
section
variable {a:Act} {o:Oper} {w:World} {ad:Addr} {v:Value} {x:Operand}
theorem ld_devs (ho:o.op=.load 22 x) (hx:a.eval x=.pointer (some ad)):∀ w:World,w.cell? ad=some v->(execOp a.eval o).run Tryz.prog w=.ok (.value v) w/\∀ e∈(execOp a.eval o).events Tryz.prog w #[],e.loc=.cell ad:=fun w hc=>by
 have e:execOp a.eval o=execOp (fun _=>.pointer (some ad)) { o with op:=.load 22 x }:=by unfold execOp;rw [ho];simp only [hx]
 rw [e];exact ⟨by simp [go_sem,hc],by simp [go_sem,hc]⟩
end
section
variable {P:Program} {K:Frame->List Frame->World->Prop} {b:Frame} {k:List Item} {cs:List Frame} {ops:Array Oper}
theorem go_lead2 {md:Region.Mode} {rk:Nat->Nat} (hl:lowB md ops rk=true) (J:Array Bool->Act->World->Prop)
 (step:∀ i o L a w rest,ops[i]? = some o->L.getD i true=false->(∀ e∈o.after,Region.binds md e=true->L.getD e.on false=true)->J L a w ->
   (∀ a1 w1,J (L.setIfInBounds i true) a1 w1->Leads P K (b.at a1 (.inRegion ops rest::k)) cs w1)->Leads P K (b.at a (.inRegion ops (i::rest)::k)) cs w)
 (fin:∀ L a w,L.size=ops.size->(∀ i,i < ops.size->L.getD i true=true)->J L a w->Leads P K (b.at a (.inRegion ops []::k)) cs w) :
 ∀ (fuel t:Nat) (L:Array Bool) (a:Act) (w:World),left L ops.size<=fuel->L.size=ops.size->J L a w->Leads P K (b.at a (.inRegion ops (Region.linearise.go md ops fuel t L [])::k)) cs w:=by
 intro fuel
 induction fuel with
 | zero =>
  intro t L a w h0 hs hi;have:Region.linearise.go md ops 0 t L []=[]:=by simp [Region.linearise.go]
  rw [this];exact fin L a w hs (left_zero (by omega)) hi
 | succ fuel ih =>
  intro t L a w h0 hs hi;simp only [Region.linearise.go]
  change Leads P K (b.at a (.inRegion ops (match (Region.ready md ops L)[t % (Region.ready md ops L).length]? with
   | some i=>Region.linearise.go md ops fuel (t / (Region.ready md ops L).length) (L.setIfInBounds i true) [i]
   | none=>[].reverse)::k)) cs w
  cases hx:(Region.ready md ops L)[t % (Region.ready md ops L).length]? with
  | none =>
   have hnil:Region.ready md ops L=[]:=by
    cases hr:Region.ready md ops L with
    | nil=>rfl
    | cons x xs =>
     rw [hr] at hx;have hlt:t % (x::xs).length < (x::xs).length:=Nat.mod_lt _ (by simp);simp at hx;simp at hlt;omega
   exact fin L a w hs (all_done hl hs hnil) hi
  | some i =>
   simp only [];rw [linearise_go_acc,List.reverse_singleton,List.singleton_append];have hr:=List.mem_of_getElem? hx;obtain ⟨hun,o,ho,hall⟩:=mem_ready.1 hr;have hlt:i < ops.size:=(Array.getElem?_eq_some_iff.1 ho).1;refine step i o L a w _ ho hun hall hi fun a1 w1 h1=>ih _ _ a1 w1 ?_ (by simp [hs]) h1;have:=left_set hun hlt;omega
theorem leads_draw2 {id:Nat} (rk:Region.Mode->Nat->Nat) (hl:∀ md,lowB md ops (rk md)=true) (J:Array Bool->Act->World->Prop) {a:Act} {w:World}
 (h0:∀ w1,Stays w w1->J (Array.replicate ops.size false) a w1)
 (step:∀ i L a w rest,i < ops.size->L.getD i true=false->(∀ d,needs ops i d=true->L.getD d false=true)->J L a w ->
   (∀ a1 w1,J (L.setIfInBounds i true) a1 w1->Leads P K (b.at a1 (.inRegion ops rest::k)) cs w1)->Leads P K (b.at a (.inRegion ops (i::rest)::k)) cs w)
 (fin:∀ L a w,L.size=ops.size->(∀ i,i < ops.size->L.getD i true=true)->J L a w->Leads P K (b.at a (.inRegion ops []::k)) cs w) :
 Leads P K (b.at a (.code (.region id ops true)::k)) cs w:=by
 intro L hL W D hv;refine .step fun d=>?_;have:∃ md t,Region.schedule (P.follows .mixedOrders) ops ((W.at d).tape (W.at d).drawn (.order b.fn id))=Region.linearise.go md ops ops.size t (Array.replicate ops.size false) []:=by
  unfold Region.schedule Region.linearise;split
  ·exact ⟨_,_,rfl⟩
  ·exact ⟨_,_,rfl⟩
 obtain ⟨md,t,ht⟩:=this;refine ⟨_,_,_,#[],stepG_region_draw,(fun e he=>by simp at he),Nat.le_refl _,?_⟩;rw [ht];have hv':View D { W.at d with drawn:=(W.at d).drawn+1 } (w.at (d+1)):=⟨hv.tape,rfl,hv.os,hv.output,hv.size,hv.live,hv.gone⟩;exact go_lead2 (hl md) J (fun i o L a w rest ho hu h=>step i L a w rest (Array.getElem?_eq_some_iff.1 ho).1 hu fun d=>needs_spec ho h) fin ops.size _ _ a (w.at (d+1)) left_le (by simp) (h0 _ (Stays.at w (d+1))) L hL _ _ hv'
theorem lst_swap {base:List (Nat × Value)} {ds:Nat->Nat} {V V':Nat->Value} {n N:Nat} {L:Array Bool} {a:Act} (h:∀ i,i < N->L.getD i false=true->V i=V' i) (q:Kn a n (lst base ds V N L)):Kn a n (lst base ds V' N L):=by
 refine ⟨q.sz,knl_mem.2 fun x hx=>?_⟩;rcases List.mem_append.1 hx with hx | hx
 ·exact knl_mem.1 q.kn x (List.mem_append_left _ hx)
 ·obtain ⟨i,hi,rfl⟩:=List.mem_map.1 hx;obtain ⟨h1,h2⟩:=List.mem_filter.1 hi;show a.tmps[ds i]? = some (V' i);rw [<- h i (List.mem_range.1 h1) h2];exact lst_get q (List.mem_range.1 h1) h2
theorem co_drawE {α:Type} {w0 w:World} {I:World->Prop} {a:Act} {n id:Nat} {base:List (Nat × Value)} {D:List Deferred} (hi:Ivt w0 I w) (rk:Region.Mode->Nat->Nat) (ds:Nat->Nat) (x0:α) (V:α->Nat->Value) (Z:α->World->Prop) (i0:Nat) (dep:Nat->Bool) (q:Kn a n base) (hd:a.defers=D)
 (hinj:∀ i,i < ops.size->∀ k,k < ops.size->ds k=ds i->k=i) (hbase:((List.range ops.size).all fun i=>base.all fun x=>x.1 != ds i)=true) (hlt:∀ i,i < ops.size->ds i < n)
 (hi0:dep i0=true) (hi0':i0 < ops.size) (hdep:∀ i,i < ops.size->dep i=true->i≠i0->∃ d,d < ops.size/\needs ops i d=true/\dep d=true) (hV:∀ x i,i < ops.size->dep i=false->V x i=V x0 i)
 (step:∀ i,i < ops.size->i≠i0->∀ (x:α) (J:World->Prop),(∀ w,J w->I w)->(dep i=true->∀ w,J w->Z x w)->∀ a w,Ivt w0 J w->Kn a n (nds base ds (V x) ops i)->∀ rest,(∀ w1,Ivt w0 J w1->Leads P K (b.at (a.put (some (ds i)) (V x i)) (.inRegion ops rest::k)) cs w1)->Leads P K (b.at a (.inRegion ops (i::rest)::k)) cs w)
 (step0:∀ a w,Ivt w0 I w->Kn a n (nds base ds (V x0) ops i0)->∀ rest,(∀ x w1,Ivt w0 (fun w=>I w/\Z x w) w1->Leads P K (b.at (a.put (some (ds i0)) (V x i0)) (.inRegion ops rest::k)) cs w1)->Leads P K (b.at a (.inRegion ops (i0::rest)::k)) cs w)
 (fin:∀ x a w,Ivt w0 (fun w=>I w/\Z x w) w->a.defers=D->Kn a n (base ++ (List.range ops.size).map fun i=>(ds i,V x i))->Leads P K (b.at a (.inRegion ops []::k)) cs w)
 (hl:∀ md,lowB md ops (rk md)=true:=by intro md;cases md <;> kernel_rfl):Leads P K (b.at a (.code (.region id ops true)::k)) cs w:=by
 refine leads_draw2 rk hl (fun L a w=>a.defers=D/\((L.getD i0 false=false/\(∀ i,i < ops.size->dep i=true->L.getD i false=false)/\Ivt w0 I w/\Kn a n (lst base ds (V x0) ops.size L))\/∃ x,L.getD i0 false=true/\Ivt w0 (fun w=>I w/\Z x w) w/\Kn a n (lst base ds (V x) ops.size L)))
  (fun w1 hs=>⟨hd,.inl ⟨by simp [Array.getD_eq_getD_getElem?,Array.getElem?_replicate];split <;> rfl,fun i _ _=>by simp [Array.getD_eq_getD_getElem?,Array.getElem?_replicate];split <;> rfl,hi.to hs,lst_none q⟩⟩) ?_ ?_
 ·rintro i L a w rest hi1 hun hn ⟨h2,h⟩ hk;have hL:i < L.size:=Classical.byContradiction fun hc=>by simp [Array.getD_eq_getD_getElem?,hc] at hun
  have hb1:∀ x∈base,x.1≠ds i:=fun x hx=>by have:=List.all_eq_true.1 (List.all_eq_true.1 hbase i (List.mem_range.2 hi1)) x hx;simpa using this
  have hset:∀ j,j≠i->(L.setIfInBounds i true).getD j false=L.getD j false:=fun j hj=>by
   simp only [Array.getD_eq_getD_getElem?,Array.getElem?_setIfInBounds,if_neg (Ne.symm hj)]
  by_cases e:i=i0
  ·subst e;rcases h with ⟨h3,h4,h5,h6⟩ | ⟨x,h3,h5,h6⟩
   ·refine step0 a w h5 (nds_kn h6 hn) rest fun x w1 h7=>hk _ w1 ⟨h2,.inr ⟨x,by simp [Array.getD_eq_getD_getElem?,hL],h7,?_⟩⟩;refine lst_put (V:=V x) (hinj i hi1) hb1 (hlt i hi1) (lst_swap (fun j hj hLj=>?_) h6);by_cases hdj:dep j=true
    ·rw [h4 j hj hdj] at hLj;cases hLj
    ·exact (hV x j hj (by simpa using hdj)).symm
   ·simp [Array.getD_eq_getD_getElem?,hL] at hun h3;rw [hun] at h3;cases h3
  ·rcases h with ⟨h3,h4,h5,h6⟩ | ⟨x,h3,h5,h6⟩
   ·have hdi:dep i=false:=by
     by_cases hd':dep i=true
     ·obtain ⟨d,hd1,hd2,hd3⟩:=hdep i hi1 hd' e;have:=hn d hd2;rw [h4 d hd1 hd3] at this;cases this
     ·simpa using hd'
    refine step i hi1 e x0 I (fun _ h=>h) (fun hd'=>by rw [hdi] at hd';cases hd') a w h5 (nds_kn h6 hn) rest fun w1 h7=>hk _ w1 ⟨h2,.inl ⟨?_,fun j hj hdj=>?_,h7,lst_put (hinj i hi1) hb1 (hlt i hi1) h6⟩⟩
    ·rw [hset _ (Ne.symm e)];exact h3
    ·rw [hset j (fun e'=>by subst e';rw [hdi] at hdj;cases hdj)];exact h4 j hj hdj
   ·exact step i hi1 e x _ (fun _ h=>h.1) (fun _ _ h=>h.2) a w h5 (nds_kn h6 hn) rest fun w1 h7=>hk _ w1 ⟨h2,.inr ⟨x,by rw [hset _ (Ne.symm e)];exact h3,h7,lst_put (hinj i hi1) hb1 (hlt i hi1) h6⟩⟩
 ·rintro L a w hs hall ⟨h2,h⟩;have hT:∀ i,i < ops.size->L.getD i false=true:=fun i hi2=>by
   have:=hall i hi2;have h5:i < L.size:=by omega
   simpa [Array.getD_eq_getD_getElem?,h5] using this
  rcases h with ⟨h3,_⟩ | ⟨x,_,h5,h6⟩
  ·rw [hT i0 hi0'] at h3;cases h3
  ·refine fin x a w h5 h2 ⟨h6.sz,knl_mem.2 fun y hy=>?_⟩;rcases List.mem_append.1 hy with hy | hy
   ·exact knl_mem.1 h6.kn y (List.mem_append_left _ hy)
   ·obtain ⟨i,hi2,rfl⟩:=List.mem_map.1 hy;exact lst_get h6 (List.mem_range.1 hi2) (hT i (List.mem_range.1 hi2))
theorem co_exP {a:Act} {w0 w:World} {I:World->Prop} {n:Nat} {l:List (Nat × Value)} (hi:Ivt w0 I w) {i:Nat} {rest:List Nat} (f:FuncId) (args:List Value) (j:Nat) {α:Type} {V:α->Value} {Z:α->World->Prop} (q:Kn a n l) (hz:∀ x w1 w2,Alike w1 w2->Z x w1->Z x w2)
 (hc:∀ W,I W->Calls Mz.prog f args.toArray W fun e w2=>∃ x,e=.returned (V x)/\Z x w2/\Below W.heap.size W w2)
 (h:∀ x w1,Ivt w0 (fun w=>I w/\Z x w) w1->Leads Tryz.prog K (b.at (a.put (some j) (V x)) (.inRegion ops rest::k)) cs w1)
 (hb:b.kind=.normal:=by rfl) (hg:badF f=false:=by rfl) (e:∀ d,callR Tryz.prog n d l ops i=some (f,args,j):=by intro d;kernel_rfl):Leads Tryz.prog K (b.at a (.inRegion ops (i::rest)::k)) cs w :=
 co_callP hi f args j q hz (lone_co hi.cl hz hc hg) (fun _ x w1 h1=>h x w1 h1) hb e
end
attribute [local go_sem] Oper.semAt_some
section
variable {P:Program} {K:Frame->List Frame->World->Prop} {b:Frame} {a:Act} {w0 w:World} {I:World->Prop} {k:List Item} {cs:List Frame} {n:Nat} {l:List (Nat × Value)} {D:List Deferred}
theorem co_opP {P:Program} (hi:Ivt w0 I w) {ops:Array Oper} {i j:Nat} {rest:List Nat} (v:Value) {o:Oper} (ho:ops[i]? = some o) (hw:Region.wanted o (yielded ops a.tmps)=true) (hdst:o.dst=some j)
 (hr:∀ W:World,(execOp a.eval o).run P W=.ok (.value v) W/\(execOp a.eval o).events P W #[]=#[])
 (h:∀ w1,Ivt w0 I w1->Leads P K (b.at (a.put (some j) v) (.inRegion ops rest::k)) cs w1) (hb:b.kind=.normal:=by rfl):Leads P K (b.at a (.inRegion ops (i::rest)::k)) cs w:=by
 refine leads_op v hb ho hw (fun W D hv d=>(hr _).1) (fun W D hv d e he=>?_) fun d=>?_
 ·rw [(hr _).2] at he;simp at he
 ·rw [hdst];exact h _ (hi.to (Stays.at w d))
theorem co_cellP {P:Program} (hi:Ivt w0 I w) {ops:Array Oper} {i j:Nat} {rest:List Nat} (v:Value) {r c:Nat} {o:Oper} (ho:ops[i]? = some o) (hw:Region.wanted o (yielded ops a.tmps)=true) (hdst:o.dst=some j) (hc:w.cell? ⟨r,c,none⟩=some v)
 (hr:∀ W:World,W.cell? ⟨r,c,none⟩=some v->(execOp a.eval o).run P W=.ok (.value v) W/\∀ e∈(execOp a.eval o).events P W #[],e.loc=.cell ⟨r,c,none⟩)
 (h:∀ w1,Ivt w0 I w1->Leads P K (b.at (a.put (some j) v) (.inRegion ops rest::k)) cs w1) (hb:b.kind=.normal:=by rfl):Leads P K (b.at a (.inRegion ops (i::rest)::k)) cs w:=by
 refine leads_op v hb ho hw (fun W D hv d=>(hr (W.at d) (hv.cell hc).2).1) (fun W D hv d e he=>?_) fun d=>?_
 ·have hk:=(hr (W.at d) (hv.cell hc).2).2 e he;obtain ⟨n0,y0⟩:=hv.cell hc;unfold EvOk;rw [hk];exact ⟨lt_of_cell (a:=⟨r,c,none⟩) y0,n0⟩
 ·rw [hdst];exact h _ (hi.to (Stays.at w d))
theorem op_rem2 {o:Oper} {p q:Nat} {t u:TypeId} {k m N:Nat} (hm:k % N=m) (ho:o.op=.binOp .rem t (.tmp p) (.tmp q) u) (hx:a.tmps[p]? = some (.int .i64 (k:Int))) (hy:a.tmps[q]? = some (.int .i64 (N:Int))) (hn:0 < N) (hk:k<=255) :
 ∀ W:World,(execOp a.eval o).run Tryz.prog W=.ok (.value (.int .i64 (m:Int))) W/\(execOp a.eval o).events Tryz.prog W #[]=#[]:=by
 subst hm;exact op_rem ho hx hy hn hk
end
def knAct (n:Nat) (l:List (Nat × Value)) (d:Nat->Value):Act:=⟨((List.range n).map fun i=>(l.lookup i).getD (d i)).toArray,[]⟩
theorem kn_lit {a:Act} {n:Nat} {l:List (Nat × Value)} (hd:a.defers=[]) (q:Kn a n l):∃ d,a=knAct n l d:=by
 obtain ⟨t,df⟩:=a;simp only at hd;subst hd;refine ⟨fun i=>t.getD i U,?_⟩;unfold knAct;congr 1;refine Array.ext (by simpa using q.sz) fun i h1 h2=>?_;have hi:i < n:=by simpa using h2
 simp only [List.getElem_toArray,List.getElem_map,List.getElem_range]
 cases hl:l.lookup i with
 | none=>simp [Array.getD_eq_getD_getElem?,h1]
 | some v =>
  have:=q.g i hl;simp only at this;rw [Array.getElem?_eq_getElem h1] at this;simpa using this
section
variable {P:Program} {B:Nat->Bool} {b:Frame} {k:List Item} {cs:List Frame} {S:Mute}
theorem wps_leadsI (hP:ProgOk P B) (hb:b.kind=.normal) (hg:B b.fn=false) {Q:Act->World->Prop}:∀ (l:List Code) {a:Act} {w w':World},Like P B S w w'->(∀ c∈l,codeOk P c=true)->a.defers=[]->(∀ t,wps (muteP B P) l Q a (w'.on t 0)) ->
 Leads P (fun fr' cs' w1=>∃ a' w1',fr'=b.at a' k/\cs'=cs/\Like P B S w1 w1'/\∀ t,Q a' (w1'.on t 0)) (b.at a (l.map Item.code ++ k)) cs w
 | [],a,w,w',hl,_,_,h=>.done ⟨a,w',rfl,rfl,hl,h⟩
 | c::l,a,w,w',hl,hc,hd,h=>by
  refine (wp_leads (k:=l.map Item.code ++ k) (Z:=fun a' W=>a'.defers=[]/\∀ t,wps (muteP B P) l Q a' (W.on t 0)) hP hl (hc c (List.mem_cons_self ..)) hb hg (by rw [hd];exact fun x hx=>(by cases hx)) fun t=>?_).trans ?_
  ·refine Code.wp_mono ?_ (h t);rintro e a' w2 ⟨he,h1,h2⟩;exact ⟨he,w2.tape,w2.drawn,h1,h2⟩
  ·rintro fr' cs' w1 ⟨a',w1',e1,e2,hl1,t,d,h1,h2⟩;rw [e1,e2];exact wps_leadsI hP hb hg l hl1 (fun c hm=>hc c (List.mem_cons_of_mem _ hm)) h1 h2
end
section
variable {K:Frame->List Frame->World->Prop} {b:Frame} {a:Act} {w0 w:World} {I:World->Prop} {k:List Item} {cs:List Frame} {n:Nat} {l:List (Nat × Value)}
theorem co_lones (hi:Ivt w0 I w) (ps:List Code) (hc:ps.all (codeOk Tryz.prog)=true) (q:Kn a n l) (hd:a.defers=[]) {α:Type} (L:α->List (Nat × Value)) (Z:α->World->Prop) (hz:∀ x w1 w2,Alike w1 w2->Z x w1->Z x w2)
 (h:∀ W d,I W->wps Mz.prog ps (fun a' w2=>∃ x,a'.defers=[]/\Kn a' n (L x)/\Z x w2/\Old W w2) (knAct n l d) W)
 (hk:∀ x a1 w1,Ivt w0 (fun w=>I w/\Z x w) w1->a1.defers=[]->Kn a1 n (L x)->Leads Tryz.prog K (b.at a1 k) cs w1) (hb:b.kind=.normal:=by rfl) (hg:badF b.fn=false:=by rfl) :
 Leads Tryz.prog K (b.at a (ps.map Item.code ++ k)) cs w:=by
 obtain ⟨d,rfl⟩:=kn_lit hd q;have hl:=muted_like Tryz.prog badF w;have hc':=fun c hm=>List.all_eq_true.1 hc c hm;refine (wps_leadsI (Q:=fun a' W2=>(∃ x,a'.defers=[]/\Kn a' n (L x)/\Z x W2)/\Old (muted w) W2) progOk hb hg ps hl hc' hd fun t=>?_).trans ?_
 ·refine wps_mono ?_ ps (h _ d (hi.cl _ _ (muted_twin w t).alike hi.it));rintro a' w2 ⟨x,h1,h2,h3,h4⟩;exact ⟨⟨x,h1,h2,h3⟩,h4.os,h4.output,h4.size,h4.block⟩
 ·rintro fr' cs' w1 ⟨a',w1',e1,e2,h3,hq⟩;rw [e1,e2];obtain ⟨⟨x,g1,g2,g3⟩,ho⟩:=hq w1'.tape;have hst:Stays w w1:=(like_old hl h3 (d2:=0) (t:=w1'.tape) (t2:=w1'.tape) ⟨ho.os,rfl,ho.output,ho.size,ho.block⟩:Old w w1).stays;exact hk x a' w1 (hi.and hst (hz x) (hz x _ _ (like_twin hl h3 w1'.tape 0).alike g3)) g1 g2
theorem co_lone (hi:Ivt w0 I w) {c:Code} (hc:codeOk Tryz.prog c=true) (q:Kn a n l) (hd:a.defers=[]) {α:Type} (L:α->List (Nat × Value)) (Z:α->World->Prop) (hz:∀ x w1 w2,Alike w1 w2->Z x w1->Z x w2)
 (h:∀ W d,I W->c.wp Mz.prog (fun e a' w2=>match e with | .normal=>∃ x,a'.defers=[]/\Kn a' n (L x)/\Z x w2/\Old W w2 | _=>False) (knAct n l d) W)
 (hk:∀ x a1 w1,Ivt w0 (fun w=>I w/\Z x w) w1->a1.defers=[]->Kn a1 n (L x)->Leads Tryz.prog K (b.at a1 k) cs w1) (hb:b.kind=.normal:=by rfl) (hg:badF b.fn=false:=by rfl) :
 Leads Tryz.prog K (b.at a (.code c::k)) cs w:=by
 refine co_lones hi [c] (by simp [hc]) q hd L Z hz (fun W d hW=>Code.wp_mono ?_ (h W d hW)) hk hb hg;rintro e a' w2 hp;cases e <;> simp only at hp;obtain ⟨x,h1,h2,h3,h4⟩:=hp;exact ⟨rfl,h1,fun t=>⟨x,h1,h2,hz x _ _ ((Old.refl w2).on t 0).alike h3,h4.on t 0⟩⟩
end
end Mt
end Go.Proofs.YtgkajecjbflbbaaGreatDoor
