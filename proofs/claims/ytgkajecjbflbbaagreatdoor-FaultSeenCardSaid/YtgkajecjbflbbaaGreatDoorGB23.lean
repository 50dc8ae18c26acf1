/- the fault laws -/
import Derived.Test.YtgkajecjbflbbaaGreatDoorGB20
set_option maxHeartbeats 4000000
set_option maxRecDepth 100000
set_option linter.all false
namespace Go.Proofs.YtgkajecjbflbbaaGreatDoor
namespace Mt
open Go Go.RowKit Go.Maps
structure R6 where
 a:Bool
 b:Bool
 c:Bool
 d:Bool
 e:Bool
 f:Bool
deriving DecidableEq
def R6.get (r:R6):Nat->Bool
 | 0=>r.a
 | 1=>r.b
 | 2=>r.c
 | 3=>r.d
 | 4=>r.e
 | 5=>r.f
 | _=>false
def R6.of (g:Nat->Bool):R6:=⟨g 0,g 1,g 2,g 3,g 4,g 5⟩
abbrev R6.v (r:R6):Value:=.agg #[.bool r.a,.bool r.b,.bool r.c,.bool r.d,.bool r.e,.bool r.f]
def RowsAt (w:World) (a:Option Addr) (l:List R6):Prop:=∀ i (h:i < l.length),∃ b o,a=some ⟨b,o,none⟩/\b < w.heap.size/\∀ j,j < 6->w.cell? ⟨b,o+i * 6+j,none⟩=some (.bool (l[i].get j))
theorem RowsAt.below {w w':World} {a:Option Addr} {l:List R6} (h:RowsAt w a l) (hb:Below w.heap.size w w'):RowsAt w' a l:=fun i hi=>by
 obtain ⟨b,o,e,hlt,h1⟩:=h i hi;exact ⟨b,o,e,Nat.lt_of_lt_of_le hlt hb.size,fun j hj=>(hb.cell hlt).trans (h1 j hj)⟩
theorem eq6_any (n:Nat) (x y:R6) (w:World):Sem.run Mz.prog (Op.equalIn (n+3) 111 x.v y.v) w=.ok (decide (x=y)) w:=by
 obtain ⟨x0,x1,x2,x3,x4,x5⟩:=x;obtain ⟨y0,y1,y2,y3,y4,y5⟩:=y;by_cases h:x0=y0
 case neg=>(cases x0 <;> cases y0 <;> first | exact absurd rfl h | kernel_rfl)
 subst h;by_cases h:x1=y1
 case neg=>(cases x0 <;> cases x1 <;> cases y1 <;> first | exact absurd rfl h | kernel_rfl)
 subst h;by_cases h:x2=y2
 case neg=>(cases x0 <;> cases x1 <;> cases x2 <;> cases y2 <;> first | exact absurd rfl h | kernel_rfl)
 subst h;by_cases h:x3=y3
 case neg=>(cases x0 <;> cases x1 <;> cases x2 <;> cases x3 <;> cases y3 <;> first | exact absurd rfl h | kernel_rfl)
 subst h;by_cases h:x4=y4
 case neg=>(cases x0 <;> cases x1 <;> cases x2 <;> cases x3 <;> cases x4 <;> cases y4 <;> first | exact absurd rfl h | kernel_rfl)
 subst h;by_cases h:x5=y5
 case neg=>(cases x0 <;> cases x1 <;> cases x2 <;> cases x3 <;> cases x4 <;> cases x5 <;> cases y5 <;> first | exact absurd rfl h | kernel_rfl)
 subst h;cases x0 <;> cases x1 <;> cases x2 <;> cases x3 <;> cases x4 <;> cases x5 <;> kernel_rfl
theorem eq6_at (x y:R6) (w:World):Sem.run Mz.prog (Op.equalIn 10000 111 x.v y.v) w=.ok (decide (x=y)) w:=eq6_any 9997 x y w
theorem guard6_at (p q:Operand) (x y:R6) (w:World):Sem.run Mz.prog (eqGuard .eql 111 p q x.v y.v) w=.ok () w:=by kernel_rfl
section
variable {w:World} {a:Option Addr} {l:List R6} {c:Nat} {v:R6}
attribute [local go_sem] Oper.semAt_some
theorem rowIndex_at (h:RowsAt w a l) (hl:l.length<=1000000):Calls Mz.prog 161 #[.slice a l.length c,v.v] w fun e w'=>∃ r:Int,e=.returned (.int .i64 r)/\(0<=r↔v∈l)/\Below w.heap.size w w':=by
 have H:=Hh h;obtain ⟨v0,v1,v2,v3,v4,v5⟩:=v;clear h;unfold R6.v
 go_enter (mz_func (i:=161) rfl Tryz.func161),Tryz.ntmps161
 go_wp2;obtain ⟨W0,hW0⟩:∃ W0,W0=w.alloc (.cells #[.bool v0,.bool v1,.bool v2,.bool v3,.bool v4,.bool v5] 111):=⟨_,rfl⟩;rw [<- hW0];have hb0:Below w.heap.size w W0:=by rw [hW0];(exact bel)
 have q:∀ k u,(#[.bool v0,.bool v1,.bool v2,.bool v3,.bool v4,.bool v5]:Array Value)[k]? = some u->W0.cell? ⟨w.heap.size,k,none⟩=some u:=fun k u hk=>by rw [hW0,World.cell?_alloc_at _ _ _ _ rfl];exact hk
 have q0:=q 0 _ rfl;have q1:=q 1 _ rfl;have q2:=q 2 _ rfl;have q3:=q 3 _ rfl;have q4:=q 4 _ rfl;have q5:=q 5 _ rfl;have hs0:w.heap.size < W0.heap.size:=by rw [hW0];simp
 have HB0:=Hh hb0;clear hW0 hb0 q;go_loopw [8] (fun i wr=>∃ k:Nat,k<=l.length/\i=.int .i64 k/\Hid (∀ j (hj:j < l.length),j < k->l[j]≠⟨v0,v1,v2,v3,v4,v5⟩)/\Below W0.heap.size W0 wr) (fun i _=>l.length - (intOf i).toNat)
 case atStart=>exact ⟨0,Nat.zero_le _,rfl,fun j _ hj=>absurd hj (Nat.not_lt_zero _),Below.refl _ _⟩
 case round =>
  obtain ⟨k,hk,rfl,hno,hW⟩:=hrel;have x0:=(hW.cell (p:=⟨w.heap.size,0,none⟩) hs0).trans q0;have x1:=(hW.cell (p:=⟨w.heap.size,1,none⟩) hs0).trans q1;have x2:=(hW.cell (p:=⟨w.heap.size,2,none⟩) hs0).trans q2;have x3:=(hW.cell (p:=⟨w.heap.size,3,none⟩) hs0).trans q3;have x4:=(hW.cell (p:=⟨w.heap.size,4,none⟩) hs0).trans q4;have x5:=(hW.cell (p:=⟨w.heap.size,5,none⟩) hs0).trans q5;have HW:=Hh hW;clear hW;by_cases hlt:k < l.length
  ·obtain ⟨b,o,rfl,hb,h1⟩:=(H.out.below (Below.next HB0.out HW.out)) k hlt;obtain ⟨x,hx⟩:∃ x,l[k]=x:=⟨_,rfl⟩;rw [hx] at h1;have y0:=h1 0 (by omega);have y1:=h1 1 (by omega);have y2:=h1 2 (by omega);have y3:=h1 3 (by omega);have y4:=h1 4 (by omega);have y5:=h1 5 (by omega);obtain ⟨z0,z1,z2,z3,z4,z5⟩:=x;simp only [R6.get,Nat.add_zero] at y0 y1 y2 y3 y4 y5;have HX:=Hh hx;clear hx h1;have gd:=fun p q=>guard6_at p q ⟨v0,v1,v2,v3,v4,v5⟩ ⟨z0,z1,z2,z3,z4,z5⟩;have ge:=eq6_at ⟨v0,v1,v2,v3,v4,v5⟩ ⟨z0,z1,z2,z3,z4,z5⟩;simp only [R6.v] at gd ge;by_cases he:(⟨v0,v1,v2,v3,v4,v5⟩:R6)=⟨z0,z1,z2,z3,z4,z5⟩
   ·rw [decide_eq_true he] at ge;have HE:=Hh he;clear he;go_wp2
    go_region
    go_wp2;go_ret;refine ⟨_,rfl,⟨fun _=>?_,fun _=>by omega⟩,by have:=Below.next HB0.out HW.out;(exact bel)⟩;rw [HE.out,<- HX.out];exact List.getElem_mem hlt
   ·rw [decide_eq_false he] at ge;have HE:=Hh he;clear he;go_wp2
    go_region
    go_wp2;go_roundw
    case rel =>
     refine ⟨k+1,hlt,by go_num,fun j hj hjk=>?_,HW.out.drew⟩;by_cases e:j < k
     ·exact hno.out j hj e
     ·obtain rfl:j=k:=by omega
      exact fun e=>HE.out (e.symm.trans HX.out)
    case measure=>simp [intOf];omega
  ·obtain rfl:k=l.length:=by omega
   go_wp2;go_ret;refine ⟨_,rfl,⟨fun h=>by omega,fun h=>?_⟩,Below.next HB0.out HW.out⟩;obtain ⟨j,hj,e⟩:=List.getElem_of_mem h;exact absurd e (hno.out j hj hj)
theorem rowHas_at {t:Bool} (h:RowsAt w a l) (hl:l.length<=1000000) (ht:decide (v∈l)=t):Calls Mz.prog 126 #[.slice a l.length c,v.v] w fun e w'=>e=.returned (.bool t)/\Below w.heap.size w w':=by
 have H:=Hh h;have HT:=Hh ht;obtain ⟨v0,v1,v2,v3,v4,v5⟩:=v;clear h ht;unfold R6.v
 go_enter (mz_func (i:=126) rfl Tryz.func126),Tryz.ntmps126
 go_wp2_with (go_at_call 161;(with_reducible refine (rowIndex_at (v:=⟨v0,v1,v2,v3,v4,v5⟩) (H.out.below (bel)) hl).mono ?_);rintro e w1 ⟨r,rfl,hr,hb1⟩);go_ret;refine ⟨?_,bel⟩;rw [<- HT.out];simp [hr]
end
theorem mz_laidOut:laidOutB Mz.prog=true:=by kernel_rfl
theorem stWide:(match Mz.prog.underlying 96 with | some (.array _ _) | some (.struct _)=>true | _=>false)=true:=by kernel_rfl
theorem stKeyed:Keyed Mz.prog 96:=Keyed.of_law (deep_law_laid mz_laidOut (m:=2) (by omega) (of_decide_eq_true (by kernel_rfl)) (by kernel_rfl) stWide)
theorem resWide:(match Mz.prog.underlying 111 with | some (.array _ _) | some (.struct _)=>true | _=>false)=true:=by kernel_rfl
theorem resKeyed:Keyed Mz.prog 111:=Keyed.of_law (deep_law_laid mz_laidOut (m:=3) (by omega) (of_decide_eq_true (by kernel_rfl)) (by kernel_rfl) resWide)
theorem mz_types:∃ m,Mz.prog.types.size=m+1+1:=by
 have:2<=Mz.prog.types.size:=of_decide_eq_true (by kernel_rfl);exact ⟨_,(Nat.sub_add_cancel this).symm⟩
theorem stKeyType:Mz.prog.keyType 96=true:=by kernel_rfl
theorem stCells:Mz.prog.cellsOf 96=6:=by kernel_rfl
theorem staCells:Mz.prog.cellsOf 54=1:=by kernel_rfl
theorem stKey (s:Nat->Nat) (h:∀ k,s k < 3):∃ kl,Go.keyOf Mz.prog 96 (stV s)=some kl:=by
 have h0:∀ k,(Lit.int .i64 (s k:Int)).wf=true:=fun k=>by
  have:=h k;have:s k=0\/s k=1\/s k=2:=by omega
  rcases this with e | e | e <;> rw [e] <;> decide
 have u1:Mz.prog.underlying 96=some (.array 6 54):=by kernel_rfl
 have u2:Mz.prog.underlying 54=some (.int .i64):=by kernel_rfl
 refine ⟨.string (keyBytes [.int .i64 (s 0:Int),.int .i64 (s 1:Int),.int .i64 (s 2:Int),.int .i64 (s 3:Int),.int .i64 (s 4:Int),.int .i64 (s 5:Int)]),?_⟩;obtain ⟨m,hm⟩:=mz_types;unfold Go.keyOf;simp only [u1];rw [if_pos (by simp [stKeyType,Value.formed,u1,stCells,stV]),hm];unfold Program.keyLits;simp only [u1,Value.cells,stV];rw [if_pos (by rw [stCells];rfl)];simp [Program.keyLits,staCells,u2,h0,List.range,List.range.loop]
theorem resKey (x:R6):∃ kl,Go.keyOf Mz.prog 111 x.v=some kl:=by
 obtain ⟨a,b,c,d,e,f⟩:=x;exact ⟨.string (keyBytes [.bool a,.bool b,.bool c,.bool d,.bool e,.bool f]),by kernel_rfl⟩
def resD (x:R6):DataW Unit:=.agg [.lit (.bool x.a),.lit (.bool x.b),.lit (.bool x.c),.lit (.bool x.d),.lit (.bool x.e),.lit (.bool x.f)]
def resElem (v:Value):Option (DataW Unit × List MemPlace):=match v with
 | .agg ⟨[.bool a,.bool b,.bool c,.bool d,.bool e,.bool f]⟩=>some (resD ⟨a,b,c,d,e,f⟩,[])
 | _=>none
theorem resElem_v (x:R6):resElem x.v=some (resD x,[]):=rfl
theorem resElem_inv {v:Value} {x:R6} {ps:List MemPlace} (h:resElem v=some (resD x,ps)):v=x.v:=by
 unfold resElem at h;split at h
 ·simp only [Option.some.injEq,Prod.mk.injEq,resD,DataW.agg.injEq,List.cons.injEq,DataW.lit.injEq,Lit.bool.injEq] at h;obtain ⟨⟨rfl,rfl,rfl,rfl,rfl,rfl,_⟩,_⟩:=h;rfl
 ·cases h
def KnownAt (w:World) (b n:Nat):Prop:=∃ D:DataW Unit,w.ownsMap Mz.prog 96 resElem b n D/\IsMap D
def KnownIs (w:World) (b n:Nat) (s:Nat->Nat) (x:R6):Prop:=∃ D:DataW Unit,w.ownsMap Mz.prog 96 resElem b n D/\IsMap D/\∀ kl,Go.keyOf Mz.prog 96 (stV s)=some kl->∀ z,D.atKey kl z=resD x
section
variable {w w':World} {b n:Nat} {s:Nat->Nat} {x:R6}
theorem KnownIs.at (h:KnownIs w b n s x):KnownAt w b n:=by
 obtain ⟨D,h1,h2,_⟩:=h;exact ⟨D,h1,h2⟩
theorem KnownAt.same (h:KnownAt w b n) (hb:w'.heap[b]? = w.heap[b]?):KnownAt w' b n:=by
 obtain ⟨D,h1,h2⟩:=h;exact ⟨D,ownsMap_same h1 hb,h2⟩
theorem KnownIs.same (h:KnownIs w b n s x) (hb:w'.heap[b]? = w.heap[b]?):KnownIs w' b n s x:=by
 obtain ⟨D,h1,h2⟩:=h;exact ⟨D,ownsMap_same h1 hb,h2⟩
theorem KnownAt.lt (h:KnownAt w b n):b < w.heap.size:=by
 obtain ⟨D,h1,_⟩:=h;exact h1.lt
theorem KnownAt.below (h:KnownAt w b n) (hb:Below w.heap.size w w'):KnownAt w' b n:=h.same (hb.block _ h.lt)
theorem KnownIs.below (h:KnownIs w b n s x) (hb:Below w.heap.size w w'):KnownIs w' b n s x:=h.same (hb.block _ h.at.lt)
theorem KnownAt.made (w:World):KnownAt (w.alloc (.map #[] 0)) w.heap.size 0:=⟨.map [],World.ownsMap_made w _ _ _,isMap_empty⟩
theorem known_map:Mz.prog.underlying 172=some (.map 96 111):=by kernel_rfl
theorem known_zero (w:World):(zeroValue 111).run Mz.prog w=.ok (.agg #[.bool false,.bool false,.bool false,.bool false,.bool false,.bool false]) w:=by kernel_rfl
theorem KnownAt.put (h:KnownAt w b n) (hn:n < maxLen) (h3:∀ k,s k < 3) (x:R6):∃ w',(Instr.mapUpdate 172 (.map (some b)) (stV s) x.v).run Mz.prog w=.ok () w'/\KnownIs w' b (n+1) s x/\w.grownBy w' (some b):=by
 obtain ⟨D,h1,h2⟩:=h;obtain ⟨kl,hk⟩:=stKey s h3;obtain ⟨w',hrun,hown,hg⟩:=h1.update stKeyed known_map hn hk (resElem_v x);refine ⟨w',hrun,⟨_,hown,h2.put _ _,fun kl' hk' z=>?_⟩,hg⟩;rw [hk] at hk';cases hk';exact atKey_put_same h2 (stKeyed.key hk) _ _
theorem KnownIs.look (h:KnownIs w b n s x) (h3:∀ k,s k < 3):(Instr.lookup 172 (.map (some b)) (stV s) false).run Mz.prog w=.ok x.v w:=by
 obtain ⟨D,h1,h2,h4⟩:=h;obtain ⟨kl,hk⟩:=stKey s h3;obtain ⟨v,ps,hrun,hv⟩:=h1.lookup stKeyed known_map (known_zero w) (resElem_v ⟨false,false,false,false,false,false⟩) hk;rw [h4 kl hk] at hv;rw [hrun,resElem_inv hv]
theorem wpl_known_put {ops:Array Oper} {rest:List Oper} {o:Oper} {a:Act} {Q:Exit->Act->World->Prop} (hg:o.guard=none) (m k v:Operand) (hop:o.op=Op.mapUpdate 172 m k v) (h:KnownAt w b n) (hn:n < maxLen) (h3:∀ k,s k < 3)
 (hm:a.eval m=.map (some b)) (hk:a.eval k=stV s) (hv:a.eval v=x.v) (hK:∀ w',KnownIs w' b (n+1) s x->w.grownBy w' (some b)->wpList Mz.prog ops Q rest (a.put o.dst undef) w'):wpList Mz.prog ops Q (o::rest) a w:=by
 refine wpList_plain hg fun K' hK'=>?_;obtain ⟨w',hrun,h1,h2⟩:=h.put hn h3 x;unfold Oper.wp;simp [execOp,hop,hm,hk,hv,hrun,Result.andThen];exact hK' _ _ (hK w' h1 h2)
theorem wpl_known_look {ops:Array Oper} {rest:List Oper} {o:Oper} {a:Act} {Q:Exit->Act->World->Prop} (hg:o.guard=none) (m k:Operand) (hop:o.op=Op.lookup 172 m k false) (h:KnownIs w b n s x) (h3:∀ k,s k < 3)
 (hm:a.eval m=.map (some b)) (hk:a.eval k=stV s) (hK:wpList Mz.prog ops Q rest (a.put o.dst x.v) w):wpList Mz.prog ops Q (o::rest) a w:=by
 refine wpList_plain hg fun K' hK'=>?_;unfold Oper.wp;simp [execOp,hop,hm,hk,h.look h3,Result.andThen];exact hK' _ _ hK
end
attribute [local go_sem] Oper.semAt_some
def R6.cs (x:R6):List Value:=[.bool x.a,.bool x.b,.bool x.c,.bool x.d,.bool x.e,.bool x.f]
theorem cs_flat:∀ (l:List R6),(l.flatMap R6.cs).length=l.length * 6
 | []=>rfl
 | x::l=>by rw [List.flatMap_cons,List.length_append,cs_flat l,List.length_cons,show x.cs.length=6 from rfl];omega
theorem cs_get:∀ (l:List R6) (i j:Nat) (h:i < l.length),j < 6->(l.flatMap R6.cs)[i * 6+j]? = some (.bool (l[i].get j))
 | x::l,0,j,_,hj=>by
  rw [List.flatMap_cons,List.getElem?_append_left (by show _ < 6;omega),Nat.zero_mul,Nat.zero_add];have:j=0\/j=1\/j=2\/j=3\/j=4\/j=5:=by omega
  rcases this with rfl | rfl | rfl | rfl | rfl | rfl <;> rfl
 | x::l,i+1,j,h,hj=>by
  rw [List.flatMap_cons,List.getElem?_append_right (by show 6<=_;omega),show (i+1) * 6+j - x.cs.length=i * 6+j from by show _ - 6=_;omega,cs_get l i j (by simpa using h) hj];rfl
theorem rows_row {w:World} {base n c:Nat} {a:Option Addr} {l:List R6} (h:w.ownsRow base 111 6 (.slice a n c) n (l.flatMap R6.cs)):RowsAt w a l:=fun i hi=>by
 have hx:∀ j,j < 6->i * 6+j < (l.flatMap R6.cs).length:=fun j hj=>by rw [cs_flat];omega
 obtain ⟨g,rfl,_,h2,_⟩:=row_cell h (i * 6+0) (hx 0 (by omega));refine ⟨g,0,rfl,h2,fun j hj=>?_⟩;obtain ⟨g',e,_,_,h3⟩:=row_cell h (i * 6+j) (hx j hj);cases e;rw [Nat.zero_add,h3,cs_get l i j hi hj]
theorem resInfo:(Mz.prog.info? 111).map (fun i=>(i.zero,i.size,i.bytes))=some (some (.agg #[.bool false,.bool false,.bool false,.bool false,.bool false,.bool false]),6,6):=by
 show (Tryz.prog.info? 111).map _=_
 kernel_rfl
theorem wpl_app6 {w:World} {ops:Array Oper} {rest:List Oper} {o:Oper} {a:Act} {Q:Exit->Act->World->Prop} (hgd:o.guard=none) (s x:Operand)
 (ho:o.op=.call { callee:=.builtin .append,args:=#[s,x],argTypes:=#[116,116] })
 (base:Nat) (l:List R6) (v:Value) (hs:a.eval s=v) (hown:w.ownsRow base 111 6 v l.length (l.flatMap R6.cs)) (hbase:base<=w.heap.size) (hk:l.length<=1000000) (r:R6)
 {n:Nat} (hn:n=w.heap.size) (hx:a.eval x=.slice (some ⟨n,0,none⟩) 1 1)
 (h:∀ g cap w',w'.ownsRow base 111 6 (.slice (some ⟨g,0,none⟩) (l ++ [r]).length cap) (l ++ [r]).length ((l ++ [r]).flatMap R6.cs)->Below base w w'->wpList Mz.prog ops Q rest (a.put o.dst (.slice (some ⟨g,0,none⟩) (l ++ [r]).length cap)) w') :
 wpList Mz.prog ops Q (o::rest) a (w.alloc (.cells #[.bool r.a,.bool r.b,.bool r.c,.bool r.d,.bool r.e,.bool r.f] 111)):=by
 subst hn;obtain ⟨i,hi,hz,hsz,hb⟩:=info_parts resInfo;have hal:(w.alloc (.cells #[.bool r.a,.bool r.b,.bool r.c,.bool r.d,.bool r.e,.bool r.f] 111)).ownsRow base 111 6 v l.length (l.flatMap R6.cs):=hown.alloc _;have hle:base<=(w.alloc (.cells #[.bool r.a,.bool r.b,.bool r.c,.bool r.d,.bool r.e,.bool r.f] 111)).heap.size:=by simp;omega
 refine wpList_append_own _ hgd s x 116 ho base 111 i _ 6 6 (mzu Tryz.underlying116) hi hz hsz hb rfl (by decide) v l.length _ hs hal ⟨w.heap.size,0,none⟩ 1 1 r.cs hx rfl (cells_new w r.cs 111) (by simp [R6.cs,Value.oneCell']) (by unfold maxLen;omega) (by omega) hle ?_;intro v' w' hown' hg _;obtain ⟨g,cap,rfl⟩:=ownsRow_succ hown';have e1:(l ++ [r]).length=l.length+1:=by simp
 have e2:(l ++ [r]).flatMap R6.cs=l.flatMap R6.cs ++ r.cs:=by simp [List.flatMap_append]
 have h':=h g cap w';rw [e1,e2] at h';exact h' hown' (((Below.refl base w).alloc hbase _).trans (below_own hal hg hle))
def addRow (out:List R6) (r:R6):List R6:=if r∈out then out else out ++ [r]
def rowOf (b:Fbk) (s:Nat->Nat):R6:=R6.of (passTo s b.tests b.tests.length)
def rowsI (b:Fbk) (l:List (Nat->Nat)):List R6:=l.foldl (fun out s=>addRow out (rowOf b s)) []
theorem rowsI_snoc (b:Fbk) (l:List (Nat->Nat)) (s:Nat->Nat):rowsI b (l ++ [s])=addRow (rowsI b l) (rowOf b s):=by simp [rowsI,List.foldl_append]
theorem addRow_len (out:List R6) (r:R6):(addRow out r).length<=out.length+1:=by
 unfold addRow;split <;> simp
theorem rowsTo_len (b:Fbk) (l:List (Nat->Nat)):∀ k,(rowsI b (l.take k)).length<=k
 | 0=>by simp [rowsI]
 | k+1=>by
  by_cases h:k < l.length
  ·rw [List.take_succ_eq_append_getElem h,rowsI_snoc];exact Nat.le_trans (addRow_len _ _) (Nat.succ_le_succ (rowsTo_len b l k))
  ·rw [show l.take (k+1)=l.take k by rw [List.take_of_length_le (by omega),List.take_of_length_le (by omega)]];exact Nat.le_succ_of_le (rowsTo_len b l k)
def RowsRet (w:World) (l:List R6) (e:Ending) (w':World):Prop:=∃ a c,e=.returned (.slice a l.length c)/\RowsAt w' a l/\Below w.heap.size w w'
section
variable {b:Fbk} {vm vd vt:Value} {w:World}
theorem rows_at {a:Option Addr} {c:Nat} {l:List (Nat->Nat)} (hB:FBookAt w b vm vd vt) (hA:ActsAt w) (hS:StatesAt w a l) (h3:∀ s∈l,∀ k,s k < 3) (hp:PathsIn b.tests) (h6:b.tests.length<=6) (hl:l.length<=1000) :
 Calls Mz.prog 85 #[.agg #[vm,vd,vt],.slice a l.length c] w (RowsRet w (rowsI b l)):=by
 have HB:=Hh hB;have HA:=Hh hA;have HS:=Hh hS;have H3:=Hh h3;have HP:=Hh hp;obtain ⟨rfl,⟨da,dc,rfl,_,_⟩,ta,tc,rfl,_,_⟩:=hB;clear hA hS h3 hp;have hmm:=@run_makeMap Mz.prog
 go_enter (mz_func (i:=85) rfl Tryz.func85),Tryz.ntmps85
 go_wp2;obtain ⟨W0,hW0⟩:∃ W0,W0=(w.alloc (.cells #[.int .i64 b.most,.slice da b.devs.length dc,.slice ta b.tests.length tc] 88)).alloc (.map #[] 0):=⟨_,rfl⟩;rw [<- hW0];have hb0:Below w.heap.size w W0:=by rw [hW0];(exact bel)
 have hs0:W0.heap.size=w.heap.size+1+1:=by rw [hW0];simp
 have q:∀ k u,(#[.int .i64 b.most,.slice da b.devs.length dc,.slice ta b.tests.length tc]:Array Value)[k]? = some u->W0.cell? ⟨w.heap.size,k,none⟩=some u:=fun k u hk=>by rw [hW0,World.cell?_alloc_past _ _ _ (by simp),World.cell?_alloc_at _ _ _ _ rfl];exact hk
 have q0:=q 0 _ rfl;have q1:=q 1 _ rfl;have q2:=q 2 _ rfl;have hm0:KnownAt W0 (w.heap.size+1) 0:=by
  have:=KnownAt.made (w.alloc (.cells #[.int .i64 b.most,.slice da b.devs.length dc,.slice ta b.tests.length tc] 88));rw [hW0];simpa using this
 clear hW0 q hmm;have HB0:=Hh hb0;have HM0:=Hh hm0;clear hb0 hm0;go_loopw [6,13] (fun v i wr=>∃ (k:Nat) (a:Option Addr) (c:Nat),k<=l.length/\i=.int .i64 k/\v=.slice a (rowsI b (l.take k)).length c/\wr.ownsRow W0.heap.size 111 6 (.slice a (rowsI b (l.take k)).length c) (rowsI b (l.take k)).length ((rowsI b (l.take k)).flatMap R6.cs)/\KnownAt wr (w.heap.size+1) k/\KS (fun k=>k≠w.heap.size+1) W0 wr) (fun _ i _=>l.length - (intOf i).toNat)
 case atStart=>exact ⟨0,none,0,Nat.zero_le _,rfl,rfl,by simpa [rowsI] using World.ownsRow_nil _ _ _ _,HM0.out,KS.refl _ _⟩
 case round =>
  obtain ⟨k,a2,c2,hk,rfl,rfl,hrow,hM,hW⟩:=hrel;have hWs:=hW.size;obtain ⟨wo,rfl⟩:∃ x,x=wr:=⟨_,rfl⟩;have hle:=rowsTo_len b l k;have hlw:w.heap.size < wo.heap.size:=by omega
  have hlm:w.heap.size+1 < wo.heap.size:=by omega
  have hbw:Below w.heap.size w wo:=⟨hW.os.trans HB0.out.os,hW.tape.trans HB0.out.tape,hW.output.trans HB0.out.output,Nat.le_trans HB0.out.size hW.size,fun k hk=>(hW.block k (by omega) (by omega)).trans (HB0.out.block k hk)⟩;have p0:=(hW.cell (x:=⟨w.heap.size,0,none⟩) (by simp;omega) (by simp)).trans q0;have p1:=(hW.cell (x:=⟨w.heap.size,1,none⟩) (by simp;omega) (by simp)).trans q1;have p2:=(hW.cell (x:=⟨w.heap.size,2,none⟩) (by simp;omega) (by simp)).trans q2;have HROW:=Hh hrow;have HW:=Hh hW;have HM:=Hh hM;have HBW:=Hh hbw;clear hrow hW hM hbw;by_cases hlt:k < l.length
  ·obtain ⟨sb,so,rfl,hsb,hsc⟩:=(HS.out.below HBW.out) k hlt;have h3k:=H3.out _ (List.getElem_mem hlt);have hsn:rowsI b (l.take (k+1))=addRow (rowsI b (l.take k)) (rowOf b l[k]):=by rw [List.take_succ_eq_append_getElem hlt,rowsI_snoc]
   generalize l[k]=s at hsc h3k hsn;have d0:=hsc 0 (by omega);have d1:=hsc 1 (by omega);have d2:=hsc 2 (by omega);have d3:=hsc 3 (by omega);have d4:=hsc 4 (by omega);have d5:=hsc 5 (by omega);simp only [Nat.add_zero] at d0;obtain ⟨r,hr⟩:∃ r,rowOf b s=r:=⟨_,rfl⟩;have hrv:resV s b.tests=r.v:=by rw [<- hr];rfl
   rw [hr] at hsn;have H3K:=Hh h3k;have HSN:=Hh hsn;have HRV:=Hh hrv;clear hsc h3k hsn hr hrv;generalize rowsI b (l.take k)=R at hle HROW HSN;obtain ⟨r0,r1,r2,r3,r4,r5⟩:=r;by_cases hin:(⟨r0,r1,r2,r3,r4,r5⟩:R6)∈R
   ·have hsn2:rowsI b (l.take (k+1))=R:=by rw [HSN.out];unfold addRow;rw [if_pos hin]
    have HS2:=Hh hsn2;have HIN:=Hh (show decide ((⟨r0,r1,r2,r3,r4,r5⟩:R6)∈R)=true from decide_eq_true hin);clear hsn2 hin;go_wp2_with (first
     | (go_at_call 123;(with_reducible refine (results_at (s:=s) (HB.out.below (Below.al HBW.out _)) (HA.out.below (Below.al HBW.out _)) H3K.out HP.out h6).mono ?_);rintro e w3 ⟨rfl,hb3⟩;rw [HRV.out];have hz3:wo.heap.size < w3.heap.size:=(by have:=hb3.size;simp at this;omega);have y3:=fun j u (hj:(#[.int .i64 (s 0:Int),.int .i64 (s 1:Int),.int .i64 (s 2:Int),.int .i64 (s 3:Int),.int .i64 (s 4:Int),.int .i64 (s 5:Int)]:Array Value)[j]? = some u)=>((Below.al (Below.refl w3.heap.size w3) (.cells #[.bool r0,.bool r1,.bool r2,.bool r3,.bool r4,.bool r5] 111)).cell (p:=⟨wo.heap.size,j,none⟩) hz3).trans ((hb3.cell (p:=⟨wo.heap.size,j,none⟩) (by simp)).trans (by rw [World.cell?_alloc_at _ _ _ _ rfl];exact hj:_=some u));have Y3:=Hh y3;have y30:=y3 0 _ rfl;have y31:=y3 1 _ rfl;have y32:=y3 2 _ rfl;have y33:=y3 3 _ rfl;have y34:=y3 4 _ rfl;have y35:=y3 5 _ rfl;clear y3;have HM3:=Hh ((HM.out.below (Below.al (Below.refl _ _) _)).below hb3))
     | (at_mapUpdate;refine wpl_known_put (x:=⟨r0,r1,r2,r3,r4,r5⟩) rfl _ _ _ rfl (HM3.out.below (Below.al (Below.refl _ _) _)) (by unfold maxLen;omega) H3K.out rfl rfl rfl ?_;intro w4 hK4 hg4;have hz4:w3.heap.size < w4.heap.size:=(by have:=hg4.size;simp at this;omega);have hz4b:wo.heap.size < w4.heap.size:=(by omega);have ksg:KS (fun k=>k≠w.heap.size+1) (w3.alloc (.cells #[.bool r0,.bool r1,.bool r2,.bool r3,.bool r4,.bool r5] 111)) w4:=KS.grown hg4 (by simp);have HKS4:=Hh (((KS.alloc (fun k=>k≠w.heap.size+1) wo _).trans (KS.all hb3 _)).trans ((KS.alloc _ w3 _).trans ksg));have z4:=fun j u (hj:(#[.bool r0,.bool r1,.bool r2,.bool r3,.bool r4,.bool r5]:Array Value)[j]? = some u)=>(ksg.cell (x:=⟨w3.heap.size,j,none⟩) (by simp) (by simp;omega)).trans (by rw [World.cell?_alloc_at _ _ _ _ rfl];exact hj:_=some u);have y4:=fun j u (hj:(#[.int .i64 (s 0:Int),.int .i64 (s 1:Int),.int .i64 (s 2:Int),.int .i64 (s 3:Int),.int .i64 (s 4:Int),.int .i64 (s 5:Int)]:Array Value)[j]? = some u)=>(ksg.cell (x:=⟨wo.heap.size,j,none⟩) (by simp;omega) (by simp;omega)).trans (Y3.out j u hj);have z40:=z4 0 _ rfl;have z41:=z4 1 _ rfl;have z42:=z4 2 _ rfl;have z43:=z4 3 _ rfl;have z44:=z4 4 _ rfl;have z45:=z4 5 _ rfl;have Y4:=Hh y4;clear z4 y4 ksg hg4;have HK4:=Hh hK4;clear hK4)
     | (go_at_call 126;(with_reducible refine (rowHas_at (v:=⟨r0,r1,r2,r3,r4,r5⟩) (rows_row (ownsRow_ks HROW.out HKS4.out (fun k hk=>by omega))) (by omega) HIN.out).mono ?_);rintro e w5 ⟨rfl,hb5⟩;have hz5:=Nat.lt_of_lt_of_le hz4b hb5.size;have y5:=fun j u (hj:(#[.int .i64 (s 0:Int),.int .i64 (s 1:Int),.int .i64 (s 2:Int),.int .i64 (s 3:Int),.int .i64 (s 4:Int),.int .i64 (s 5:Int)]:Array Value)[j]? = some u)=>(hb5.cell (p:=⟨wo.heap.size,j,none⟩) hz4b).trans (Y4.out j u hj);have y50:=y5 0 _ rfl;have y51:=y5 1 _ rfl;have y52:=y5 2 _ rfl;have y53:=y5 3 _ rfl;have y54:=y5 4 _ rfl;have y55:=y5 5 _ rfl;clear y5))
    go_roundw
    case rel=>exact ⟨k+1,a2,c2,hlt,by go_num,by rw [HS2.out],by rw [HS2.out];exact ownsRow_below (ownsRow_ks HROW.out HKS4.out (fun k hk=>by omega)) hb5,(HK4.out.below hb5).at,HW.out.trans (HKS4.out.trans (KS.all hb5 _))⟩
    case measure=>simp [intOf];omega
   ·have hsn2:rowsI b (l.take (k+1))=R ++ [⟨r0,r1,r2,r3,r4,r5⟩]:=by rw [HSN.out];unfold addRow;rw [if_neg hin]
    have HS2:=Hh hsn2;have HIN:=Hh (show decide ((⟨r0,r1,r2,r3,r4,r5⟩:R6)∈R)=false from decide_eq_false hin);clear hsn2 hin;go_wp2_with (first
     | (go_at_call 123;(with_reducible refine (results_at (s:=s) (HB.out.below (Below.al HBW.out _)) (HA.out.below (Below.al HBW.out _)) H3K.out HP.out h6).mono ?_);rintro e w3 ⟨rfl,hb3⟩;rw [HRV.out];have hz3:wo.heap.size < w3.heap.size:=(by have:=hb3.size;simp at this;omega);have y3:=fun j u (hj:(#[.int .i64 (s 0:Int),.int .i64 (s 1:Int),.int .i64 (s 2:Int),.int .i64 (s 3:Int),.int .i64 (s 4:Int),.int .i64 (s 5:Int)]:Array Value)[j]? = some u)=>((Below.al (Below.refl w3.heap.size w3) (.cells #[.bool r0,.bool r1,.bool r2,.bool r3,.bool r4,.bool r5] 111)).cell (p:=⟨wo.heap.size,j,none⟩) hz3).trans ((hb3.cell (p:=⟨wo.heap.size,j,none⟩) (by simp)).trans (by rw [World.cell?_alloc_at _ _ _ _ rfl];exact hj:_=some u));have Y3:=Hh y3;have y30:=y3 0 _ rfl;have y31:=y3 1 _ rfl;have y32:=y3 2 _ rfl;have y33:=y3 3 _ rfl;have y34:=y3 4 _ rfl;have y35:=y3 5 _ rfl;clear y3;have HM3:=Hh ((HM.out.below (Below.al (Below.refl _ _) _)).below hb3))
     | (at_mapUpdate;refine wpl_known_put (x:=⟨r0,r1,r2,r3,r4,r5⟩) rfl _ _ _ rfl (HM3.out.below (Below.al (Below.refl _ _) _)) (by unfold maxLen;omega) H3K.out rfl rfl rfl ?_;intro w4 hK4 hg4;have hz4:w3.heap.size < w4.heap.size:=(by have:=hg4.size;simp at this;omega);have hz4b:wo.heap.size < w4.heap.size:=(by omega);have ksg:KS (fun k=>k≠w.heap.size+1) (w3.alloc (.cells #[.bool r0,.bool r1,.bool r2,.bool r3,.bool r4,.bool r5] 111)) w4:=KS.grown hg4 (by simp);have HKS4:=Hh (((KS.alloc (fun k=>k≠w.heap.size+1) wo _).trans (KS.all hb3 _)).trans ((KS.alloc _ w3 _).trans ksg));have z4:=fun j u (hj:(#[.bool r0,.bool r1,.bool r2,.bool r3,.bool r4,.bool r5]:Array Value)[j]? = some u)=>(ksg.cell (x:=⟨w3.heap.size,j,none⟩) (by simp) (by simp;omega)).trans (by rw [World.cell?_alloc_at _ _ _ _ rfl];exact hj:_=some u);have y4:=fun j u (hj:(#[.int .i64 (s 0:Int),.int .i64 (s 1:Int),.int .i64 (s 2:Int),.int .i64 (s 3:Int),.int .i64 (s 4:Int),.int .i64 (s 5:Int)]:Array Value)[j]? = some u)=>(ksg.cell (x:=⟨wo.heap.size,j,none⟩) (by simp;omega) (by simp;omega)).trans (Y3.out j u hj);have z40:=z4 0 _ rfl;have z41:=z4 1 _ rfl;have z42:=z4 2 _ rfl;have z43:=z4 3 _ rfl;have z44:=z4 4 _ rfl;have z45:=z4 5 _ rfl;have Y4:=Hh y4;clear z4 y4 ksg hg4;have HK4:=Hh hK4;clear hK4)
     | (go_at_call 126;(with_reducible refine (rowHas_at (v:=⟨r0,r1,r2,r3,r4,r5⟩) (rows_row (ownsRow_ks HROW.out HKS4.out (fun k hk=>by omega))) (by omega) HIN.out).mono ?_);rintro e w5 ⟨rfl,hb5⟩;have hz5:=Nat.lt_of_lt_of_le hz4b hb5.size;have y5:=fun j u (hj:(#[.int .i64 (s 0:Int),.int .i64 (s 1:Int),.int .i64 (s 2:Int),.int .i64 (s 3:Int),.int .i64 (s 4:Int),.int .i64 (s 5:Int)]:Array Value)[j]? = some u)=>(hb5.cell (p:=⟨wo.heap.size,j,none⟩) hz4b).trans (Y4.out j u hj);have y50:=y5 0 _ rfl;have y51:=y5 1 _ rfl;have y52:=y5 2 _ rfl;have y53:=y5 3 _ rfl;have y54:=y5 4 _ rfl;have y55:=y5 5 _ rfl;clear y5)
     | (at_lookup;refine wpl_known_look rfl _ _ rfl (HK4.out.below hb5) H3K.out rfl rfl ?_)
     | (at_builtin;go_loud (refine wpl_app6 rfl _ _ rfl W0.heap.size R (.slice a2 R.length c2) rfl (ownsRow_below (ownsRow_ks HROW.out HKS4.out (fun k hk=>by omega)) hb5) (by omega) (by omega) ⟨r0,r1,r2,r3,r4,r5⟩ (n:=w5.heap.size) rfl rfl ?_;intro g cap w6 hown6 hb6)))
    have HOWN:=Hh hown6;clear hown6;go_roundw
    case rel=>exact ⟨k+1,_,_,hlt,by go_num,by rw [HS2.out,List.length_append];rfl,by rw [HS2.out];exact HOWN.out,(HK4.out.below hb5).at.same (hb6.block _ (by omega)),(((HW.out.trans (HKS4.out.trans (KS.all hb5 _))).mono (q:=fun k=>k≠w.heap.size+1/\k < W0.heap.size) (fun k _ h=>h.1)).trans ((KS.below hb6).mono (fun k _ h=>h.2))).mono (fun k hk h=>⟨h,hk⟩)⟩
    case measure=>simp [intOf];omega
  ·obtain rfl:k=l.length:=by omega
   rw [List.take_length] at HROW;go_wp2;exact bodyPost_ret (v:=.slice a2 (rowsI b l).length c2) (by simp [results,Tryz.results85,go_sem, *]) rfl ⟨a2,c2,rfl,rows_row HROW.out,HBW.out⟩
end
attribute [local go_sem] Oper.semAt_some
abbrev R6.vv (x y:R6):Value:=.agg #[.bool x.a,.bool x.b,.bool x.c,.bool x.d,.bool x.e,.bool x.f,.bool y.a,.bool y.b,.bool y.c,.bool y.d,.bool y.e,.bool y.f]
theorem eq12_at (x y x' y':R6) (w:World):Sem.run Mz.prog (Op.equalIn 10000 112 (R6.vv x y) (R6.vv x' y')) w=.ok (decide (x=x'/\y=y')) w:=by
 have hu:Mz.prog.underlying 112=some (.array 2 111):=by kernel_rfl
 obtain ⟨i,hi,_⟩:=info_parts resInfo;have hc:Mz.prog.cellsOf 111=6:=by kernel_rfl
 have p0:∀ (x y:R6) (w:World),Sem.run Mz.prog (part 111 #[.bool x.a,.bool x.b,.bool x.c,.bool x.d,.bool x.e,.bool x.f,.bool y.a,.bool y.b,.bool y.c,.bool y.d,.bool y.e,.bool y.f] 0) w=.ok x.v w:=fun _ _ _=>by kernel_rfl
 have p1:∀ (x y:R6) (w:World),Sem.run Mz.prog (part 111 #[.bool x.a,.bool x.b,.bool x.c,.bool x.d,.bool x.e,.bool x.f,.bool y.a,.bool y.b,.bool y.c,.bool y.d,.bool y.e,.bool y.f] 6) w=.ok y.v w:=fun _ _ _=>by kernel_rfl
 rw [show (10000:Nat)=9999+1 from rfl,R6.vv,R6.vv,run_equalIn_array w 9999 _ _ hu hi,hc];have e:=fun x y w=>eq6_any 9996 x y w;simp only [Nat.reduceAdd] at e;by_cases h1:x=x'
 ·by_cases h2:y=y'
  ·subst h1 h2;simp [List.range,List.range.loop,Op.eqItems,p0,p1,e,Result.andThen]
  ·subst h1;simp [List.range,List.range.loop,Op.eqItems,p0,p1,e,Result.andThen,h2]
 ·simp [List.range,List.range.loop,Op.eqItems,p0,p1,e,Result.andThen,h1]
theorem guard12_at (p q:Operand) (x y x' y':R6) (w:World):Sem.run Mz.prog (eqGuard .eql 112 p q (R6.vv x y) (R6.vv x' y')) w=.ok () w:=by kernel_rfl
def oneS (d v:Nat):Nat->Nat:=fun i=>if i=d then v else 0
def trace (b:Fbk) (d:Nat):R6 × R6:=(rowOf b (oneS d 1),rowOf b (oneS d 2))
section
variable {b:Fbk} {vm vd vt:Value} {w:World}
theorem one_lt {d v:Nat} (hv:v < 3):∀ k,oneS d v k < 3:=fun k=>by
 unfold oneS;split <;> omega
theorem one_arr {d:Nat} (hd:d < 6) (v:Nat):([.int .i64 0,.int .i64 0,.int .i64 0,.int .i64 0,.int .i64 0,.int .i64 0].set d (.int .i64 (v:Int)):List Value).toArray=statesV (oneS d v):=by
 have:d=0\/d=1\/d=2\/d=3\/d=4\/d=5:=by omega
 rcases this with rfl | rfl | rfl | rfl | rfl | rfl <;> rfl
theorem traces_at {d:Nat} (hB:FBookAt w b vm vd vt) (hA:ActsAt w) (hd:d < 6) (hp:PathsIn b.tests) (h6:b.tests.length<=6) :
 Calls Mz.prog 80 #[.agg #[vm,vd,vt],.int .i64 (d:Int)] w fun e w'=>e=.returned (R6.vv (trace b d).1 (trace b d).2)/\Below w.heap.size w w':=by
 have HB:=Hh hB;have HA:=Hh hA;have HP:=Hh hp;obtain ⟨rfl,⟨da,dc,rfl,_,_⟩,ta,tc,rfl,_,_⟩:=hB;clear hA hp;have hdI:(d:Int) < 6:=by omega
 have hd0:(0:Int)<=d:=by omega
 go_enter (mz_func (i:=80) rfl Tryz.func80),Tryz.ntmps80
 go_wp2;rw [show (Value.int IntKind.i64 1)=.int .i64 ((1:Nat):Int) from rfl,show (Value.int IntKind.i64 2)=.int .i64 ((2:Nat):Int) from rfl,one_arr hd 1,one_arr hd 2];obtain ⟨W3,hW3⟩:∃ W3,W3=(((w.alloc (.cells #[.int .i64 b.most,.slice da b.devs.length dc,.slice ta b.tests.length tc] 88)).alloc (.cells #[.bool false,.bool false,.bool false,.bool false,.bool false,.bool false,.bool false,.bool false,.bool false,.bool false,.bool false,.bool false] 112)).alloc (.cells (statesV (oneS d 1)) 96)).alloc (.cells (statesV (oneS d 2)) 96):=⟨_,rfl⟩;rw [<- hW3];have hs3:W3.heap.size=w.heap.size+1+1+1+1:=by rw [hW3];simp
 have hb3:Below w.heap.size w W3:=by rw [hW3];(exact bel)
 have k5:∀ j,j < 6->W3.cell? ⟨w.heap.size+1+1,j,none⟩=some (.int .i64 (oneS d 1 j:Int)):=fun j hj=>by rw [hW3,World.cell?_alloc_past _ _ _ (by simp),World.cell?_alloc_at _ _ _ _ (by simp)];exact statesV_get _ hj
 have k6:∀ j,j < 6->W3.cell? ⟨w.heap.size+1+1+1,j,none⟩=some (.int .i64 (oneS d 2 j:Int)):=fun j hj=>by rw [hW3,World.cell?_alloc_at _ _ _ _ (by simp)];exact statesV_get _ hj
 have q:∀ k u,(#[.int .i64 b.most,.slice da b.devs.length dc,.slice ta b.tests.length tc]:Array Value)[k]? = some u->W3.cell? ⟨w.heap.size,k,none⟩=some u:=fun k u hk=>by rw [hW3,World.cell?_alloc_past _ _ _ (by first | (simp;done) | (simp;omega)),World.cell?_alloc_past _ _ _ (by first | (simp;done) | (simp;omega)),World.cell?_alloc_past _ _ _ (by simp),World.cell?_alloc_at _ _ _ _ rfl];exact hk
 have z:∀ k u,(#[.bool false,.bool false,.bool false,.bool false,.bool false,.bool false,.bool false,.bool false,.bool false,.bool false,.bool false,.bool false]:Array Value)[k]? = some u->W3.cell? ⟨w.heap.size+1,k,none⟩=some u:=fun k u hk=>by rw [hW3,World.cell?_alloc_past _ _ _ (by first | (simp;done) | (simp;omega)),World.cell?_alloc_past _ _ _ (by simp),World.cell?_alloc_at _ _ _ _ (by simp)];exact hk
 have zf:∀ k,W3.frozen? ⟨w.heap.size+1,k,none⟩=false:=fun k=>by rw [hW3,World.frozen?_alloc_past _ _ _ (by first | (simp;done) | (simp;omega)),World.frozen?_alloc_past _ _ _ (by simp),World.frozen?_alloc_at _ _ _ _ (by simp)]
 have k50:=k5 0 (by omega);have k60:=k6 0 (by omega);have k51:=k5 1 (by omega);have k61:=k6 1 (by omega);have k52:=k5 2 (by omega);have k62:=k6 2 (by omega);have k53:=k5 3 (by omega);have k63:=k6 3 (by omega);have k54:=k5 4 (by omega);have k64:=k6 4 (by omega);have k55:=k5 5 (by omega);have k65:=k6 5 (by omega);have q0:=q 0 _ rfl;have q1:=q 1 _ rfl;have q2:=q 2 _ rfl;have z0:=z 0 _ rfl;have zf0:=zf 0;have z1:=z 1 _ rfl;have zf1:=zf 1;have z2:=z 2 _ rfl;have zf2:=zf 2;have z3:=z 3 _ rfl;have zf3:=zf 3;have z4:=z 4 _ rfl;have zf4:=zf 4;have z5:=z 5 _ rfl;have zf5:=zf 5;have z6:=z 6 _ rfl;have zf6:=zf 6;have z7:=z 7 _ rfl;have zf7:=zf 7;have z8:=z 8 _ rfl;have zf8:=zf 8;have z9:=z 9 _ rfl;have zf9:=zf 9;have z10:=z 10 _ rfl;have zf10:=zf 10;have z11:=z 11 _ rfl;have zf11:=zf 11;have HB3:=Hh hb3;have HW:=Hh hs3;have hl1:w.heap.size < W3.heap.size:=by omega
 have hl2:w.heap.size+1 < W3.heap.size:=by omega
 have hl3:w.heap.size+1+1 < W3.heap.size:=by omega
 have hl4:w.heap.size+1+1+1 < W3.heap.size:=by omega
 have r1:resV (oneS d 1) b.tests=(trace b d).1.v:=rfl;have r2:resV (oneS d 2) b.tests=(trace b d).2.v:=rfl;obtain ⟨⟨x0,x1,x2,x3,x4,x5⟩,hx⟩:∃ x,(trace b d).1=x:=⟨_,rfl⟩;obtain ⟨⟨y0,y1,y2,y3,y4,y5⟩,hy⟩:∃ x,(trace b d).2=x:=⟨_,rfl⟩;rw [hx] at r1;rw [hy] at r2;have R1:=Hh r1;have R2:=Hh r2;have HX:=Hh hx;have HY:=Hh hy;clear hx hy;clear hs3 hb3 k5 k6 q z zf r1 r2 hW3;have HALL:=Hh (show ∀ w':World,KS (fun k=>k≠w.heap.size+1) W3 w'->KS (fun k=>k≠w.heap.size+1) W3 w'/\w'.cell? ⟨w.heap.size,0,none⟩=some (.int .i64 b.most)/\w'.cell? ⟨w.heap.size,1,none⟩=some (.slice da b.devs.length dc)/\w'.cell? ⟨w.heap.size,2,none⟩=some (.slice ta b.tests.length tc)/\w'.cell? ⟨w.heap.size+1+1,0,none⟩=some (.int .i64 (oneS d 1 0:Int))/\w'.cell? ⟨w.heap.size+1+1,1,none⟩=some (.int .i64 (oneS d 1 1:Int))/\w'.cell? ⟨w.heap.size+1+1,2,none⟩=some (.int .i64 (oneS d 1 2:Int))/\w'.cell? ⟨w.heap.size+1+1,3,none⟩=some (.int .i64 (oneS d 1 3:Int))/\w'.cell? ⟨w.heap.size+1+1,4,none⟩=some (.int .i64 (oneS d 1 4:Int))/\w'.cell? ⟨w.heap.size+1+1,5,none⟩=some (.int .i64 (oneS d 1 5:Int))/\w'.cell? ⟨w.heap.size+1+1+1,0,none⟩=some (.int .i64 (oneS d 2 0:Int))/\w'.cell? ⟨w.heap.size+1+1+1,1,none⟩=some (.int .i64 (oneS d 2 1:Int))/\w'.cell? ⟨w.heap.size+1+1+1,2,none⟩=some (.int .i64 (oneS d 2 2:Int))/\w'.cell? ⟨w.heap.size+1+1+1,3,none⟩=some (.int .i64 (oneS d 2 3:Int))/\w'.cell? ⟨w.heap.size+1+1+1,4,none⟩=some (.int .i64 (oneS d 2 4:Int))/\w'.cell? ⟨w.heap.size+1+1+1,5,none⟩=some (.int .i64 (oneS d 2 5:Int)) from fun w' hb=>⟨hb,(hb.cell hl1 (by simp)).trans q0,(hb.cell hl1 (by simp)).trans q1,(hb.cell hl1 (by simp)).trans q2,(hb.cell hl3 (by simp <;> omega)).trans k50,(hb.cell hl3 (by simp <;> omega)).trans k51,(hb.cell hl3 (by simp <;> omega)).trans k52,(hb.cell hl3 (by simp <;> omega)).trans k53,(hb.cell hl3 (by simp <;> omega)).trans k54,(hb.cell hl3 (by simp <;> omega)).trans k55,(hb.cell hl4 (by simp <;> omega)).trans k60,(hb.cell hl4 (by simp <;> omega)).trans k61,(hb.cell hl4 (by simp <;> omega)).trans k62,(hb.cell hl4 (by simp <;> omega)).trans k63,(hb.cell hl4 (by simp <;> omega)).trans k64,(hb.cell hl4 (by simp <;> omega)).trans k65⟩);have HZ:=Hh (show ∀ w':World,Below W3.heap.size W3 w'->w'.cell? ⟨w.heap.size+1,0,none⟩=some (.bool false)/\w'.cell? ⟨w.heap.size+1,1,none⟩=some (.bool false)/\w'.cell? ⟨w.heap.size+1,2,none⟩=some (.bool false)/\w'.cell? ⟨w.heap.size+1,3,none⟩=some (.bool false)/\w'.cell? ⟨w.heap.size+1,4,none⟩=some (.bool false)/\w'.cell? ⟨w.heap.size+1,5,none⟩=some (.bool false)/\w'.cell? ⟨w.heap.size+1,6,none⟩=some (.bool false)/\w'.cell? ⟨w.heap.size+1,7,none⟩=some (.bool false)/\w'.cell? ⟨w.heap.size+1,8,none⟩=some (.bool false)/\w'.cell? ⟨w.heap.size+1,9,none⟩=some (.bool false)/\w'.cell? ⟨w.heap.size+1,10,none⟩=some (.bool false)/\w'.cell? ⟨w.heap.size+1,11,none⟩=some (.bool false)/\w'.frozen? ⟨w.heap.size+1,0,none⟩=false/\w'.frozen? ⟨w.heap.size+1,1,none⟩=false/\w'.frozen? ⟨w.heap.size+1,2,none⟩=false/\w'.frozen? ⟨w.heap.size+1,3,none⟩=false/\w'.frozen? ⟨w.heap.size+1,4,none⟩=false/\w'.frozen? ⟨w.heap.size+1,5,none⟩=false/\w'.frozen? ⟨w.heap.size+1,6,none⟩=false/\w'.frozen? ⟨w.heap.size+1,7,none⟩=false/\w'.frozen? ⟨w.heap.size+1,8,none⟩=false/\w'.frozen? ⟨w.heap.size+1,9,none⟩=false/\w'.frozen? ⟨w.heap.size+1,10,none⟩=false/\w'.frozen? ⟨w.heap.size+1,11,none⟩=false from fun w' hb=>⟨(hb.cell hl2).trans z0,(hb.cell hl2).trans z1,(hb.cell hl2).trans z2,(hb.cell hl2).trans z3,(hb.cell hl2).trans z4,(hb.cell hl2).trans z5,(hb.cell hl2).trans z6,(hb.cell hl2).trans z7,(hb.cell hl2).trans z8,(hb.cell hl2).trans z9,(hb.cell hl2).trans z10,(hb.cell hl2).trans z11,(hb.frozen hl2).trans zf0,(hb.frozen hl2).trans zf1,(hb.frozen hl2).trans zf2,(hb.frozen hl2).trans zf3,(hb.frozen hl2).trans zf4,(hb.frozen hl2).trans zf5,(hb.frozen hl2).trans zf6,(hb.frozen hl2).trans zf7,(hb.frozen hl2).trans zf8,(hb.frozen hl2).trans zf9,(hb.frozen hl2).trans zf10,(hb.frozen hl2).trans zf11⟩);have hkS:∀ (A:World) (o:Nat) (v:Value),KS (fun k=>k≠w.heap.size+1) A (A.setCell ⟨w.heap.size+1,o,none⟩ v):=fun A o v=>KS.setCell (by simp) _ _;clear z0 zf0 z1 zf1 z2 zf2 z3 zf3 z4 zf4 z5 zf5 z6 zf6 z7 zf7 z8 zf8 z9 zf9 z10 zf10 z11 zf11;go_region_held3 (fun w'=>KS (fun k=>k≠w.heap.size+1) W3 w'/\w'.cell? ⟨w.heap.size,0,none⟩=some (.int .i64 b.most)/\w'.cell? ⟨w.heap.size,1,none⟩=some (.slice da b.devs.length dc)/\w'.cell? ⟨w.heap.size,2,none⟩=some (.slice ta b.tests.length tc)/\w'.cell? ⟨w.heap.size+1+1,0,none⟩=some (.int .i64 (oneS d 1 0:Int))/\w'.cell? ⟨w.heap.size+1+1,1,none⟩=some (.int .i64 (oneS d 1 1:Int))/\w'.cell? ⟨w.heap.size+1+1,2,none⟩=some (.int .i64 (oneS d 1 2:Int))/\w'.cell? ⟨w.heap.size+1+1,3,none⟩=some (.int .i64 (oneS d 1 3:Int))/\w'.cell? ⟨w.heap.size+1+1,4,none⟩=some (.int .i64 (oneS d 1 4:Int))/\w'.cell? ⟨w.heap.size+1+1,5,none⟩=some (.int .i64 (oneS d 1 5:Int))/\w'.cell? ⟨w.heap.size+1+1+1,0,none⟩=some (.int .i64 (oneS d 2 0:Int))/\w'.cell? ⟨w.heap.size+1+1+1,1,none⟩=some (.int .i64 (oneS d 2 1:Int))/\w'.cell? ⟨w.heap.size+1+1+1,2,none⟩=some (.int .i64 (oneS d 2 2:Int))/\w'.cell? ⟨w.heap.size+1+1+1,3,none⟩=some (.int .i64 (oneS d 2 3:Int))/\w'.cell? ⟨w.heap.size+1+1+1,4,none⟩=some (.int .i64 (oneS d 2 4:Int))/\w'.cell? ⟨w.heap.size+1+1+1,5,none⟩=some (.int .i64 (oneS d 2 5:Int)))
  ((go_split_ands;refine HALL.out _ ?_;(first | ((iterate 12 refine KS.trans ?_ (hkS _ _ _));exact KS.all hb5' _) | exact KS.all (bel) _)))
  (first
    | (go_at_call 123;(with_reducible refine (results_at (s:=oneS d 1) (HB.out.below (by have:=HB3.out;(exact bel))) (HA.out.below (by have:=HB3.out;(exact bel))) (one_lt (by omega)) HP.out h6).mono ?_);rintro e w4 ⟨rfl,hb4⟩;rw [R1.out])
    | (go_at_call 123;(with_reducible refine (results_at (s:=oneS d 2) (HB.out.below (by have:=HB3.out;(exact bel))) (HA.out.below (by have:=HB3.out;(exact bel))) (one_lt (by omega)) HP.out h6).mono ?_);rintro e w5 ⟨rfl,hb5⟩;rw [R2.out];have hb5':Below W3.heap.size W3 w5:=(bel);obtain ⟨v0,v1,v2,v3,v4,v5,v6,v7,v8,v9,v10,v11,v12,v13,v14,v15,v16,v17,v18,v19,v20,v21,v22,v23⟩:=HZ.out w5 hb5')
    | fail "no arm")
 go_wp2;have hbx:=Below.next HB3.out hb5';refine bodyPost_ret (v:=R6.vv ⟨x0,x1,x2,x3,x4,x5⟩ ⟨y0,y1,y2,y3,y4,y5⟩) (by simp [results,Tryz.results80,go_sem, *]) rfl ⟨by rw [HX.out,HY.out],?_⟩;have hf:∀ W',KS (fun k=>k≠w.heap.size+1) w5 W'->Below w.heap.size w W':=fun W' hk=>⟨hk.os.trans hbx.os,hk.tape.trans hbx.tape,hk.output.trans hbx.output,Nat.le_trans hbx.size hk.size,fun k hkk=>(hk.block k (Nat.lt_of_lt_of_le hkk hbx.size) (by omega)).trans (hbx.block k hkk)⟩;refine hf _ ?_
 iterate 11 refine KS.trans ?_ (hkS _ _ _)
 exact hkS _ _ _
theorem located_ok (hB:FBookAt w b vm vd vt) (hN:∀ m∈b.devs,m.name.size<=1000000) (hA:ActsAt w) (h:openAl b 0=0) {r:Bool} (hr:decide ((rowsI b (histsI b)).length=1)=r) :
 Calls Mz.prog 24 #[.agg #[vm,vd,vt]] w fun e w'=>e=.returned (.tuple #[.bool r,.int .i64 0])/\Below w.heap.size w w':=by
 have HB:=Hh hB;have HN:=Hh hN;have HA:=Hh hA;have H:=Hh h;have HR:=Hh hr;obtain ⟨hd6,hle⟩:=bk6 (openAl_ok h).1;have g1:=(openAl_ok h).1;have hp:=paths_in g1;have h6:=(testsAl_ok (bookAl_ok g1).2).1;have HP:=Hh hp;obtain ⟨rfl,⟨da,dc,rfl,_,_⟩,ta,tc,rfl,_,_⟩:=hB;clear hN h hA hp g1 hr
 go_enter (mz_func (i:=24) rfl Tryz.func24),Tryz.ntmps24
 go_wp2_with (first
  | (go_at_call 64;(with_reducible refine (open_ok (HB.out.below (bel)) HN.out (HA.out.below (bel)) (fun _ _=>mz_call84 _ _) nothingC H.out).mono ?_);rintro e w1 ⟨la,lc,rfl,hst,hb1⟩;have HST:=Hh hst;clear hst)
  | (go_at_call 85;(with_reducible refine (rows_at (HB.out.below (Below.al (Below.next (Below.al (Below.refl _ _) _) hb1) _)) (HA.out.below (Below.al (Below.next (Below.al (Below.refl _ _) _) hb1) _)) (HST.out.below (Below.al (Below.refl _ _) _)) (fun s hs=>hists_lt hs) HP.out h6 hle).mono ?_);rintro e w2 ⟨a2,c2,rfl,hi2,hb2⟩;have HI:=Hh hi2;clear hi2))
 refine bodyPost_ret (v:=.tuple #[.bool (((rowsI b (histsI b)).length:Int) == 1),.int .i64 0]) (by simp [results,Tryz.results24,go_sem, *]) rfl ⟨?_,bel⟩;have e:(((rowsI b (histsI b)).length:Int) == 1)=r:=by
  rw [<- HR.out];by_cases hh:(rowsI b (histsI b)).length=1
  ·simp [hh]
  ·have h2:¬ ((rowsI b (histsI b)).length:Int)=1:=by omega
   simp [hh,h2]
 rw [e]
end
attribute [local go_sem] Oper.semAt_some
def isTwin (b:Fbk) (d i:Nat):Bool:=decide (i≠d) && decide (trace b i=trace b d)
def twinTo (b:Fbk) (d k:Nat):List Int:=((List.range k).filter (isTwin b d)).map fun i:Nat=>(i:Int)
theorem twinTo_succ (b:Fbk) (d k:Nat):twinTo b d (k+1)=twinTo b d k ++ if isTwin b d k=true then [(k:Int)] else []:=by
 unfold twinTo;rw [List.range_succ,List.filter_append,List.map_append];congr 1;by_cases h:isTwin b d k=true <;> simp [h]
theorem twinTo_le (b:Fbk) (d k:Nat):(twinTo b d k).length<=k:=by
 unfold twinTo;rw [List.length_map];exact Nat.le_trans (List.length_filter_le _ _) (by simp)
section
variable {b:Fbk} {vm vd vt:Value} {w:World}
theorem deviceAl_at {k t:Int} (hB:FBookAt w b vm vd vt) (h:devAl b k=t):Calls Mz.prog 79 #[.agg #[vm,vd,vt],.int .i64 k] w fun e w'=>e=.returned (.int .i64 t)/\Below w.heap.size w w':=device_at hB h
theorem twins_ok {d:Nat} (hB:FBookAt w b vm vd vt) (hN:∀ m∈b.devs,m.name.size<=1000000) (hA:ActsAt w) (hk:bookAl b=0) (h:devAl b (d:Int)=0) :
 Calls Mz.prog 21 #[.agg #[vm,vd,vt],.int .i64 (d:Int)] w fun e w'=>∃ a c,e=.returned (.tuple #[.slice a (twinTo b d b.devs.length).length c,.int .i64 0])/\IntsAt w' a (twinTo b d b.devs.length)/\Below w.heap.size w w':=by
 have HB:=Hh hB;have HN:=Hh hN;have HA:=Hh hA;have H:=Hh h;have HK:=Hh hk;have gd:=devAl_ok h;have hd6:=(bk6 hk).1;have HP:=Hh (paths_in hk);have h6:=(testsAl_ok (bookAl_ok hk).2).1;have hdI:d < 6:=by omega
 obtain ⟨rfl,⟨da,dc,rfl,_,_⟩,ta,tc,rfl,_,_⟩:=hB;clear hN h hk hA gd
 go_enter (mz_func (i:=21) rfl Tryz.func21),Tryz.ntmps21
 go_wp2_with (first
  | (go_at_call 78;(with_reducible refine (checkBook_at (HB.out.below (bel)) HN.out HK.out).mono ?_);rintro e w1 ⟨rfl,hb1⟩;obtain ⟨hc1,hf1⟩:=bcell hb1;have hz1:w.heap.size < w1.heap.size:=(by have:=hb1.size;simp at this;omega))
  | (go_at_call 79;(with_reducible refine (deviceAl_at (t:=0) (HB.out.below (Below.al (Below.next (Below.al (Below.refl _ _) _) hb1) _)) H.out).mono ?_);rintro e w2 ⟨rfl,hb2⟩;obtain ⟨hc2,hf2⟩:=bcell hb2;have hz2:w.heap.size < w2.heap.size:=(by have:=hb2.size;simp at this;omega);have hz2b:w.heap.size < w1.heap.size+1:=(by omega)))
 have hb2':Below w.heap.size w w2:=bel;have q:∀ k u,(#[.int .i64 b.most,.slice da b.devs.length dc,.slice ta b.tests.length tc]:Array Value)[k]? = some u->w2.cell? ⟨w1.heap.size,k,none⟩=some u:=fun k u hk=>(hb2.cell (p:=⟨w1.heap.size,k,none⟩) (by simp)).trans (by rw [World.cell?_alloc_at _ _ _ _ rfl];exact hk);have q0:=q 0 _ rfl;have q1:=q 1 _ rfl;have q2:=q 2 _ rfl;have hs1:w1.heap.size < w2.heap.size:=by have:=hb2.size;simp at this;omega
 have HB2:=Hh hb2';clear q hb2' hb2 hc2 hf2 hc1 hf1 hb1;go_loopw [9,27] (fun v i wr=>∃ (k:Nat) (a:Option Addr) (c:Nat),k<=b.devs.length/\i=.int .i64 k/\v=.slice a (twinTo b d k).length c/\wr.ownsRow w2.heap.size 3 1 (.slice a (twinTo b d k).length c) (twinTo b d k).length ((twinTo b d k).map (Value.int .i64))/\Below w2.heap.size w2 wr) (fun _ i _=>b.devs.length - (intOf i).toNat)
 case atStart=>exact ⟨0,none,0,Nat.zero_le _,rfl,rfl,by simpa [twinTo] using World.ownsRow_nil _ _ _ _,Below.refl _ _⟩
 case round =>
  obtain ⟨k,a2,c2,hk,rfl,rfl,hrow,hW⟩:=hrel;have hWs:=hW.size;obtain ⟨wo,rfl⟩:∃ x,x=wr:=⟨_,rfl⟩;have hle:=twinTo_le b d k;have p0:=(hW.cell (p:=⟨w1.heap.size,0,none⟩) hs1).trans q0;have p1:=(hW.cell (p:=⟨w1.heap.size,1,none⟩) hs1).trans q1;have p2:=(hW.cell (p:=⟨w1.heap.size,2,none⟩) hs1).trans q2;have hs1o:w1.heap.size < wo.heap.size:=by omega
  have HROW:=Hh hrow;have HBW:=Hh (Below.next HB2.out hW);have HW:=Hh hW;clear hrow hW;by_cases hlt:k < b.devs.length
  ·have hk6:k < 6:=by omega
   have HSU:=Hh (twinTo_succ b d k);by_cases hkd:k=d
   ·have hsu2:twinTo b d (k+1)=twinTo b d k:=by rw [HSU.out];simp [isTwin,hkd]
    have HS2:=Hh hsu2;have hg1:((k:Int) != (d:Int))=false:=by simp [hkd]
    have hg2:decide ((k:Int)=(d:Int))=true:=by simp [hkd]
    clear hsu2;go_wp2
    go_region
    go_wp2;go_roundw
    case rel=>exact ⟨k+1,a2,c2,hlt,by go_num,by rw [HS2.out],by rw [HS2.out];exact HROW.out.drew,HW.out.drew⟩
    case measure=>simp [intOf];omega
   ·have hg1:((k:Int) != (d:Int))=true:=by simp;omega
    have hg2:decide ((k:Int)=(d:Int))=false:=by simp;omega
    have hg3:¬ (k:Int)=(d:Int):=by omega
    obtain ⟨t,ht⟩:∃ t,decide (trace b k=trace b d)=t:=⟨_,rfl⟩;have htw:isTwin b d k=t:=by rw [<- ht];simp [isTwin,hkd]
    have ge:=fun W=>eq12_at (trace b k).1 (trace b k).2 (trace b d).1 (trace b d).2 W;rw [show decide ((trace b k).1=(trace b d).1/\(trace b k).2=(trace b d).2)=t by rw [<- ht];exact decide_eq_decide.2 Prod.ext_iff.symm] at ge;have gd:=fun p q W=>guard12_at p q (trace b k).1 (trace b k).2 (trace b d).1 (trace b d).2 W;have HTW:=Hh htw;have hall:∀ w':World,Below wo.heap.size wo w'->Below wo.heap.size wo w'/\w'.cell? ⟨w1.heap.size,0,none⟩=some (.int .i64 b.most)/\w'.cell? ⟨w1.heap.size,1,none⟩=some (.slice da b.devs.length dc)/\w'.cell? ⟨w1.heap.size,2,none⟩=some (.slice ta b.tests.length tc):=fun w' hb=>⟨hb,(hb.cell hs1o).trans p0,(hb.cell hs1o).trans p1,(hb.cell hs1o).trans p2⟩;have HALL:=Hh hall;clear hall ht htw;go_wp2;go_region_held3 (fun w'=>Below wo.heap.size wo w'/\w'.cell? ⟨w1.heap.size,0,none⟩=some (.int .i64 b.most)/\w'.cell? ⟨w1.heap.size,1,none⟩=some (.slice da b.devs.length dc)/\w'.cell? ⟨w1.heap.size,2,none⟩=some (.slice ta b.tests.length tc))
     ((go_split_ands;exact HALL.out _ (bel)))
     (first
       | (go_at_call 80;(with_reducible refine (traces_at (d:=k) (HB.out.below (by have:=HBW.out;(exact bel))) (HA.out.below (by have:=HBW.out;(exact bel))) hk6 HP.out h6).mono ?_);rintro e w4 ⟨rfl,hb4⟩)
       | (go_at_call 80;(with_reducible refine (traces_at (d:=d) (HB.out.below (by have:=HBW.out;(exact bel))) (HA.out.below (by have:=HBW.out;(exact bel))) hdI HP.out h6).mono ?_);rintro e w5 ⟨rfl,hb5⟩)
       | fail "no arm")
    have HB5:=Hh (show Below wo.heap.size wo w5 from bel);have hz5:wo.heap.size<=w5.heap.size:=HB5.out.size;cases t
    ·have hsu2:twinTo b d (k+1)=twinTo b d k:=by rw [HSU.out,HTW.out];simp
     have HS2:=Hh hsu2;clear hsu2;go_wp2;go_roundw
     case rel=>exact ⟨k+1,a2,c2,hlt,by go_num,by rw [HS2.out],by rw [HS2.out];exact ownsRow_below HROW.out HB5.out,Below.trans HW.out (HB5.out.mono hWs)⟩
     case measure=>simp [intOf];omega
    ·have hsu2:twinTo b d (k+1)=twinTo b d k ++ [(k:Int)]:=by rw [HSU.out,HTW.out];simp
     have HS2:=Hh hsu2;have hln:(twinTo b d (k+1)).length=(twinTo b d k).length+1:=by rw [hsu2];simp
     have HLN:=Hh hln;clear hsu2 hln;go_wp2_with (at_builtin;go_loud (refine wpl_append1 rfl _ _ 26 rfl w2.heap.size 3 (mzu Tryz.underlying26) mz_intInfo rfl (by omega) (.slice a2 (twinTo b d k).length c2) (twinTo b d k).length _ rfl (ownsRow_below HROW.out HB5.out) (by omega) (by omega) _ (n:=w5.heap.size) rfl rfl (by simp [Value.oneCell']) ?_;intro g cap w6 hown6 hb6));have hown7:w6.ownsRow w2.heap.size 3 1 (.slice (some ⟨g,0,none⟩) (twinTo b d (k+1)).length cap) (twinTo b d (k+1)).length ((twinTo b d (k+1)).map (Value.int .i64)):=by
      rw [HLN.out,HS2.out,List.map_append];exact hown6
     have HOWN:=Hh hown7;clear hown6 hown7;go_roundw
     case rel=>exact ⟨k+1,_,_,hlt,by go_num,by rw [HLN.out],HOWN.out,Below.trans (Below.trans HW.out (HB5.out.mono hWs)) hb6⟩
     case measure=>simp [intOf];omega
  ·obtain rfl:k=b.devs.length:=by omega
   go_wp2;exact bodyPost_ret (v:=.tuple #[.slice a2 (twinTo b d b.devs.length).length c2,.int .i64 0]) (by simp [results,Tryz.results21,go_sem, *]) rfl ⟨a2,c2,rfl,ints_row HROW.out,HBW.out⟩
end
end Mt
end Go.Proofs.YtgkajecjbflbbaaGreatDoor
