/- the fault laws -/
import Derived.Test.YtgkajecjbflbbaaGreatDoorGB27
set_option maxHeartbeats 2000000
set_option maxRecDepth 100000
set_option linter.all false
namespace Go.Proofs.YtgkajecjbflbbaaGreatDoor
namespace Mt
open Go Go.Conc Go.RowKit
structure Alike (w w1:World):Prop where
 size:w.heap.size<=w1.heap.size
 cell:∀ b o,b < w.heap.size->w1.cell? ⟨b,o,none⟩=w.cell? ⟨b,o,none⟩
theorem Alike.trans {a b c:World} (h:Alike a b) (k:Alike b c):Alike a c:=⟨Nat.le_trans h.size k.size,fun x o hx=>(k.cell x o (Nat.lt_of_lt_of_le hx h.size)).trans (h.cell x o hx)⟩
theorem Old.alike {w w1:World} (h:Old w w1):Alike w w1:=⟨h.size,fun b o hb=>h.cell hb⟩
theorem Twin.alike {n:Nat} {w w1:World} (h:Twin n w w1):Alike w w1:=⟨Nat.le_of_eq h.size.symm,fun b o _=>h.cell _⟩
theorem Below.alike {w w1:World} (h:Below w.heap.size w w1):Alike w w1:=⟨h.size,fun b o hb=>h.cell hb⟩
theorem Below.old {w w1:World} (h:Below w.heap.size w w1):Old w w1:=⟨h.os,h.output,h.size,h.block⟩
theorem Old.on {w w1:World} (h:Old w w1) (t:Tape) (d:Nat):Old w (w1.on t d):=⟨h.os,h.output,h.size,h.block⟩
def wps (P:Program):List Code->(Act->World->Prop)->Act->World->Prop
 | [],Q,a,w=>Q a w
 | c::l,Q,a,w=>c.wp P (fun e a' w'=>e=.normal/\a'.defers=[]/\∀ t,wps P l Q a' (w'.on t 0)) a w
theorem wps_mono {P:Program} {Q Q':Act->World->Prop} (hq:∀ a w,Q a w->Q' a w):∀ (l:List Code) {a:Act} {w:World},wps P l Q a w->wps P l Q' a w
 | [],_,_,h=>hq _ _ h
 | c::l,_,_,h=>Code.wp_mono (fun e a' w' ⟨h1,h2,h3⟩=>⟨h1,h2,fun t=>wps_mono hq l (h3 t)⟩) h
def seqs:List Code->Code->Code
 | [],R=>R
 | c::l,R=>.seq c (seqs l R)
section
variable {P:Program} {B:Nat->Bool} {b:Frame} {k:List Item} {cs:List Frame} {S:Mute} {R:Code}
theorem Like.unat {w w':World} {d:Nat} (h:Like P B S w w'):Like P B S (w.at d) w':=⟨⟨rfl,rfl,0,rfl,rfl⟩,h.os,h.output,h.size,h.block,h.mute,h.heapOk⟩
theorem wps_leads (hP:ProgOk P B) (hb:b.kind=.normal) (hg:B b.fn=false) {Q:Act->World->Prop}:∀ (l:List Code) {a:Act} {w w':World},Like P B S w w'->(∀ c∈l,codeOk P c=true)->a.defers=[]->(∀ t,wps (muteP B P) l Q a (w'.on t 0)) ->
 Leads P (fun fr' cs' w1=>∃ a' w1',fr'=b.at a' (.code R::k)/\cs'=cs/\Like P B S w1 w1'/\∀ t,Q a' (w1'.on t 0)) (b.at a (.code (seqs l R)::k)) cs w
 | [],a,w,w',hl,_,_,h=>.done ⟨a,w',rfl,rfl,hl,h⟩
 | c::l,a,w,w',hl,hc,hd,h=>by
  refine leads_seq fun d=>?_;refine (wp_leads (Z:=fun a' W=>a'.defers=[]/\∀ t,wps (muteP B P) l Q a' (W.on t 0)) hP (Like.unat (d:=d) hl) (hc c (List.mem_cons_self ..)) hb hg (by rw [hd];exact fun x hx=>(by cases hx)) fun t=>?_).trans ?_
  ·refine Code.wp_mono ?_ (h t);rintro e a' w2 ⟨he,h1,h2⟩;exact ⟨he,w2.tape,w2.drawn,h1,h2⟩
  ·rintro fr' cs' w1 ⟨a',w1',e1,e2,hl1,t,d,h1,h2⟩;rw [e1,e2];exact wps_leads hP hb hg l hl1 (fun c hm=>hc c (List.mem_cons_of_mem _ hm)) h1 h2
end
theorem pieces_co {b:Frame} {a:Act} {w:World} {k:List Item} {cs:List Frame} {R:Code} (l:List Code) (hc:∀ c∈l,codeOk Tryz.prog c=true) (hb:b.kind=.normal) (hg:badF b.fn=false) (hd:a.defers=[]) {Z:Act->World->Prop} (hZ:∀ a w1 w2,Twin w.heap.size w1 w2->Z a w1->Z a w2)
 (h:∀ W,Twin w.heap.size w W->wps Mz.prog l (fun a' w2=>Z a' w2/\Old W w2) a W) {K:Frame->List Frame->World->Prop} (hk:∀ a' w',Z a' w'->Old w w'->Leads Tryz.prog K (b.at a' (.code R::k)) cs w') :
 Leads Tryz.prog K (b.at a (.code (seqs l R)::k)) cs w:=by
 have hl:=muted_like Tryz.prog badF w;refine (wps_leads (Q:=fun a' W2=>Z a' W2/\Old (muted w) W2) progOk hb hg l hl hc hd fun t=>?_).trans ?_
 ·refine wps_mono ?_ l (h _ (muted_twin w t));rintro a' w2 ⟨h1,h2⟩;exact ⟨h1,h2.os,h2.output,h2.size,h2.block⟩
 ·rintro fr' cs' w1 ⟨a',w1',e1,e2,h3,hq⟩;rw [e1,e2];obtain ⟨hz,ho⟩:=hq w1'.tape;exact hk a' w1 (hZ _ _ _ (like_twin hl h3 w1'.tape 0) hz) (like_old hl h3 (d2:=0) (t:=w1'.tape) (t2:=w1'.tape) ⟨ho.os,rfl,ho.output,ho.size,ho.block⟩)
end Mt
namespace Mt
open Go Go.RowKit Go.Maps Go.Conc Mob
attribute [local go_sem] Oper.semAt_some
theorem pieces_coL {b:Frame} {a:Act} {w:World} {k:List Item} {cs:List Frame} {R:Code} {L:Nat} (hL:L<=w.heap.size) (l:List Code) (hc:∀ c∈l,codeOk Tryz.prog c=true) (hb:b.kind=.normal) (hg:badF b.fn=false) (hd:a.defers=[]) {Z:Act->World->Prop} (hZ:∀ a w1 w2,Twin w.heap.size w1 w2->Z a w1->Z a w2)
 (h:∀ W,Twin w.heap.size w W->wps Mz.prog l (fun a' w2=>Z a' w2/\Old W w2) a W) {K:Frame->List Frame->World->Prop} (hk:∀ a' w',w.heap.size<=w'.heap.size->Z a' w'->Old w w'->LeadsL Tryz.prog L K (b.at a' (.code R::k)) cs w') :
 LeadsL Tryz.prog L K (b.at a (.code (seqs l R)::k)) cs w:=by
 refine ((pieces_co (K:=fun fr' cs' w'=>∃ a',fr'=b.at a' (.code R::k)/\cs'=cs/\Z a' w'/\Old w w') l hc hb hg hd hZ h fun a' w' hz ho=>.done ⟨a',rfl,rfl,hz,ho⟩) L hL).trans ?_;rintro fr' cs' w' hs ⟨a',rfl,rfl,hz,ho⟩;exact hk a' w' hs hz ho
theorem FBookAt.alike {w w1:World} {b:Fbk} {vm vd vt:Value} (h:FBookAt w b vm vd vt) (ha:Alike w w1):FBookAt w1 b vm vd vt:=by
 obtain ⟨h1,⟨a1,c1,e1,h3,g1⟩,a2,c2,e2,h4,g2⟩:=h;refine ⟨h1,⟨a1,c1,e1,fun i hi=>?_,g1⟩,a2,c2,e2,fun i hi=>?_,g2⟩
 ·obtain ⟨b,o,e,hlt,k1,k2,k3,k4⟩:=h3 i hi;exact ⟨b,o,e,Nat.lt_of_lt_of_le hlt ha.size,(ha.cell _ _ hlt).trans k1,(ha.cell _ _ hlt).trans k2,(ha.cell _ _ hlt).trans k3,(ha.cell _ _ hlt).trans k4⟩
 ·obtain ⟨b,o,e,hlt,pa,pc,k1,k2,k3,k4,k5⟩:=h4 i hi;refine ⟨b,o,e,Nat.lt_of_lt_of_le hlt ha.size,pa,pc,(ha.cell _ _ hlt).trans k1,k2,k3,fun j hj=>?_,(ha.cell _ _ hlt).trans k5⟩;obtain ⟨b',o',e',hlt',k6⟩:=k4 j hj;exact ⟨b',o',e',Nat.lt_of_lt_of_le hlt' ha.size,(ha.cell _ _ hlt').trans k6⟩
theorem ActsAt.alike {w w1:World} (h:ActsAt w) (ha:Alike w w1):ActsAt w1:=⟨Nat.lt_of_lt_of_le h.1 ha.size,fun k hk=>(ha.cell _ _ h.1).trans (h.2 k hk)⟩
theorem IntsAt.alike {w w1:World} {a:Option Addr} {l:List Int} (h:IntsAt w a l) (ha:Alike w w1):IntsAt w1 a l:=fun i hi=>by
 obtain ⟨b,o,e,hlt,h1⟩:=h i hi;exact ⟨b,o,e,Nat.lt_of_lt_of_le hlt ha.size,(ha.cell _ _ hlt).trans h1⟩
theorem StatesAt.alike {w w1:World} {a:Option Addr} {l:List (Nat->Nat)} (h:StatesAt w a l) (ha:Alike w w1):StatesAt w1 a l:=fun i hi=>by
 obtain ⟨b,o,e,hlt,h1⟩:=h i hi;exact ⟨b,o,e,Nat.lt_of_lt_of_le hlt ha.size,fun j hj=>(ha.cell _ _ hlt).trans (h1 j hj)⟩
noncomputable def cL:Code->Code
 | .seq c _=>c
 | _=>.skip
noncomputable def cR:Nat->Code->Code
 | 0,c=>c
 | n+1,.seq _ c=>cR n c
 | _+1,_=>.skip
noncomputable def askB:Code:=Tryz.f26.body.getD .skip
noncomputable def akC (n:Nat):Code:=cL (cR n askB)
noncomputable def akR7:Code:=cL (cL (cR 6 askB))
theorem askB_eq:askB=seqs [akC 0,akC 1,akC 2,akC 3,akC 4,akC 5] (.seq (seqs [akR7] (.block 0 (.loop srLB))) srREST):=by kernel_rfl
theorem ak_ok:[akC 0,akC 1,akC 2,akC 3,akC 4,akC 5].all (codeOk Tryz.prog)=true:=by kernel_rfl
theorem ak_ok7:[akR7].all (codeOk Tryz.prog)=true:=by kernel_rfl
def PZ (Z:Act->World->Prop) (e:Exit) (a:Act) (w2:World):Prop:=e=.normal/\Z a w2
theorem wps_cons {P:Program} {c:Code} {l:List Code} {Q:Act->World->Prop} {a:Act} {w:World} {Z:Act->World->Prop} (h:c.wp P (PZ Z) a w) (hk:∀ a' w',Z a' w'->a'.defers=[]/\∀ t,wps P l Q a' (w'.on t 0)):wps P (c::l) Q a w :=
 Code.wp_mono (fun e a' w' ⟨h1,h2⟩=>⟨h1,hk a' w' h2⟩) h
noncomputable def akF1 (N0:Nat) (d:Nat->Value):Act:={ tmps:=#[d 0,.pointer (some ⟨N0,0,none⟩),d 2,d 3,d 4,d 5,d 6,d 7,d 8,d 9,d 10,d 11,d 12,d 13,d 14,d 15,d 16,d 17,d 18,d 19,d 20,d 21,d 22,d 23,d 24,d 25,d 26,d 27,d 28,d 29,d 30,d 31,d 32,d 33,d 34,d 35,d 36,d 37,d 38,d 39,d 40,d 41,d 42,d 43,d 44,d 45,d 46,d 47,d 48,d 49,d 50,d 51,d 52,d 53,d 54,d 55,d 56,d 57],defers:=[] }
noncomputable def akF2 (B5 Bl:Nat) (d:Nat->Value):Act:={ tmps:=#[d 0,d 1,d 2,d 3,.int .i64 0,.pointer (some ⟨B5,0,none⟩),.pointer (some ⟨Bl,0,none⟩),d 7,d 8,d 9,d 10,d 11,d 12,d 13,d 14,d 15,d 16,d 17,d 18,d 19,d 20,d 21,d 22,d 23,d 24,d 25,d 26,d 27,d 28,d 29,d 30,d 31,d 32,d 33,d 34,d 35,d 36,d 37,d 38,d 39,d 40,d 41,d 42,d 43,d 44,d 45,d 46,d 47,d 48,d 49,d 50,d 51,d 52,d 53,d 54,d 55,d 56,d 57],defers:=[] }
noncomputable def akF3 (B5 Bl:Nat) (d:Nat->Value):Act:={ tmps:=#[d 0,d 1,d 2,d 3,d 4,.pointer (some ⟨B5,0,none⟩),.pointer (some ⟨Bl,0,none⟩),d 7,d 8,d 9,d 10,d 11,d 12,d 13,d 14,d 15,d 16,d 17,d 18,d 19,d 20,d 21,d 22,d 23,d 24,d 25,d 26,d 27,d 28,d 29,d 30,d 31,d 32,d 33,d 34,d 35,d 36,d 37,d 38,d 39,d 40,d 41,d 42,d 43,d 44,d 45,d 46,d 47,d 48,d 49,d 50,d 51,d 52,d 53,d 54,d 55,d 56,d 57],defers:=[] }
noncomputable def akF4 (B5 Bl Mu:Nat) (d:Nat->Value):Act:={ tmps:=#[d 0,d 1,d 2,d 3,d 4,.pointer (some ⟨B5,0,none⟩),.pointer (some ⟨Bl,0,none⟩),.pointer (some ⟨Mu,0,none⟩),d 8,d 9,d 10,d 11,d 12,d 13,d 14,d 15,d 16,d 17,d 18,d 19,d 20,d 21,d 22,d 23,d 24,d 25,d 26,d 27,d 28,d 29,d 30,d 31,d 32,d 33,d 34,d 35,d 36,d 37,d 38,d 39,d 40,d 41,d 42,d 43,d 44,d 45,d 46,d 47,d 48,d 49,d 50,d 51,d 52,d 53,d 54,d 55,d 56,d 57],defers:=[] }
noncomputable def akF5 (B5 Bl Mu Wg:Nat) (d:Nat->Value):Act:={ tmps:=#[d 0,d 1,d 2,d 3,d 4,.pointer (some ⟨B5,0,none⟩),.pointer (some ⟨Bl,0,none⟩),.pointer (some ⟨Mu,0,none⟩),.pointer (some ⟨Wg,0,none⟩),d 9,d 10,d 11,d 12,d 13,d 14,d 15,d 16,d 17,d 18,d 19,d 20,d 21,d 22,d 23,d 24,d 25,d 26,d 27,d 28,d 29,d 30,d 31,d 32,d 33,d 34,d 35,d 36,d 37,d 38,d 39,d 40,d 41,d 42,d 43,d 44,d 45,d 46,d 47,d 48,d 49,d 50,d 51,d 52,d 53,d 54,d 55,d 56,d 57],defers:=[] }
noncomputable def akF6 (B5 Bl Mu Wg Bm:Nat) (d:Nat->Value):Act:={ tmps:=#[d 0,d 1,d 2,d 3,d 4,.pointer (some ⟨B5,0,none⟩),.pointer (some ⟨Bl,0,none⟩),.pointer (some ⟨Mu,0,none⟩),.pointer (some ⟨Wg,0,none⟩),.pointer (some ⟨Bm,0,none⟩),d 10,d 11,d 12,d 13,d 14,d 15,d 16,d 17,d 18,d 19,d 20,d 21,d 22,d 23,d 24,d 25,d 26,d 27,d 28,d 29,d 30,d 31,d 32,d 33,d 34,d 35,d 36,d 37,d 38,d 39,d 40,d 41,d 42,d 43,d 44,d 45,d 46,d 47,d 48,d 49,d 50,d 51,d 52,d 53,d 54,d 55,d 56,d 57],defers:=[] }
section
variable {b:Fbk} {vm vd vt:Value} {W:World}
structure Lies (w:World) (b:Fbk) (vm vd vt:Value) (B5 Bl:Nat) (la:Option Addr) (lc:Nat):Prop where
 c0:w.cell? ⟨B5,0,none⟩=some vm
 c1:w.cell? ⟨B5,1,none⟩=some vd
 c2:w.cell? ⟨B5,2,none⟩=some vt
 l0:w.cell? ⟨Bl,0,none⟩=some (.slice la (histsI b).length lc)
 st:StatesAt w la (histsI b)
theorem Lies.alike {w w1:World} {B5 Bl:Nat} {la:Option Addr} {lc:Nat} (h:Lies w b vm vd vt B5 Bl la lc) (ha:Alike w w1):Lies w1 b vm vd vt B5 Bl la lc:=by
 have h5:=lt_of_cell h.c0;have hl:=lt_of_cell h.l0;exact ⟨(ha.cell _ _ h5).trans h.c0,(ha.cell _ _ h5).trans h.c1,(ha.cell _ _ h5).trans h.c2,(ha.cell _ _ hl).trans h.l0,h.st.alike ha⟩
def ZA1 (W:World) (vm vd vt:Value) (a:Act) (w2:World):Prop:=∃ N0,(∃ d,a=akF1 N0 d)/\w2.cell? ⟨N0,0,none⟩=some vm/\w2.cell? ⟨N0,1,none⟩=some vd/\w2.cell? ⟨N0,2,none⟩=some vt/\Below W.heap.size W w2
def ZA2 (W:World) (b:Fbk) (vm vd vt:Value) (a:Act) (w2:World):Prop:=∃ B5 Bl la lc,(∃ d,a=akF2 B5 Bl d)/\Lies w2 b vm vd vt B5 Bl la lc/\W.heap.size<=B5/\W.heap.size<=Bl/\B5≠Bl/\Below W.heap.size W w2
theorem ak_r0 (hB:FBookAt W b vm vd vt):(akC 0).wp Mz.prog (PZ (ZA1 W vm vd vt)) { tmps:=#[.agg #[vm,vd,vt],U,U,U,U,U,U,U,U,U,U,U,U,U,U,U,U,U,U,U,U,U,U,U,U,U,U,U,U,U,U,U,U,U,U,U,U,U,U,U,U,U,U,U,U,U,U,U,U,U,U,U,U,U,U,U,U,U],defers:=[] } W:=by
 obtain ⟨rfl,⟨da,dc,rfl,_,_⟩,ta,tc,rfl,_,_⟩:=hB;simp only [akC,cL,cR,askB,Tryz.f26,Option.getD_some];go_wp2;refine ⟨rfl,W.heap.size,fr_of (by kernel_rfl),?_,?_,?_,bel⟩ <;> (rw [World.cell?_alloc_at _ _ _ _ rfl];rfl)
theorem ak_r1 (hB:FBookAt W b vm vd vt) (hN:∀ m∈b.devs,m.name.size<=1000000) (hA:ActsAt W) (ht:openAl b 0=0) {N0:Nat} {d:Nat->Value} (h0:W.cell? ⟨N0,0,none⟩=some vm/\W.cell? ⟨N0,1,none⟩=some vd/\W.cell? ⟨N0,2,none⟩=some vt):(akC 1).wp Mz.prog (PZ (ZA2 W b vm vd vt)) (akF1 N0 d) W:=by
 obtain ⟨x0,x1,x2⟩:=h0;have hN0:=lt_of_cell x0;simp only at hN0;have HB:=Hh hB;have HN:=Hh hN;have HA:=Hh hA;have H:=Hh ht;obtain ⟨rfl,⟨da,dc,rfl,_,_⟩,ta,tc,rfl,_,_⟩:=hB;clear hN hA ht;simp only [akC,cL,cR,askB,Tryz.f26,Option.getD_some];unfold akF1;go_wp2_with (go_at_call 64;(with_reducible refine (open_ok HB.out HN.out HA.out (fun _ _=>mz_call84 _ _) nothingC H.out).mono ?_);rintro e w1 ⟨la,lc,rfl,hst,hb1⟩;have HST:=Hh hst;clear hst);have hs1:=hb1.size;refine ⟨rfl,w1.heap.size,w1.heap.size+1,la,lc,fr_of (by kernel_rfl),⟨?_,?_,?_,?_,HST.out.below (bel)⟩,hs1,by omega,by omega,bel⟩
 ·rw [World.cell?_alloc_past _ _ _ (by simp),World.cell?_alloc_at _ _ _ _ rfl];rfl
 ·rw [World.cell?_alloc_past _ _ _ (by simp),World.cell?_alloc_at _ _ _ _ rfl];rfl
 ·rw [World.cell?_alloc_past _ _ _ (by simp),World.cell?_alloc_at _ _ _ _ rfl];rfl
 ·rw [World.cell?_alloc_at _ _ _ _ (by simp)];rfl
theorem ak_r2 {B5 Bl:Nat} {d:Nat->Value}:(akC 2).wp Mz.prog (PZ fun a' w'=>(∃ d,a'=akF3 B5 Bl d)/\w'=W) (akF2 B5 Bl d) W:=by
 simp only [akC,cL,cR,askB,Tryz.f26,Option.getD_some];unfold akF2;go_wp2;exact ⟨rfl,fr_of (by kernel_rfl),rfl⟩
theorem ak_r4 {B5 Bl:Nat} {d:Nat->Value}:(akC 3).wp Mz.prog (PZ fun a' w'=>(∃ d,a'=akF4 B5 Bl W.heap.size d)/\w'=W.alloc (muObj 126 sh0.mu sh0.ms)) (akF3 B5 Bl d) W:=by
 simp only [akC,cL,cR,askB,Tryz.f26,Option.getD_some];unfold akF3;go_wp2;exact ⟨rfl,fr_of (by kernel_rfl),rfl⟩
theorem ak_r5 {B5 Bl Mu:Nat} {d:Nat->Value}:(akC 4).wp Mz.prog (PZ fun a' w'=>(∃ d,a'=akF5 B5 Bl Mu W.heap.size d)/\w'=W.alloc (wgObj 133 sh0.v sh0.wt sh0.ws)) (akF4 B5 Bl Mu d) W:=by
 simp only [akC,cL,cR,askB,Tryz.f26,Option.getD_some];unfold akF4;go_wp2;exact ⟨rfl,fr_of (by kernel_rfl),rfl⟩
theorem ak_r6 {B5 Bl Mu Wg:Nat} {d:Nat->Value}:(akC 5).wp Mz.prog (PZ fun a' w'=>(∃ d,a'=akF6 B5 Bl Mu Wg (W.heap.size+1) d)/\w'=(W.alloc (mapObj [])).alloc (.cells #[.map (some W.heap.size)] 134)) (akF5 B5 Bl Mu Wg d) W:=by
 have hmm:=@run_makeMap Mz.prog;simp only [akC,cL,cR,askB,Tryz.f26,Option.getD_some];unfold akF5;go_wp2;exact ⟨rfl,fr_of (by kernel_rfl),rfl⟩
end
attribute [local go_sem] Oper.semAt_some
noncomputable def akF7 (B5 Bl Mu Wg Bm n:Nat) (us:Value) (d:Nat->Value):Act:={ tmps:=#[d 0,d 1,d 2,d 3,d 4,.pointer (some ⟨B5,0,none⟩),.pointer (some ⟨Bl,0,none⟩),.pointer (some ⟨Mu,0,none⟩),.pointer (some ⟨Wg,0,none⟩),.pointer (some ⟨Bm,0,none⟩),d 10,d 11,d 12,d 13,d 14,d 15,d 16,d 17,d 18,d 19,d 20,d 21,d 22,d 23,d 24,d 25,us,.int .i64 (n:Int),.int .i64 0,d 29,d 30,d 31,d 32,d 33,d 34,d 35,d 36,d 37,d 38,d 39,d 40,d 41,d 42,d 43,d 44,d 45,d 46,d 47,d 48,d 49,d 50,d 51,d 52,d 53,d 54,d 55,d 56,d 57],defers:=[] }
theorem akF7_kn (B5 Bl Mu Wg Bm n:Nat) (us:Value) (d:Nat->Value):Kn (akF7 B5 Bl Mu Wg Bm n us d) 58 [(5,.pointer (some ⟨B5,0,none⟩)),(6,.pointer (some ⟨Bl,0,none⟩)),(7,.pointer (some ⟨Mu,0,none⟩)),(8,.pointer (some ⟨Wg,0,none⟩)),(9,.pointer (some ⟨Bm,0,none⟩)),(26,us),(27,.int .i64 (n:Int)),(28,.int .i64 ((0:Nat):Int))]:=⟨rfl,rfl,rfl,rfl,rfl,rfl,rfl,rfl,rfl,trivial⟩
section
variable {b:Fbk} {vm vd vt:Value} {W:World}
theorem ak_r7 (hB:FBookAt W b vm vd vt) {B5 Bl Mu Wg Bm:Nat} {d:Nat->Value} (c0:W.cell? ⟨B5,0,none⟩=some vm) (c1:W.cell? ⟨B5,1,none⟩=some vd) (c2:W.cell? ⟨B5,2,none⟩=some vt) :
 akR7.wp Mz.prog (PZ fun a' w'=>∃ ua uc,(∃ d,a'=akF7 B5 Bl Mu Wg Bm (unmadeI b.tests).length (.slice ua (unmadeI b.tests).length uc) d)/\w'.ownsRow W.heap.size 3 1 (.slice ua (unmadeI b.tests).length uc) (unmadeI b.tests).length ((unmadeI b.tests).map (Value.int .i64))/\Below W.heap.size W w') (akF6 B5 Bl Mu Wg Bm d) W:=by
 have h5:=lt_of_cell c0;simp only at h5;have HB:=Hh hB;obtain ⟨rfl,⟨da,dc,rfl,_,_⟩,ta,tc,rfl,_,_⟩:=hB;simp only [akR7,cL,cR,askB,Tryz.f26,Option.getD_some];unfold akF6;go_wp2_with (go_at_call 87;(with_reducible refine (unmade_own HB.out).mono ?_);rintro e w1 ⟨ua,uc,rfl,hu,hb1⟩;have HU:=Hh hu;clear hu);exact ⟨rfl,ua,uc,fr_of (by kernel_rfl),HU.out,hb1⟩
end
theorem hcell_of {v:World} {Mu Wg C b o:Nat} {x:Value} (h:v.cell? ⟨b,o,none⟩=some x) (hn:b≠Mu/\b≠Wg/\b≠C):HCell (rov v Mu Wg C) b o x:=by
 unfold World.cell? at h;unfold HCell rov;rw [if_neg (by rintro (h | h | h);exact hn.1 h;exact hn.2.1 h;exact hn.2.2 h)]
 cases ho:v.heap[b]? with
 | none=>rw [ho] at h;cases h
 | some o =>
  rw [ho] at h;cases o <;> simp at h;exact ⟨_,_,_,rfl,h⟩
def pathOf (b:Fbk) (t:Nat):List Int:=(b.tests[t]?).elim [] Tst.path
def histAt (b:Fbk) (k:Nat):Nat->Nat:=(histsI b).getD k (fun _=>0)
def passN (b:Fbk) (t:Nat):Nat:=(histsI b).countP fun s=>(playI s (pathOf b t)).1
def leftI (b:Fbk) (t:Nat):Int:=max (passN b t:Int) (((histsI b).length:Int) - (passN b t:Int))
theorem cnt_take (b:Fbk) (l:List Int):∀ k,k<=(histsI b).length->cnt (histAt b) (stepsOf l) l.length k=((histsI b).take k).countP fun s=>(playI s l).1
 | 0,_=>by simp [cnt]
 | k+1,h=>by
  rw [cnt,cnt_take b l k (by omega),countP_take (by omega)];have:histAt b k=(histsI b)[k]:=by unfold histAt;rw [List.getD_eq_getElem?_getD,List.getElem?_eq_getElem (by omega)];rfl
  rw [this];rfl
theorem cnt_all (b:Fbk) (t:Nat):cnt (histAt b) (stepsOf (pathOf b t)) (pathOf b t).length (histsI b).length=passN b t:=by
 rw [cnt_take b _ _ (Nat.le_refl _),List.take_length];rfl
theorem histAt_lt (b:Fbk) (k j:Nat):histAt b k j < 3:=by
 unfold histAt;rw [List.getD_eq_getElem?_getD];by_cases h:k < (histsI b).length
 ·rw [List.getElem?_eq_getElem h];exact hists_lt (List.getElem_mem h) j
 ·rw [List.getElem?_eq_none (by omega)];show (0:Nat) < 3;omega
noncomputable def akKI (b:Fbk):(Nat->Bool)->Obj->Prop:=LeftsKI (unmadeI b.tests).length (fun j=>(((unmadeI b.tests).getD j 0).toNat:Int)) (fun j=>leftI b ((unmadeI b.tests).getD j 0).toNat)
section
variable {b:Fbk} {vm vd vt:Value} {v:World}
theorem unmade_nodup (l:List Tst):(unmadeI l).Nodup:=by
 unfold unmadeI unmadeTo;exact List.pairwise_map.2 (((List.nodup_range:(List.range l.length).Pairwise (·≠·)).filter _).imp fun h e=>h (Int.ofNat.inj e))
theorem ak_works (hk:bookAl b=0) (hne:histsI b≠[]) {B5 Bl Mu Wg C Bm:Nat} {la ua:Option Addr} {lc uc:Nat} {w0:World} (hB:FBookAt w0 b vm vd vt) (hA:ActsAt w0) (hS:Lies w0 b vm vd vt B5 Bl la lc) (ha:Alike w0 v) (hMu:w0.heap.size<=Mu) (hWg:w0.heap.size<=Wg) (hC:w0.heap.size<=C) (two:Mu≠Wg)
 (hm:v.cell? ⟨Bm,0,none⟩=some (.map (some C))) (hBm:Bm≠Mu/\Bm≠Wg/\C < Bm) {base:Nat} (hu:v.ownsRow base 3 1 (.slice ua (unmadeI b.tests).length uc) (unmadeI b.tests).length ((unmadeI b.tests).map (Value.int .i64))) (hbase:Mu < base/\Wg < base/\C < base) (tM tW:TypeId) :
 ∃ pb po pc lb lo tb to tc ub uo,la=some ⟨lb,lo,none⟩/\(0 < (unmadeI b.tests).length->ua=some ⟨ub,uo,none⟩) /\
  Works (millOf v Mu Wg C tM tW (unmadeI b.tests).length (akKI b)) (fun j=>((unmadeI b.tests).getD j 0).toNat) pb po pc (fun j=>(pathOf b ((unmadeI b.tests).getD j 0).toNat).length) (fun j=>stepsOf (pathOf b ((unmadeI b.tests).getD j 0).toNat)) Bl B5 Bm lb lo lc (histsI b).length tb to tc b.tests.length ub uo (histAt b):=by
 have h6:=(testsAl_ok (bookAl_ok hk).2).1;have hal:=(testsAl_ok (bookAl_ok hk).2).2;have hd6:=(bk6 hk).1;have hle:=(bk6 hk).2;have old:∀ x o y,x < w0.heap.size->w0.cell? ⟨x,o,none⟩=some y->HCell (rov v Mu Wg C) x o y:=fun x o y hx h=>hcell_of ((ha.cell _ _ hx).trans h) ⟨by omega,by omega,by omega⟩;have hl0:0 < (histsI b).length:=List.length_pos_iff.2 hne;obtain ⟨lb,lo,rfl,hlb,_⟩:=hS.st 0 hl0;have hst:∀ k (hk:k < (histsI b).length) j,j < 6->HCell (rov v Mu Wg C) lb (lo+k * 6+j) (.int .i64 ((histsI b)[k] j:Int)):=fun k hk j hj=>by
  obtain ⟨lb',lo',e,h1,h2⟩:=hS.st k hk;cases e;exact old _ _ _ h1 (h2 j hj)
 obtain ⟨_,⟨da,dc,hvd,_,_⟩,ta,tc,hvt,hT,_⟩:=hB;have hul:∀ j,j < (unmadeI b.tests).length->((unmadeI b.tests).getD j 0).toNat < b.tests.length:=fun j hj=>by
  rw [List.getD_eq_getElem?_getD,List.getElem?_eq_getElem hj];have:=unmade_lt _ (List.getElem_mem hj);simp only [Option.getD_some];omega
 have hgetu:∀ j (hj:j < (unmadeI b.tests).length),(unmadeI b.tests).getD j 0=(unmadeI b.tests)[j]:=fun j hj=>by rw [List.getD_eq_getElem?_getD,List.getElem?_eq_getElem hj];rfl
 have htest:∃ tb to,∀ t (ht:t < b.tests.length),ta=some ⟨tb,to,none⟩/\∃ pb po pc,HCell (rov v Mu Wg C) tb (to+t * 2) (.slice (some ⟨pb,po,none⟩) (pathOf b t).length pc)/\HPath (rov v Mu Wg C) pb po (pathOf b t).length (stepsOf (pathOf b t)):=by
  by_cases h0:0 < b.tests.length
  ·obtain ⟨tb,to,rfl,_,_⟩:=hT 0 h0;refine ⟨tb,to,fun t ht=>⟨rfl,?_⟩⟩;obtain ⟨tb',to',e,htb,pa,pc,t0,_,_,hpi,_⟩:=hT t ht;cases e;have hpo:pathOf b t=b.tests[t].path:=by unfold pathOf;rw [List.getElem?_eq_getElem ht];rfl
   obtain ⟨hp1,hp2⟩:=pathAl_ok (hal _ (List.getElem_mem ht)).1;obtain ⟨pb,po,rfl,_,_⟩:=hpi 0 (by omega);refine ⟨pb,po,pc,by rw [hpo];exact old _ _ _ htb t0,fun i hi=>?_,fun i hi=>?_,by rw [hpo];omega⟩
   ·rw [hpo] at hi;obtain ⟨pb',po',e,hpb,h1⟩:=hpi i hi;cases e;have:=hp2 _ (List.getElem_mem hi);rw [show (stepsOf (pathOf b t) i:Int)=b.tests[t].path[i] by rw [hpo];unfold stepsOf;rw [List.getD_eq_getElem?_getD,List.getElem?_eq_getElem hi];simp only [Option.getD_some];omega];exact old _ _ _ hpb h1
   ·rw [hpo] at hi;have:=hp2 _ (List.getElem_mem hi);rw [hpo];unfold stepsOf;rw [List.getD_eq_getElem?_getD,List.getElem?_eq_getElem hi];simp only [Option.getD_some];omega
  ·exact ⟨0,0,fun t ht=>absurd ht (by omega)⟩
 obtain ⟨tb,to,htest⟩:=htest;have hch:∀ j:Nat,∃ x:Nat × Nat × Nat,j < (unmadeI b.tests).length->HCell (rov v Mu Wg C) tb (to+((unmadeI b.tests).getD j 0).toNat * 2) (.slice (some ⟨x.1,x.2.1,none⟩) (pathOf b ((unmadeI b.tests).getD j 0).toNat).length x.2.2)/\HPath (rov v Mu Wg C) x.1 x.2.1 (pathOf b ((unmadeI b.tests).getD j 0).toNat).length (stepsOf (pathOf b ((unmadeI b.tests).getD j 0).toNat)):=fun j=>by
  by_cases hj:j < (unmadeI b.tests).length
  ·obtain ⟨_,pb,po,pc,h1,h2⟩:=htest _ (hul j hj);exact ⟨(pb,po,pc),fun _=>⟨h1,h2⟩⟩
  ·exact ⟨(0,0,0),fun h=>absurd h hj⟩
 obtain ⟨f,hf⟩:=Classical.axiomOfChoice hch;have htodo:∃ ub uo,(0 < (unmadeI b.tests).length->ua=some ⟨ub,uo,none⟩)/\∀ i,i < (unmadeI b.tests).length->HCell (rov v Mu Wg C) ub (uo+i) (.int .i64 (((unmadeI b.tests).getD i 0).toNat:Int)):=by
  by_cases h0:0 < (unmadeI b.tests).length
  ·obtain ⟨ub,rfl,hb1,hb2,_⟩:=row_cell hu 0 (by simpa using h0);refine ⟨ub,0,fun _=>rfl,fun i hi=>?_⟩;obtain ⟨ub',e,_,_,h3⟩:=row_cell hu i (by simpa using hi);cases e;rw [List.getElem?_map,List.getElem?_eq_getElem hi] at h3;have:=unmade_lt _ (List.getElem_mem hi);rw [hgetu i hi,Int.toNat_of_nonneg this.1,Nat.zero_add];exact hcell_of h3 ⟨by omega,by omega,by omega⟩
  ·exact ⟨0,0,fun h=>absurd h h0,fun i hi=>absurd hi (by omega)⟩
 obtain ⟨ub,uo,hua,htodo⟩:=htodo;refine ⟨fun j=>(f j).1,fun j=>(f j).2.1,fun j=>(f j).2.2,lb,lo,tb,to,tc,ub,uo,rfl,hua,⟨rfl,two,Nat.le_trans (unmadeTo_le _ _) h6,?_,fun i j hi hj h=>?_,⟨old _ _ _ (lt_of_cell hS.l0) hS.l0,fun k hk j hj=>?_,histAt_lt b,hle⟩,fun j hj=>⟨?_,hul j hj,h6,(hf j hj).1,(hf j hj).2⟩,fun k hk=>old _ _ _ hA.1 (hA.2 k hk),hcell_of hm ⟨hBm.1,hBm.2.1,by omega⟩,hBm.2.2,htodo⟩⟩
 ·show akKI b=_;unfold akKI leftI;simp only [cnt_all];rfl
 ·have hi':i < (unmadeI b.tests).length:=hi;have hj':j < (unmadeI b.tests).length:=hj;have h':((unmadeI b.tests).getD i 0).toNat=((unmadeI b.tests).getD j 0).toNat:=h;rw [hgetu i hi',hgetu j hj'] at h';have h1:=unmade_lt _ (List.getElem_mem hi');have h2:=unmade_lt _ (List.getElem_mem hj');exact (List.getElem_inj (unmade_nodup b.tests)).1 (show (unmadeI b.tests)[i]=(unmadeI b.tests)[j] by omega)
 ·have:histAt b k=(histsI b)[k]:=by unfold histAt;rw [List.getD_eq_getElem?_getD,List.getElem?_eq_getElem hk];rfl
  rw [this];exact hst k hk j hj
 ·obtain ⟨e,_⟩:=htest _ (hul j hj);have:=hS.c2;rw [hvt,e] at this;exact old _ _ _ (lt_of_cell hS.c2) this
end
section
variable {b:Fbk} {vm vd vt:Value} {w:World}
def ZP (N0:Nat) (b:Fbk) (vm vd vt:Value) (a:Act) (w2:World):Prop :=
 ∃ B5 Bl Mu la lc w0,(∃ d,a=akF6 B5 Bl Mu (Mu+1) (Mu+1+1+1) d)/\Lies w0 b vm vd vt B5 Bl la lc/\FBookAt w0 b vm vd vt/\ActsAt w0/\Alike w0 w2/\w0.heap.size<=Mu/\N0<=Mu/\w2.heap[Mu]? = some (muObj 126 sh0.mu sh0.ms)/\w2.heap[Mu+1]? = some (wgObj 133 sh0.v sh0.wt sh0.ws)/\w2.heap[Mu+1+1]? = some (mapObj [])/\w2.cell? ⟨Mu+1+1+1,0,none⟩=some (.map (some (Mu+1+1)))/\w2.heap.size=Mu+1+1+1+1
theorem ZP.twin {N0:Nat} {a:Act} {w1 w2:World} (ht:Twin N0 w1 w2) (h:ZP N0 b vm vd vt a w1):ZP N0 b vm vd vt a w2:=by
 obtain ⟨B5,Bl,Mu,la,lc,w0,h1,h2,h3,h4,h5,h6,h7,h8,h9,h10,h11,h12⟩:=h;exact ⟨B5,Bl,Mu,la,lc,w0,h1,h2,h3,h4,h5.trans ht.alike,h6,h7,(ht.block _ h7).trans h8,(ht.block _ (by omega)).trans h9,(ht.block _ (by omega)).trans h10,(ht.cell _).trans h11,ht.size.trans h12⟩
theorem ak_pre {W:World} (hB:FBookAt W b vm vd vt) (hN:∀ m∈b.devs,m.name.size<=1000000) (hA:ActsAt W) (ht:openAl b 0=0) :
 wps Mz.prog [akC 0,akC 1,akC 2,akC 3,akC 4,akC 5] (fun a' w2=>ZP W.heap.size b vm vd vt a' w2/\Old W w2) { tmps:=#[.agg #[vm,vd,vt],U,U,U,U,U,U,U,U,U,U,U,U,U,U,U,U,U,U,U,U,U,U,U,U,U,U,U,U,U,U,U,U,U,U,U,U,U,U,U,U,U,U,U,U,U,U,U,U,U,U,U,U,U,U,U,U,U],defers:=[] } W:=by
 refine wps_cons (ak_r0 hB) ?_;rintro a1 w1 ⟨N0,⟨d1,rfl⟩,x0,x1,x2,hb1⟩;refine ⟨rfl,fun t1=>?_⟩;have o1:=(Below.old hb1).on t1 0;refine wps_cons (ak_r1 (hB.alike o1.alike) hN (hA.alike o1.alike) ht ⟨x0,x1,x2⟩) ?_;rintro a2 w2 ⟨B5,Bl,la,lc,⟨d2,rfl⟩,hS,h5,hl,hne,hb2⟩;refine ⟨rfl,fun t2=>?_⟩;have o2:=o1.trans ((Below.old hb2).on t2 0);have hS2:Lies (w2.on t2 0) b vm vd vt B5 Bl la lc:=hS.alike ((Old.refl w2).on t2 0).alike;refine wps_cons ak_r2 ?_;rintro a3 w3 ⟨⟨d3,rfl⟩,rfl⟩;refine ⟨rfl,fun t3=>?_⟩;have o3:=o2.on t3 0;have hS3:=hS2.alike ((Old.refl (w2.on t2 0)).on t3 0).alike;have hs3:=o3.size;have hB3:=hB.alike o3.alike;have hA3:=hA.alike o3.alike;clear o1 o2 hS hS2;generalize (w2.on t2 0).on t3 0=w0 at o3 hS3 hs3 hB3 hA3 ⊢;refine wps_cons ak_r4 ?_;rintro a4 w4 ⟨⟨d4,rfl⟩,rfl⟩;refine ⟨rfl,fun t4=>?_⟩;have o4:Old w0 ((w0.alloc (muObj 126 sh0.mu sh0.ms)).on t4 0):=(Below.old (Below.al (Below.refl _ _) _)).on t4 0;have m4:((w0.alloc (muObj 126 sh0.mu sh0.ms)).on t4 0).heap[w0.heap.size]? = some (muObj 126 sh0.mu sh0.ms):=World.alloc_heap_new w0 _;have s4:((w0.alloc (muObj 126 sh0.mu sh0.ms)).on t4 0).heap.size=w0.heap.size+1:=by show (w0.alloc _).heap.size=_;simp
 generalize (w0.alloc (muObj 126 sh0.mu sh0.ms)).on t4 0=w5 at o4 m4 s4 ⊢;refine wps_cons ak_r5 ?_;rintro a5 w6 ⟨⟨d5,rfl⟩,rfl⟩;refine ⟨rfl,fun t5=>?_⟩;have o5:Old w5 ((w5.alloc (wgObj 133 sh0.v sh0.wt sh0.ws)).on t5 0):=(Below.old (Below.al (Below.refl _ _) _)).on t5 0;have m5:((w5.alloc (wgObj 133 sh0.v sh0.wt sh0.ws)).on t5 0).heap[w5.heap.size]? = some (wgObj 133 sh0.v sh0.wt sh0.ws):=World.alloc_heap_new w5 _;have s5:((w5.alloc (wgObj 133 sh0.v sh0.wt sh0.ws)).on t5 0).heap.size=w5.heap.size+1:=by show (w5.alloc _).heap.size=_;simp
 generalize (w5.alloc (wgObj 133 sh0.v sh0.wt sh0.ws)).on t5 0=w7 at o5 m5 s5 ⊢;refine wps_cons ak_r6 ?_;rintro a6 w8 ⟨⟨d6,rfl⟩,rfl⟩;refine ⟨rfl,fun t6=>?_⟩;have o6:Old w7 (((w7.alloc (mapObj [])).alloc (.cells #[.map (some w7.heap.size)] 134)).on t6 0):=(Below.old (Below.al (Below.al (Below.refl _ _) _) _)).on t6 0;have m6:(((w7.alloc (mapObj [])).alloc (.cells #[.map (some w7.heap.size)] 134)).on t6 0).heap[w7.heap.size]? = some (mapObj []):=(Below.heap_alloc _ _ _ (by simp)).trans (World.alloc_heap_new w7 _);have c6:(((w7.alloc (mapObj [])).alloc (.cells #[.map (some w7.heap.size)] 134)).on t6 0).cell? ⟨w7.heap.size+1,0,none⟩=some (.map (some w7.heap.size)):=cell_last (w:=w7.alloc (mapObj [])) (by simp);have s6:(((w7.alloc (mapObj [])).alloc (.cells #[.map (some w7.heap.size)] 134)).on t6 0).heap.size=w7.heap.size+1+1:=by show ((w7.alloc _).alloc _).heap.size=_;simp
 generalize ((w7.alloc (mapObj [])).alloc (.cells #[.map (some w7.heap.size)] 134)).on t6 0=w9 at o6 m6 c6 s6 ⊢;show ZP _ _ _ _ _ _ _/\_;rw [s5,s4] at m6 c6 s6;refine ⟨⟨B5,Bl,w0.heap.size,la,lc,w0,⟨d6,by rw [s4,s5,s4]⟩,hS3,hB3,hA3,((o4.trans o5).trans o6).alike,Nat.le_refl _,hs3,(o6.block _ (by omega)).trans ((o5.block _ (by omega)).trans m4),(o6.block _ (by omega)).trans (by rw [<- s4];exact m5),m6,c6,s6⟩,((o3.trans o4).trans o5).trans o6⟩
theorem leadsL_seq {P:Program} {L:Nat} {K:Frame->List Frame->World->Prop} {b:Frame} {a:Act} {k:List Item} {cs:List Frame} {w:World} {x y:Code} (h:∀ d,LeadsL P L K (b.at a (.code x::.code y::k)) cs (w.at d)):LeadsL P L K (b.at a (.code (.seq x y)::k)) cs w :=
 fun w0 D hv=>.step fun d=>⟨_,_,w0.at d,#[],rfl,by simp,Nat.le_refl _,h d _ _ (hv.at d)⟩
theorem ownsRow_twin {n base e size m:Nat} {w1 w2:World} {x:Value} {xs:List Value} (h:w1.ownsRow base e size x m xs) (ht:Twin n w1 w2) (hn:n<=base):w2.ownsRow base e size x m xs:=by
 obtain ⟨h1,h2 | ⟨g,cap,cur,rfl,e2,e3,e4⟩⟩:=h
 ·exact ⟨h1,.inl h2⟩
 ·exact ⟨h1,.inr ⟨g,cap,cur,rfl,e2,(ht.block g (Nat.le_trans hn e2)).trans e3,e4⟩⟩
def ZQ (n:Nat) (b:Fbk) (B5 Bl Mu:Nat) (a':Act) (w':World):Prop:=∃ ua uc,(∃ d,a'=akF7 B5 Bl Mu (Mu+1) (Mu+1+1+1) (unmadeI b.tests).length (.slice ua (unmadeI b.tests).length uc) d)/\w'.ownsRow n 3 1 (.slice ua (unmadeI b.tests).length uc) (unmadeI b.tests).length ((unmadeI b.tests).map (Value.int .i64))
theorem ZQ.twin {n B5 Bl Mu:Nat} {a:Act} {w1 w2:World} (ht:Twin n w1 w2) (h:ZQ n b B5 Bl Mu a w1):ZQ n b B5 Bl Mu a w2:=by
 obtain ⟨ua,uc,h1,h2⟩:=h;exact ⟨ua,uc,h1,ownsRow_twin h2 ht (Nat.le_refl _)⟩
theorem ak_enter:Frame.enter Tryz.prog 26 #[.agg #[vm,vd,vt]] .normal=(base 26).at { tmps:=#[.agg #[vm,vd,vt],U,U,U,U,U,U,U,U,U,U,U,U,U,U,U,U,U,U,U,U,U,U,U,U,U,U,U,U,U,U,U,U,U,U,U,U,U,U,U,U,U,U,U,U,U,U,U,U,U,U,U,U,U,U,U,U,U],defers:=[] } [.code askB]:=by kernel_rfl
def AskMid (w:World) (b:Fbk) (vm vd vt:Value) (cs:List Frame) (fr':Frame) (cs':List Frame) (v':World):Prop :=
 ∃ B5 Bl Mu Wg C Bm la lc,(∃ a1,fr'=(base 26).at a1 [.code srR14]/\a1.defers=[]/\Kn a1 58 [(5,.pointer (some ⟨B5,0,none⟩)),(6,.pointer (some ⟨Bl,0,none⟩)),(7,.pointer (some ⟨Mu,0,none⟩)),(8,.pointer (some ⟨Wg,0,none⟩)),(9,.pointer (some ⟨Bm,0,none⟩))])/\cs'=cs/\Lies v' b vm vd vt B5 Bl la lc/\FBookAt v' b vm vd vt/\(v'.output=w.output/\ConcM.OsLater w.os v'.os)/\w.heap.size<=v'.heap.size/\(∀ k,k < w.heap.size->v'.heap[k]? = w.heap[k]?) /\
  v'.cell? ⟨Bm,0,none⟩=some (.map (some C))/\∃ o,v'.heap[C]? = some o/\akKI b (fun j=>decide (j < (unmadeI b.tests).length)) o
theorem ask_front (hB:FBookAt w b vm vd vt) (hN:∀ m∈b.devs,m.name.size<=1000000) (hA:ActsAt w) (ht:openAl b 0=0) (cs:List Frame) {L:Nat} (hL:L<=w.heap.size) :
 LeadsL Tryz.prog L (AskMid w b vm vd vt cs) (Frame.enter Tryz.prog 26 #[.agg #[vm,vd,vt]] .normal) cs w:=by
 have hok:=List.all_eq_true.1 ak_ok;have hok7:=List.all_eq_true.1 ak_ok7;obtain ⟨hk,_,hne⟩:=openAl_ok ht;rw [ak_enter,askB_eq];refine pieces_coL hL _ (fun c hc=>hok c hc) rfl (by kernel_rfl) rfl (Z:=ZP w.heap.size b vm vd vt) (fun a w1 w2 ht h=>h.twin ht) (fun W hW=>?_) ?_
 ·have:=ak_pre (hB.alike hW.alike) hN (hA.alike hW.alike) ht;rw [hW.size] at this;exact this
 rintro a6 w6 hs6 ⟨B5,Bl,Mu,la,lc,w0,⟨d,rfl⟩,hS,hB0,hA0,ha,hMu0,hN0,m0,m1,m2,c3,s6⟩ o6;refine leadsL_seq fun d1=>?_;have hB6:=hB0.alike ha;have hS6:=hS.alike ha;refine pieces_coL (w:=w6.at d1) (Nat.le_trans hL hs6) _ (fun c hc=>hok7 c hc) rfl (by kernel_rfl) rfl (Z:=ZQ w6.heap.size b B5 Bl Mu) (fun a w1 w2 ht h=>h.twin ht) (fun W hW=>?_) ?_
 ·have ht:Twin w6.heap.size w6 W:=hW.unat;refine wps_cons (ak_r7 (hB6.alike ht.alike) ((ht.cell _).trans hS6.c0) ((ht.cell _).trans hS6.c1) ((ht.cell _).trans hS6.c2)) ?_;rintro a' w' ⟨ua,uc,⟨d,rfl⟩,hu,hb⟩;rw [ht.size] at hu;exact ⟨rfl,fun t=>⟨⟨ua,uc,⟨d,rfl⟩,hu⟩,(Below.old hb).on t 0⟩⟩
 rintro a7 v hsv ⟨ua,uc,⟨d7,rfl⟩,hu⟩ o7;have o7':Old w6 v:=⟨o7.os,o7.output,o7.size,o7.block⟩;have hav:=ha.trans o7'.alike;obtain ⟨pb,po,pc,lb,lo,tb,to,tc,ub,uo,hla,hua,K⟩:=ak_works (v:=v) hk hne hB0 hA0 hS hav (Mu:=Mu) (Wg:=Mu+1) (C:=Mu+1+1) (Bm:=Mu+1+1+1) hMu0 (by omega) (by omega) (by omega) (o7'.cell2 c3) ⟨by omega,by omega,by omega⟩ hu ⟨by omega,by omega,by omega⟩ 126 133;subst hla;refine ((ask_mill (L:=L) (cs:=cs) (us:=.slice ua (unmadeI b.tests).length uc) (by omega) K ((o7'.block _ (by omega)).trans m0) ((o7'.block _ (by omega)).trans m1) ((o7'.block _ (by omega)).trans m2) ⟨by omega,by omega⟩ (uc:=uc) (fun h=>by rw [hua h]) rfl (akF7_kn _ _ _ _ _ _ _ _)).trans ?_);rintro fr' cs' v' hsv' ⟨⟨a1,e1,e2,e3,e4⟩,htp,hout,hrov,o,hCo,hKI⟩;have hblk:∀ k,k < v.heap.size->k≠Mu->k≠Mu+1->k≠Mu+1+1->v'.heap[k]? = v.heap[k]? := fun k hk h1 h2 h3=>by
  have hsome:=Array.getElem?_eq_getElem hk;rw [hsome];exact hrov k _ (by unfold rov;rw [if_neg (by rintro (h | h | h);exact h1 h;exact h2 h;exact h3 h)];exact hsome)
 have hs6v:Mu+1+1+1+1<=v.heap.size:=by rw [<- s6];exact o7'.size
 have al:Alike w0 v':=⟨by omega,fun x o hx=>by
  rw [World.cell?_of_block (a:=⟨x,o,none⟩) (hblk x (by omega) (by omega) (by omega) (by omega))]
  exact hav.cell _ _ hx⟩
 refine .done ⟨B5,Bl,Mu,Mu+1,Mu+1+1,Mu+1+1+1,_,lc,⟨a1,e1,e3,e4⟩,e2,hS.alike al,hB0.alike al,⟨(hout.trans o7'.output).trans o6.output,by have:=htp.2;rw [o7'.os,o6.os] at this;exact this⟩,by omega,fun k hk=>((hblk k (by omega) (by omega) (by omega) (by omega)).trans (o7'.block _ (by omega))).trans (o6.block k hk),?_,o,hCo,hKI⟩;have hlast:v'.heap[Mu+1+1+1]? = v.heap[Mu+1+1+1]? := hblk _ (by omega) (by omega) (by omega) (by omega);rw [World.cell?_of_block (a:=⟨Mu+1+1+1,0,none⟩) hlast];exact o7'.cell2 c3
end
end Mt
namespace Mt
open Go Go.RowKit Go.Maps Go.Conc Mob Go.MapKept
attribute [local go_sem] Oper.semAt_some
theorem pieces_coM {b:Frame} {a:Act} {w:World} {k:List Item} {cs:List Frame} {R:Code} (l:List Code) (hc:∀ c∈l,codeOk Tryz.prog c=true) (hb:b.kind=.normal) (hg:badF b.fn=false) (hd:a.defers=[]) {Z:Act->World->Prop} (hZ:∀ a w1 w2,Twin w.heap.size w1 w2->Z a w1->Z a w2)
 (h:∀ W,Twin w.heap.size w W->(∀ (k:Nat) o,w.heap[k]? = some o->bad o=false->W.heap[k]? = some o)->wps Mz.prog l (fun a' w2=>Z a' w2/\Old W w2) a W) {K:Frame->List Frame->World->Prop} (hk:∀ a' w',Z a' w'->Old w w'->Leads Tryz.prog K (b.at a' (.code R::k)) cs w') :
 Leads Tryz.prog K (b.at a (.code (seqs l R)::k)) cs w:=by
 have hl:=muted_like Tryz.prog badF w;refine (wps_leads (Q:=fun a' W2=>Z a' W2/\Old (muted w) W2) progOk hb hg l hl hc hd fun t=>?_).trans ?_
 ·refine wps_mono ?_ l (h _ (muted_twin w t) fun k o ho hbo=>?_)
  ·rintro a' w2 ⟨h1,h2⟩;exact ⟨h1,h2.os,h2.output,h2.size,h2.block⟩
  ·show (w.heap.map muteObj)[k]? = some o;rw [Array.getElem?_map,ho];show some (muteObj o)=some o;unfold muteObj;rw [hbo];rfl
 ·rintro fr' cs' w1 ⟨a',w1',e1,e2,h3,hq⟩;rw [e1,e2];obtain ⟨hz,ho⟩:=hq w1'.tape;exact hk a' w1 (hZ _ _ _ (like_twin hl h3 w1'.tape 0) hz) (like_old hl h3 (d2:=0) (t:=w1'.tape) (t2:=w1'.tape) ⟨ho.os,rfl,ho.output,ho.size,ho.block⟩)
theorem ents_val:∀ (l:List (Int × Int)) (i:Nat) (j:Nat) (x:MapEntry),(ents i l)[j]? = some x->∃ p∈l,x.key=.int .i64 p.1/\x.val=.int .i64 p.2
 | p::l,i,0,x,h=>by
  simp [ents,ent] at h;subst h;exact ⟨p,by simp,rfl,rfl⟩
 | p::l,i,j+1,x,h=>by
  obtain ⟨q,hq,e⟩:=ents_val l (i+1) j x (by simpa [ents] using h);exact ⟨q,by simp [hq],e⟩
theorem run_look {P:Program} {w:World} {r:Nat} {mty kt et:TypeId} {l:List (Int × Int)} (hm:P.underlying mty=some (.map kt et)) (hd:P.underlying kt=some (.int .i64)) (hb:w.heap[r]? = some (mapObj l)) {p:Int × Int} (hp:p∈l) (hf:∀ q∈l,q.1=p.1->q.2=p.2) :
 (Instr.lookup mty (.map (some r)) (.int .i64 p.1) false).run P w=.ok (.int .i64 p.2) w:=by
 have hb':w.heap[r]? = some (.map (ents 0 l).toArray l.length):=hb;have hfind:∃ j,Instr.findNow (.int .i64) (.int .i64 p.1) (ents 0 l) 0=some (some (j,.int .i64 p.2)):=by
  rcases findNow_spec (d:=.int .i64) (k:=.int .i64 p.1) rfl (ents 0 l) 0 (ents_is l) with ⟨_,h2⟩ | ⟨j,e,h1,h2,h3⟩
  ·exfalso;have hx:∀ (l:List (Int × Int)) (i:Nat),p∈l->∃ x∈ents i l,x.key=.int .i64 p.1:=by
    intro l
    induction l with
    | nil=>intro i h;cases h
    | cons q l ih =>
     intro i h;rcases List.mem_cons.1 h with rfl | h
     ·exact ⟨ent i p,by simp [ents],rfl⟩
     ·obtain ⟨x,hx,e⟩:=ih (i+1) h;exact ⟨x,by simp [ents,hx],e⟩
   obtain ⟨x,hx,e⟩:=hx l 0 hp;exact h2 x hx e
  ·obtain ⟨q,hq,e1,e2⟩:=ents_val l 0 j e h2;rw [e1] at h3;have:=hf q hq (Value.int.inj h3).2;rw [e2,this] at h1;exact ⟨_,h1⟩
 obtain ⟨j,hfind⟩:=hfind;simp [Instr.lookup,run_underlying hm,Go.MapKept.run_getObj_map hb',Go.MapKept.run_checkKey (d:=.int .i64) hd (k:=.int .i64 p.1) rfl,Go.MapKept.run_findKey hd hfind,Result.andThen]
noncomputable def akZ (n:Nat):Code:=cL (cR n srR14)
theorem srR14_eq:srR14=seqs [akZ 0,akZ 1,akZ 2] .ret:=by kernel_rfl
theorem akz_ok:[akZ 0,akZ 1,akZ 2].all (codeOk Tryz.prog)=true:=by kernel_rfl
noncomputable def akG0 (B5 Bl Bm:Nat) (d:Nat->Value):Act:={ tmps:=#[d 0,d 1,d 2,d 3,d 4,.pointer (some ⟨B5,0,none⟩),.pointer (some ⟨Bl,0,none⟩),d 7,d 8,.pointer (some ⟨Bm,0,none⟩),d 10,d 11,d 12,d 13,d 14,d 15,d 16,d 17,d 18,d 19,d 20,d 21,d 22,d 23,d 24,d 25,d 26,d 27,d 28,d 29,d 30,d 31,d 32,d 33,d 34,d 35,d 36,d 37,d 38,d 39,d 40,d 41,d 42,d 43,d 44,d 45,d 46,d 47,d 48,d 49,d 50,d 51,d 52,d 53,d 54,d 55,d 56,d 57],defers:=[] }
noncomputable def akG1 (B5 Bm Bx:Nat) (d:Nat->Value):Act:={ tmps:=#[d 0,d 1,d 2,d 3,d 4,.pointer (some ⟨B5,0,none⟩),d 6,d 7,d 8,.pointer (some ⟨Bm,0,none⟩),d 10,d 11,.pointer (some ⟨Bx,0,none⟩),d 13,d 14,d 15,d 16,d 17,d 18,d 19,d 20,d 21,d 22,d 23,d 24,d 25,d 26,d 27,d 28,d 29,d 30,d 31,d 32,d 33,d 34,d 35,d 36,d 37,d 38,d 39,d 40,d 41,d 42,d 43,d 44,d 45,d 46,d 47,d 48,d 49,d 50,d 51,d 52,d 53,d 54,d 55,d 56,d 57],defers:=[] }
noncomputable def akG2 (Bx:Nat) (d:Nat->Value):Act:={ tmps:=#[d 0,d 1,d 2,d 3,d 4,d 5,d 6,d 7,d 8,d 9,d 10,d 11,.pointer (some ⟨Bx,0,none⟩),d 13,d 14,d 15,d 16,d 17,d 18,d 19,d 20,d 21,d 22,d 23,d 24,d 25,d 26,d 27,d 28,d 29,d 30,d 31,d 32,d 33,d 34,d 35,d 36,d 37,d 38,d 39,d 40,d 41,d 42,d 43,d 44,d 45,d 46,d 47,d 48,d 49,d 50,d 51,d 52,d 53,d 54,d 55,d 56,d 57],defers:=[] }
noncomputable def akG3 (v c:Int) (d:Nat->Value):Act:={ tmps:=#[d 0,d 1,.int .i64 v,.int .i64 c,.int .i64 0,d 5,d 6,d 7,d 8,d 9,d 10,d 11,d 12,d 13,d 14,d 15,d 16,d 17,d 18,d 19,d 20,d 21,d 22,d 23,d 24,d 25,d 26,d 27,d 28,d 29,d 30,d 31,d 32,d 33,d 34,d 35,d 36,d 37,d 38,d 39,d 40,d 41,d 42,d 43,d 44,d 45,d 46,d 47,d 48,d 49,d 50,d 51,d 52,d 53,d 54,d 55,d 56,d 57],defers:=[] }
theorem arr_of (t:Array Value) (d:Nat->Value) (h:t.size=58) (hd:∀ i,i < 58->t[i]? = some (d i)):t=#[d 0,d 1,d 2,d 3,d 4,d 5,d 6,d 7,d 8,d 9,d 10,d 11,d 12,d 13,d 14,d 15,d 16,d 17,d 18,d 19,d 20,d 21,d 22,d 23,d 24,d 25,d 26,d 27,d 28,d 29,d 30,d 31,d 32,d 33,d 34,d 35,d 36,d 37,d 38,d 39,d 40,d 41,d 42,d 43,d 44,d 45,d 46,d 47,d 48,d 49,d 50,d 51,d 52,d 53,d 54,d 55,d 56,d 57]:=by
 have e:#[d 0,d 1,d 2,d 3,d 4,d 5,d 6,d 7,d 8,d 9,d 10,d 11,d 12,d 13,d 14,d 15,d 16,d 17,d 18,d 19,d 20,d 21,d 22,d 23,d 24,d 25,d 26,d 27,d 28,d 29,d 30,d 31,d 32,d 33,d 34,d 35,d 36,d 37,d 38,d 39,d 40,d 41,d 42,d 43,d 44,d 45,d 46,d 47,d 48,d 49,d 50,d 51,d 52,d 53,d 54,d 55,d 56,d 57]=((List.range 58).map d).toArray:=by kernel_rfl
 rw [e];apply Array.ext_getElem?;intro i;by_cases hi:i < 58
 ·rw [hd i hi];simp [hi]
 ·rw [Array.getElem?_eq_none (by omega),Array.getElem?_eq_none (by simp;omega)]
theorem akG0_of {a:Act} {B5 Bl Mu Wg Bm:Nat} (hd:a.defers=[]) (q:Kn a 58 [(5,.pointer (some ⟨B5,0,none⟩)),(6,.pointer (some ⟨Bl,0,none⟩)),(7,.pointer (some ⟨Mu,0,none⟩)),(8,.pointer (some ⟨Wg,0,none⟩)),(9,.pointer (some ⟨Bm,0,none⟩))]):∃ d,a=akG0 B5 Bl Bm d:=by
 obtain ⟨t,df⟩:=a;simp only at hd;subst hd;refine ⟨fun i=>t.getD i U,?_⟩;have h:=arr_of t (fun i=>t.getD i undef) q.sz fun i hi=>by
  have:i < t.size:=by rw [show t.size=58 from q.sz];exact hi
  simp [this]
 have h5:t.getD 5 undef=.pointer (some ⟨B5,0,none⟩):=by have:=q.g 5 rfl;simp only at this;simp [Array.getD_eq_getD_getElem?,this]
 have h6:t.getD 6 undef=.pointer (some ⟨Bl,0,none⟩):=by have:=q.g 6 rfl;simp only at this;simp [Array.getD_eq_getD_getElem?,this]
 have h9:t.getD 9 undef=.pointer (some ⟨Bm,0,none⟩):=by have:=q.g 9 rfl;simp only at this;simp [Array.getD_eq_getD_getElem?,this]
 show (⟨t,[]⟩:Act)=_;unfold akG0;congr 1;rw [h5,h6,h9] at h;exact h
end Mt
namespace Mt
open Go Go.RowKit Go.Maps Go.Conc Mob
attribute [local go_sem] Oper.semAt_some
noncomputable def askStep (b:Fbk) (out:Bst) (t:Int):Bst:=betterI out ⟨t,leftI b t.toNat,true⟩
noncomputable def askI (b:Fbk):Bst:=(unmadeI b.tests).foldl (askStep b) ⟨-1,((histsI b).length:Int),true⟩
section
variable {b:Fbk} {vm vd vt:Value} {W:World}
theorem ak_z0 {B5 Bl Bm:Nat} {la:Option Addr} {lc:Nat} {d:Nat->Value} (hl:W.cell? ⟨Bl,0,none⟩=some (.slice la (histsI b).length lc)) :
 (akZ 0).wp Mz.prog (PZ fun a' w'=>(∃ d,a'=akG1 B5 Bm W.heap.size d)/\w'=W.alloc (.cells #[.int .i64 (-1),.int .i64 ((histsI b).length:Int),.bool true] 138)) (akG0 B5 Bl Bm d) W:=by
 have hlt:=lt_of_cell hl;simp only at hlt;simp only [akZ,cL,cR,srR14,srREST,Tryz.f26];unfold akG0;go_wp2;exact ⟨rfl,fr_of (by kernel_rfl),rfl⟩
theorem ak_z1 (hB:FBookAt W b vm vd vt) (h6:b.tests.length<=6) {B5 Bm Bx C:Nat} {d:Nat->Value} (c0:W.cell? ⟨B5,0,none⟩=some vm) (c1:W.cell? ⟨B5,1,none⟩=some vd) (c2:W.cell? ⟨B5,2,none⟩=some vt) (cm:W.cell? ⟨Bm,0,none⟩=some (.map (some C)))
 {o:Obj} (hC:W.heap[C]? = some o) (ho:akKI b (fun j=>decide (j < (unmadeI b.tests).length)) o) (hBx:Bx < W.heap.size/\Bx≠C/\Bx≠Bm/\Bx≠B5) (x0:W.cell? ⟨Bx,0,none⟩=some (.int .i64 (-1))) (x1:W.cell? ⟨Bx,1,none⟩=some (.int .i64 ((histsI b).length:Int))) (x2:W.cell? ⟨Bx,2,none⟩=some (.bool true)) (xf:∀ k,W.frozen? ⟨Bx,k,none⟩=false) :
 (akZ 1).wp Mz.prog (PZ fun a' w'=>(∃ d,a'=akG2 Bx d)/\w'.cell? ⟨Bx,0,none⟩=some (.int .i64 (askI b).v)/\w'.cell? ⟨Bx,1,none⟩=some (.int .i64 (askI b).c)/\KS (fun k=>k≠Bx) W w') (akG1 B5 Bm Bx d) W:=by
 have h5:=lt_of_cell c0;have hbm:=lt_of_cell cm;simp only at h5 hbm;have HLK:=Hh (show ∀ j (hj:j < (unmadeI b.tests).length) (W':World),W'.heap[C]? = some o->Sem.run Mz.prog (Instr.lookup 134 (.map (some C)) (.int .i64 (((unmadeI b.tests)[j]).toNat:Int)) false) W'=.ok (.int .i64 (leftI b ((unmadeI b.tests)[j]).toNat)) W' from fun j hj W' hW'=>by
  obtain ⟨l,hl,rfl⟩:=ho
  have hg:(unmadeI b.tests).getD j 0=(unmadeI b.tests)[j]:=by rw [List.getD_eq_getElem?_getD,List.getElem?_eq_getElem hj];rfl
  refine run_look (mzu Tryz.underlying134) (mzu Tryz.underlying3) hW' (p:=(((((unmadeI b.tests)[j]).toNat:Nat):Int),leftI b ((unmadeI b.tests)[j]).toNat)) (List.mem_map.2 ⟨j,(hl j).2 ⟨hj,by simp [hj]⟩,by simp only [hg]⟩) ?_
  intro q hq e
  obtain ⟨i,_,rfl⟩:=List.mem_map.1 hq
  simp only at e ⊢
  have:((unmadeI b.tests).getD i 0).toNat=((unmadeI b.tests)[j]).toNat:=by omega
  rw [this])
 obtain ⟨hb1,hb2,hb3,hb4⟩:=hBx;have HB:=Hh hB;have HXF:=Hh xf;have HULT:=Hh (unmade_lt (l:=b.tests));have HASK:=Hh (show askI b=(unmadeI b.tests).foldl (askStep b) ⟨-1,((histsI b).length:Int),true⟩ from rfl);have hunl:(unmadeI b.tests).length<=6:=Nat.le_trans (unmadeTo_le _ _) h6;generalize askI b=AI at HASK ⊢;obtain ⟨rfl,⟨da,dc,rfl,_,_⟩,ta,tc,rfl,_,_⟩:=hB;clear ho xf;simp only [akZ,cL,cR,srR14,srREST,Tryz.f26];unfold akG1;go_wp2_with (go_at_call 87;(with_reducible refine (unmade_own HB.out).mono ?_);rintro e w1 ⟨ua,uc,rfl,hu,hw1⟩;have HU:=Hh hu;clear hu);have hs1:=hw1.size;have q0:=(hw1.cell (p:=⟨Bx,0,none⟩) hb1).trans x0;have q1:=(hw1.cell (p:=⟨Bx,1,none⟩) hb1).trans x1;have q2:=(hw1.cell (p:=⟨Bx,2,none⟩) hb1).trans x2;have qf:=fun k=>(hw1.frozen (p:=⟨Bx,k,none⟩) hb1).trans (HXF.out k);have qm:=(hw1.cell (p:=⟨Bm,0,none⟩) hbm).trans cm;have hCl:C < W.heap.size:=(Array.getElem?_eq_some_iff.1 hC).1;have qC:=(hw1.block C hCl).trans hC;have HQF:=Hh qf;have HQC:=Hh qC;have HW1:=Hh hw1;generalize hun:unmadeI b.tests=un at hunl HU HLK HULT HASK ⊢;clear qf qC hw1 c0 c1 c2 cm x0 x1 x2 hC HB hun;go_loopw [42] (fun i wr=>∃ (k:Nat) (out:Bst),k<=un.length/\i=.int .i64 k/\Hid ((un.take k).foldl (askStep b) ⟨-1,((histsI b).length:Int),true⟩=out)/\wr.cell? ⟨Bx,0,none⟩=some (.int .i64 out.v)/\wr.cell? ⟨Bx,1,none⟩=some (.int .i64 out.c)/\wr.cell? ⟨Bx,2,none⟩=some (.bool out.f)/\(∀ k,wr.frozen? ⟨Bx,k,none⟩=false)/\KS (fun k=>k≠Bx) w1 wr) (fun i _=>un.length - (intOf i).toNat)
 case atStart=>exact ⟨0,⟨-1,((histsI b).length:Int),true⟩,Nat.zero_le _,rfl,rfl,q0,q1,q2,HQF.out,KS.refl _ _⟩
 case round =>
  obtain ⟨k,⟨ov,oc,of⟩,hk,rfl,hout,e0,e1,e2,ef,hK⟩:=hrel;simp only at e0 e1 e2;have hKs:=hK.size;obtain ⟨wo,rfl⟩:∃ x,x=wr:=⟨_,rfl⟩;have hbx:Bx < wo.heap.size:=by omega
  have m0:=(hK.cell (x:=⟨Bm,0,none⟩) (by simp;omega) (fun e=>hb3 e.symm)).trans qm;have hbmo:Bm < wo.heap.size:=by omega
  have HKC:=Hh ((hK.block C (by omega) (fun e=>hb2 e.symm)).trans HQC.out);have HK:=Hh hK;have HEF:=Hh ef;have HOUT:=Hh hout;clear hK ef hout;by_cases hlt:k < un.length
  ·obtain ⟨ub,rfl,hub1,hub,hu0⟩:=row_cell HU.out k (by simpa using hlt);rw [List.getElem?_map,List.getElem?_eq_getElem hlt] at hu0;have hlk:=HLK.out k hlt wo HKC.out;have htb:=HULT.out un[k] (List.getElem_mem hlt);have hst:(un.take (k+1)).foldl (askStep b) ⟨-1,((histsI b).length:Int),true⟩=askStep b ⟨ov,oc,of⟩ un[k]:=by rw [List.take_succ_eq_append_getElem hlt,List.foldl_append,HOUT.out.out];rfl
   generalize un[k]=t at hu0 hlk htb hst;obtain ⟨tn,rfl⟩:∃ tn:Nat,t=(tn:Int):=⟨t.toNat,by omega⟩;unfold askStep at hst;rw [Int.toNat_natCast] at hlk hst;generalize leftI b tn=lv at hlk hst;have u0:wo.cell? ⟨ub,k,none⟩=some (.int .i64 (tn:Int)):=(HK.out.cell (x:=⟨ub,k,none⟩) hub (by simp at hub1 ⊢;omega)).trans hu0;have hub2:ub < wo.heap.size:=by omega
   obtain ⟨⟨nv,nc,nf⟩,hbi⟩:∃ x,betterI ⟨ov,oc,of⟩ ⟨(tn:Int),lv,true⟩=x:=⟨_,rfl⟩;rw [hbi] at hst;have HBI:=Hh (show ∀ W,Calls Mz.prog 94 #[.agg #[.int .i64 ov,.int .i64 oc,.bool of],.agg #[.int .i64 (tn:Int),.int .i64 lv,.bool true]] W fun e w'=>e=.returned (.agg #[.int .i64 nv,.int .i64 nc,.bool nf])/\Below W.heap.size W w' from fun W=>by
    have:=betterB_at (w:=W) (⟨ov,oc,of⟩:Bst) ⟨(tn:Int),lv,true⟩ rfl
    rw [hbi] at this
    exact this)
   have HS3:=Hh hst;clear hst hbi hu0;go_wp2_with (go_at_call 94;(with_reducible refine (HBI.out _).mono ?_);rintro e w6 ⟨rfl,hb6⟩;have g0:=(hb6.cell (p:=⟨Bx,0,none⟩) hbx).trans e0;have g1:=(hb6.cell (p:=⟨Bx,1,none⟩) hbx).trans e1;have g2:=(hb6.cell (p:=⟨Bx,2,none⟩) hbx).trans e2;have gf:=fun k=>(hb6.frozen (p:=⟨Bx,k,none⟩) hbx).trans (HEF.out k);have gf0:=gf 0;have gf1:=gf 1;have gf2:=gf 2;have HGF:=Hh gf;clear gf);obtain ⟨s0,s1,s2,sf,sk⟩:=set3 (x:=.int .i64 nv) (y:=.int .i64 nc) (z:=.bool nf) g0 g1 g2;have SF:=Hh (fun k=>(sf k).trans (HGF.out k));have SK:=Hh (HK.out.trans ((KS.all hb6 _).trans sk));clear sf sk;go_roundw
   case rel=>exact ⟨k+1,⟨nv,nc,nf⟩,hlt,by go_num,HS3.out,s0,s1,s2,SF.out,SK.out⟩
   case measure=>simp [intOf];omega
  ·obtain rfl:k=un.length:=by omega
   have hout2:=HOUT.out.out;rw [List.take_length,<- HASK.out] at hout2;have HO2:=Hh hout2;have HKF:=Hh ((KS.all HW1.out (fun k=>k≠Bx)).trans HK.out);clear hout2 HOUT;go_wp2;refine ⟨rfl,fr_of (by kernel_rfl),by rw [HO2.out];exact e0,by rw [HO2.out];exact e1,HKF.out⟩
theorem ak_z2 {Bx:Nat} {v c:Int} {d:Nat->Value} (x0:W.cell? ⟨Bx,0,none⟩=some (.int .i64 v)) (x1:W.cell? ⟨Bx,1,none⟩=some (.int .i64 c)) :
 (akZ 2).wp Mz.prog (PZ fun a' w'=>(∃ d,a'=akG3 v c d)/\Below W.heap.size W w') (akG2 Bx d) W:=by
 have hlt:=lt_of_cell x0;simp only at hlt;simp only [akZ,cL,cR,srR14,srREST,Tryz.f26];unfold akG2;refine Code.wp_mono (Q:=fun e a' w'=>match e with | .normal=>(∃ d,a'=akG3 v c d)/\Below W.heap.size W w' | _=>False) (fun e a' w' h=>?_) ?_
 ·cases e
  case normal=>exact ⟨rfl,h⟩
  all_goals exact h.elim
 go_region
 all_goals exact ⟨fr_of (by kernel_rfl),bel⟩
theorem ak_post (hB:FBookAt W b vm vd vt) (h6:b.tests.length<=6) {B5 Bl Bm C:Nat} {la:Option Addr} {lc:Nat} {d:Nat->Value} (hS:Lies W b vm vd vt B5 Bl la lc) (cm:W.cell? ⟨Bm,0,none⟩=some (.map (some C))) {o:Obj} (hC:W.heap[C]? = some o) (ho:akKI b (fun j=>decide (j < (unmadeI b.tests).length)) o) :
 wps Mz.prog [akZ 0,akZ 1,akZ 2] (fun a' w2=>(∃ d,a'=akG3 (askI b).v (askI b).c d)/\Old W w2) (akG0 B5 Bl Bm d) W:=by
 refine wps_cons (ak_z0 hS.l0) ?_;rintro a1 w1 ⟨⟨d1,rfl⟩,rfl⟩;refine ⟨rfl,fun t1=>?_⟩;have o1:Old W ((W.alloc (.cells #[.int .i64 (-1),.int .i64 ((histsI b).length:Int),.bool true] 138)).on t1 0):=(Below.old (Below.al (Below.refl _ _) _)).on t1 0;have q:∀ k u,(#[.int .i64 (-1),.int .i64 ((histsI b).length:Int),.bool true]:Array Value)[k]? = some u->((W.alloc (.cells #[.int .i64 (-1),.int .i64 ((histsI b).length:Int),.bool true] 138)).on t1 0).cell? ⟨W.heap.size,k,none⟩=some u:=fun k u hk=>by
  show (W.alloc _).cell? _=_;rw [World.cell?_alloc_at _ _ _ _ rfl];exact hk
 have qf:∀ k,((W.alloc (.cells #[.int .i64 (-1),.int .i64 ((histsI b).length:Int),.bool true] 138)).on t1 0).frozen? ⟨W.heap.size,k,none⟩=false:=fun k=>by
  show (W.alloc _).frozen? _=_;rw [World.frozen?_alloc_at _ _ _ _ rfl]
 have s1:((W.alloc (.cells #[.int .i64 (-1),.int .i64 ((histsI b).length:Int),.bool true] 138)).on t1 0).heap.size=W.heap.size+1:=by show (W.alloc _).heap.size=_;simp
 generalize (W.alloc (.cells #[.int .i64 (-1),.int .i64 ((histsI b).length:Int),.bool true] 138)).on t1 0=w2 at o1 q qf s1 ⊢;have hS1:=hS.alike o1.alike;have k5:=lt_of_cell hS.c0;have km:=lt_of_cell cm;have kC:=(Array.getElem?_eq_some_iff.1 hC).1;simp only at k5 km;refine wps_cons (ak_z1 (hB.alike o1.alike) h6 hS1.c0 hS1.c1 hS1.c2 (o1.cell2 cm) ((o1.block C kC).trans hC) ho ⟨by omega,by omega,by omega,by omega⟩ (q 0 _ rfl) (q 1 _ rfl) (q 2 _ rfl) qf) ?_;rintro a2 w3 ⟨⟨d2,rfl⟩,y0,y1,hk⟩;refine ⟨rfl,fun t2=>?_⟩;have o3:Old W (w3.on t2 0):=⟨hk.os.trans o1.os,hk.output.trans o1.output,Nat.le_trans o1.size hk.size,fun k hkk=>(hk.block k (by omega) (by omega)).trans (o1.block k hkk)⟩;refine wps_cons (ak_z2 y0 y1) ?_;rintro a3 w4 ⟨⟨d3,rfl⟩,hb4⟩;exact ⟨rfl,fun t3=>⟨⟨d3,rfl⟩,o3.trans ((Below.old hb4).on t3 0)⟩⟩
end
structure Stays (w w1:World):Prop where
 output:w1.output=w.output
 size:w.heap.size<=w1.heap.size
 block:∀ k,k < w.heap.size->w1.heap[k]? = w.heap[k]?
 os:ConcM.OsLater w.os w1.os
section
variable {b:Fbk} {vm vd vt:Value} {w:World}
theorem ask_co (hB:FBookAt w b vm vd vt) (hN:∀ m∈b.devs,m.name.size<=1000000) (hA:ActsAt w) (ht:openAl b 0=0) (c:Frame) (cs:List Frame) :
 Leads Tryz.prog (fun fr' cs' w1=>fr'=c.finish (.tuple #[.int .i64 (askI b).v,.int .i64 (askI b).c,.int .i64 0])/\cs'=cs/\Stays w w1) (Frame.enter Tryz.prog 26 #[.agg #[vm,vd,vt]] .normal) (c::cs) w:=by
 intro L hL;have hok:=List.all_eq_true.1 akz_ok;have h6:=(testsAl_ok (bookAl_ok (openAl_ok ht).1).2).1;refine (ask_front hB hN hA ht (c::cs) hL).trans ?_;rintro fr' cs1 v' hsv ⟨B5,Bl,Mu,Wg,C,Bm,la,lc,⟨a1,rfl,hd,q⟩,rfl,hS,hBv,hout,hsz,hblk,cm,o,hC,hKI⟩;obtain ⟨d,rfl⟩:=akG0_of hd q;rw [srR14_eq];refine pieces_coM (w:=v') _ (fun c hc=>hok c hc) rfl (by kernel_rfl) rfl (Z:=fun a' _=>∃ d,a'=akG3 (askI b).v (askI b).c d) (fun a w1 w2 ht h=>h) (fun W hW hobj=>?_) ?_ L (Nat.le_trans hL hsv)
 ·have hCo:=hobj C o hC (by obtain ⟨l,_,rfl⟩:=hKI;rfl);exact ak_post (hBv.alike hW.alike) h6 (hS.alike hW.alike) ((hW.cell _).trans cm) hCo hKI
 rintro a' w' ⟨d',rfl⟩ ho;refine leads_ret fun d1=>?_;refine leads_leave (fn:=Tryz.f26) (v:=.tuple #[.int .i64 (askI b).v,.int .i64 (askI b).c,.int .i64 0]) rfl rfl Tryz.func26 (fun W=>by unfold akG3;simp [results,Tryz.results26]) (fun W=>by unfold akG3;simp [results,Tryz.results26]) fun d2=>?_;exact .done ⟨rfl,rfl,⟨ho.output.trans hout.1,Nat.le_trans hsz ho.size,fun k hk=>(ho.block k (Nat.lt_of_lt_of_le hk hsz)).trans (hblk k hk),by show ConcM.OsLater w.os w'.os;rw [ho.os];exact hout.2⟩⟩
end
end Mt
namespace Mt
open Go Go.RowKit Go.Maps
theorem ex_book:bookAl exB=0:=by decide +kernel
theorem ex_hists:(histsI exB).length=3:=by decide +kernel
theorem ex_open:openAl exB 0=0:=by
 unfold openAl;rw [if_neg (by rw [ex_book];decide),if_neg (by decide),if_neg (fun h=>by have:=ex_hists;rw [h] at this;cases this)]
theorem ex_dev:devAl exB 2=0:=by decide +kernel
theorem ex_held:heldI exB 2 1=0/\heldI exB 2 2=2:=by decide +kernel
theorem ex_susp:suspTo (histsI exB) exB.devs.length=[0,1,2]:=by decide +kernel
theorem ex_depth:(depthI exB).c=2/\(depthI exB).v=1:=by decide +kernel
theorem ex_batch:batchI exB=[1,2]:=by decide +kernel
theorem ex_rep:repairsI exB=[2,0,1]/\(repairTab exB 0).c=25:=by decide +kernel
theorem ex_pass:passCI exB [3]=1/\pathAl exB.devs.length [3]=0:=by decide +kernel
theorem ex_sound:soundCI exB [0,3]=0/\pathAl exB.devs.length [0,3]=0:=by decide +kernel
theorem ex_rows:decide ((rowsI exB (histsI exB)).length=1)=false:=by decide +kernel
theorem ex_twins:twinTo exB 0 exB.devs.length=[]/\devAl exB 0=0:=by decide +kernel
theorem ex_ask:(askI exB).v=1/\(askI exB).c=2:=by decide +kernel
theorem ex_play:playAl exB [0,0,2,1] [2,3]=0/\playI (stepsOf [0,0,2,1]) [2,3]=(true,0):=by decide +kernel
theorem ex_names:∀ m∈exB.devs,m.name.size<=1000000:=by decide +kernel
end Mt
end Go.Proofs.YtgkajecjbflbbaaGreatDoor
