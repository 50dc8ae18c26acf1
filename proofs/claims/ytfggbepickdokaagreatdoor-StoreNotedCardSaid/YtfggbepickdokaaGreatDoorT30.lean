/- Leads to the Store laws of chapter 6: AK4. -/
import Derived.Test.YtfggbepickdokaaGreatDoorT29
import Derived.Test.YtfggbepickdokaaGreatDoorT08
import Derived.Deep.OwnRows
import Derived.Conc.AppendWalk
set_option maxHeartbeats 200000
set_option maxRecDepth 100000
set_option linter.all false
namespace Go.Proofs.YtfggbepickdokaaGreatDoor
open Go.RowKit Sp Mt Go.Conc
set_option linter.unusedSimpArgs false
noncomputable def qBody:Code:=Tryz.f36.body.getD .skip
noncomputable def q6:Code:=match qBody with | .seq _ (.seq _ (.seq _ (.seq _ (.seq _ (.seq (.seq c _) _)))))=>c | _=>.skip
noncomputable def qL0:Code:=match qBody with | .seq _ (.seq _ (.seq _ (.seq _ (.seq _ (.seq (.seq _ (.block _ (.loop c))) _)))))=>c | _=>.skip
noncomputable def qA11:Code:=match qBody with | .seq _ (.seq _ (.seq _ (.seq _ (.seq _ (.seq _ c)))))=>c | _=>.skip
noncomputable def q11:Code:=match qA11 with | .seq c _=>c | _=>.skip
noncomputable def q12:Code:=match qA11 with | .seq _ (.seq (.seq c _) _)=>c | _=>.skip
noncomputable def qL2:Code:=match qA11 with | .seq _ (.seq (.seq _ (.block _ (.loop c))) _)=>c | _=>.skip
noncomputable def qA20:Code:=match qA11 with | .seq _ (.seq _ c)=>c | _=>.skip
noncomputable def q7:Code:=match qL0 with | .seq c _=>c | _=>.skip
noncomputable def q8:Code:=match qL0 with | .seq _ (.seq _ (.seq (.block _ (.seq c _)) _))=>c | _=>.skip
noncomputable def q9:Array Oper:=match qL0 with | .seq _ (.seq _ (.seq (.block _ (.seq _ (.region _ o _))) _))=>o | _=>#[]
noncomputable def q10:Code:=match qL0 with | .seq _ (.seq _ (.seq _ c))=>c | _=>.skip
noncomputable def q13:Code:=match qL2 with | .seq (.seq c _) _=>c | _=>.skip
noncomputable def q1415:Code:=match qL2 with | .seq _ (.block _ (.seq c _))=>c | _=>.skip
noncomputable def q16:Array Oper:=match qL2 with | .seq _ (.block _ (.seq _ (.seq (.region _ o _) _)))=>o | _=>#[]
noncomputable def qB4:Code:=match qL2 with | .seq _ (.block _ (.seq _ (.seq _ c)))=>c | _=>.skip
theorem qBody_eq:∃ r0 r1 g r4 r5,Tryz.f36.body=some (.seq r0 (.seq r1 (.seq g (.seq r4 (.seq r5 (.seq (.seq q6 (.block 0 (.loop qL0))) qA11)))))):=⟨_,_,_,_,_,rfl⟩
theorem qL0_eq:qL0=.seq q7 (.seq (.cond (.tmp 31) .skip (.exit 0)) (.seq (.block 1 (.seq q8 (.region 9 q9 false))) q10)):=rfl
theorem qA11_eq:qA11=.seq q11 (.seq (.seq q12 (.block 2 (.loop qL2))) qA20):=rfl
theorem qL2_eq:qL2=.seq (.seq q13 (.cond (.tmp 45) .skip (.exit 2))) (.block 3 (.seq q1415 (.seq (.region 16 q16 false) qB4))):=rfl
structure MTask (W:World) (cO cD B5 Bl Bo Bd:Nat) (la:Option Addr) (l:List (List Int)) (lc:Nat) (sa:Option Addr) (n sc:Nat):Prop extends Task W cO cD Bl Bo Bd la l lc where
 s3:W.cell? ⟨B5,3,none⟩=some (.slice sa n sc)
 sN:B5≠cO∧B5≠cD
 pos:0 < n
 four:n≤4
def outCells (l:List (List Int)) (n:Nat) (σ:Nat→Bool):Array Value:=((List.range n).map fun i=>if σ i then Value.int .i64 (mostI l i) else .int .i64 0).toArray
section
variable {W:World} {cO cD B5 Bl Bo Bd:Nat} {la:Option Addr} {l:List (List Int)} {lc:Nat} {sa:Option Addr} {n sc:Nat} {cs:List Frame}
def AskMS (B5 Bl Bo Bd n:Nat) (cs:List Frame) (j:Nat) (g:Goroutine) (own:Hold):Prop :=
 ∃ (r:Nat) (u0 u1 u2 u3 u4 u10 u11 u12 u13 u14 u15 u16 u17 u18 u19 u20 u21 u22 u23 u24 u25 u26 u27 u28 u31 u32 u34 u35 u36 u37 u38 u39 u40 u41 u42 u43 u44 u45 u46 u47 u48 u49 u50 u51 u52 u53 u54 u55 u56 u57 u58 u59 u60 u61 u62 u63 u64 u65 u66 u67 u68 u69 u70 u71 u72 u73 u74 u75 u76 u77:Value),g=G ((Go.Conc.base 36).at { tmps:=#[u0,u1,u2,u3,u4,.pointer (some ⟨B5,0,none⟩),.pointer (some ⟨Bl,0,none⟩),.pointer (some ⟨Bo,0,none⟩),.pointer (some ⟨Bd,0,none⟩),.pointer (some ⟨r,0,none⟩),u10,u11,u12,u13,u14,u15,u16,u17,u18,u19,u20,u21,u22,u23,u24,u25,u26,u27,u28,.int .i64 n,.int .i64 j,u31,u32,.func (.func 90) #[] #[.pointer (some ⟨Bl,0,none⟩),.pointer (some ⟨r,0,none⟩),.pointer (some ⟨Bo,0,none⟩),.pointer (some ⟨Bd,0,none⟩)],u34,u35,u36,u37,u38,u39,u40,u41,u42,u43,u44,u45,u46,u47,u48,u49,u50,u51,u52,u53,u54,u55,u56,u57,u58,u59,u60,u61,u62,u63,u64,u65,u66,u67,u68,u69,u70,u71,u72,u73,u74,u75,u76,u77],defers:=[] } [.inRegion q9 [1],.inBlock 1,.code q10,.inLoop qL0,.inBlock 0,.code qA11]) cs∧own r=some (.cells #[.int .i64 j] 3)
def AskMR (B5 Bl Bo Bd cO cD n:Nat) (l:List (List Int)) (cs:List Frame) (σ:Nat→Bool) (c:Nat) (g:Goroutine) (own:Hold):Prop :=
 ∃ (r:Nat) (u0 u1 u2 u3 u4 u9 u12 u13 u14 u15 u16 u17 u18 u19 u20 u21 u22 u23 u24 u25 u26 u27 u28 u29 u30 u31 u32 u33 u34 u35 u36 u37 u38 u39 u40 u41 u42 u43 u44 u45 u48 u49 u50 u51 u52 u53 u54 u55 u56 u57 u58 u59 u60 u61 u62 u63 u64 u65 u66 u67 u68 u69 u70 u71 u72 u73 u74 u75 u76 u77:Value),g=G ((Go.Conc.base 36).at { tmps:=#[u0,u1,u2,u3,u4,.pointer (some ⟨B5,0,none⟩),.pointer (some ⟨Bl,0,none⟩),.pointer (some ⟨Bo,0,none⟩),.pointer (some ⟨Bd,0,none⟩),u9,.slice (some ⟨r,0,none⟩) n n,.int .i64 c,u12,u13,u14,u15,u16,u17,u18,u19,u20,u21,u22,u23,u24,u25,u26,u27,u28,u29,u30,u31,u32,u33,u34,u35,u36,u37,u38,u39,u40,u41,u42,u43,u44,u45,.chan (some cO),.chan (some cD),u48,u49,u50,u51,u52,u53,u54,u55,u56,u57,u58,u59,u60,u61,u62,u63,u64,u65,u66,u67,u68,u69,u70,u71,u72,u73,u74,u75,u76,u77],defers:=[] } [.inRegion q16 [0,1,2,3],.code qB4,.inBlock 3,.inLoop qL2,.inBlock 2,.code qA20]) cs∧own r=some (.cells (outCells l n σ) 3)∧c < n
def AskFin (B5 Bl Bo Bd n:Nat) (l:List (List Int)) (cs:List Frame) (g:Goroutine) (own:Hold):Prop :=
 ∃ (r:Nat) (u0 u1 u2 u3 u4 u9 u11 u12 u13 u14 u15 u16 u17 u18 u19 u20 u21 u22 u23 u24 u25 u26 u27 u28 u29 u30 u31 u32 u33 u34 u35 u36 u37 u38 u39 u40 u41 u42 u43 u44 u45 u46 u47 u48 u49 u50 u51 u52 u53 u54 u55 u56 u57 u58 u59 u60 u61 u62 u63 u64 u65 u66 u67 u68 u69 u70 u71 u72 u73 u74 u75 u76 u77:Value),g=G ((Go.Conc.base 36).at { tmps:=#[u0,u1,u2,u3,u4,.pointer (some ⟨B5,0,none⟩),.pointer (some ⟨Bl,0,none⟩),.pointer (some ⟨Bo,0,none⟩),.pointer (some ⟨Bd,0,none⟩),u9,.slice (some ⟨r,0,none⟩) n n,u11,u12,u13,u14,u15,u16,u17,u18,u19,u20,u21,u22,u23,u24,u25,u26,u27,u28,u29,u30,u31,u32,u33,u34,u35,u36,u37,u38,u39,u40,u41,u42,u43,u44,u45,u46,u47,u48,u49,u50,u51,u52,u53,u54,u55,u56,u57,u58,u59,u60,u61,u62,u63,u64,u65,u66,u67,u68,u69,u70,u71,u72,u73,u74,u75,u76,u77],defers:=[] } [.code qA20]) cs∧own r=some (.cells (outCells l n fun _=>true) 3)
theorem walk_stop {P:Program} {main:Bool} {ro own:Hold} {Stop:Goroutine→Hold→Prop} {g:Goroutine} {k:Nat} (h:Stop g own):Walk P main ro Stop k g own:=by
 cases k with
 | zero=>exact h
 | succ k=>exact .inl h
theorem hb44:(Go.Conc.base 36).kind≠.early:=by decide
theorem ma_head (T:MTask W cO cD B5 Bl Bo Bd la l lc sa n sc) (j:Nat) (hj:j < n) :
 ∀ (u0 u1 u2 u3 u4 u9 u10 u11 u12 u13 u14 u15 u16 u17 u18 u19 u20 u21 u22 u23 u24 u25 u26 u27 u28 u31 u32 u33 u34 u35 u36 u37 u38 u39 u40 u41 u42 u43 u44 u45 u46 u47 u48 u49 u50 u51 u52 u53 u54 u55 u56 u57 u58 u59 u60 u61 u62 u63 u64 u65 u66 u67 u68 u69 u70 u71 u72 u73 u74 u75 u76 u77:Value) (own:Hold),Walk Tryz.prog true (roOf W cO cD) (AskMS B5 Bl Bo Bd n cs j) 40 (G ((Go.Conc.base 36).at { tmps:=#[u0,u1,u2,u3,u4,.pointer (some ⟨B5,0,none⟩),.pointer (some ⟨Bl,0,none⟩),.pointer (some ⟨Bo,0,none⟩),.pointer (some ⟨Bd,0,none⟩),u9,u10,u11,u12,u13,u14,u15,u16,u17,u18,u19,u20,u21,u22,u23,u24,u25,u26,u27,u28,.int .i64 n,.int .i64 j,u31,u32,u33,u34,u35,u36,u37,u38,u39,u40,u41,u42,u43,u44,u45,u46,u47,u48,u49,u50,u51,u52,u53,u54,u55,u56,u57,u58,u59,u60,u61,u62,u63,u64,u65,u66,u67,u68,u69,u70,u71,u72,u73,u74,u75,u76,u77],defers:=[] } [.code qL0,.inLoop qL0,.inBlock 0,.code qA11]) cs) own:=by
 have hfour:=T.four
 intro u0 u1 u2 u3 u4 u9 u10 u11 u12 u13 u14 u15 u16 u17 u18 u19 u20 u21 u22 u23 u24 u25 u26 u27 u28 u31 u32 u33 u34 u35 u36 u37 u38 u39 u40 u41 u42 u43 u44 u45 u46 u47 u48 u49 u50 u51 u52 u53 u54 u55 u56 u57 u58 u59 u60 u61 u62 u63 u64 u65 u66 u67 u68 u69 u70 u71 u72 u73 u74 u75 u76 u77 own
 rw [qL0_eq]
 refine Walk.ctl (fun w=>stepG_seq) ?_
 simp only [q7,q8,q9,qL0,qBody,Tryz.f36,Option.getD_some]
 refine Walk.ctl (fun w=>stepG_region) ?_
 simp only [List.size_toArray,List.length_cons,List.length_nil,Nat.reduceAdd,Nat.zero_add,List.range,List.range.loop]
 refine walk_any hb44 rfl rfl (fun w hm=>?_) (fun w hm K hK=>?_)
 ·skip
  have hjn:=hj
  simp [go_sem,hjn]
 have hjn:=hj
 go_simp
 refine hK _ _ _ (.refl hm) (?_)
 clear hK hm w K hjn
 refine Walk.ctl (fun w=>stepG_region_end) ?_
 refine Walk.ctl (fun w=>stepG_seq) ?_
 refine Walk.ctl (fun w=>stepG_cond (t:=true) rfl) ?_
 simp only [if_true]
 refine Walk.ctl (fun w=>stepG_skip) ?_
 refine Walk.ctl (fun w=>stepG_seq) ?_
 refine Walk.ctl (fun w=>stepG_block) ?_
 refine Walk.ctl (fun w=>stepG_seq) ?_
 refine Walk.ctl (fun w=>stepG_region) ?_
 simp only [List.size_toArray,List.length_cons,List.length_nil,Nat.reduceAdd,Nat.zero_add,List.range,List.range.loop]
 refine walk_any hb44 rfl rfl (fun w hm=>by simp [go_sem]) (fun w hm K hK=>?_)
 go_simp
 refine hK _ _ _ (.refl hm) (?_)
 clear hK hm w K 
 refine walk_any hb44 rfl rfl (fun w hm=>by simp [go_sem]) (fun w hm K hK=>?_)
 go_simp
 refine hK _ _ _ ((Stp.refl hm).alloc _) (?_)
 have hn9:=(none_own hm).1
 obtain ⟨r9,hr9⟩:∃ r,r=w.heap.size:=⟨_,rfl⟩
 rw [← hr9] at hn9 ⊢
 have h9a:(own.set r9 (.cells #[.int .i64 0] 3)) r9=some (.cells #[.int .i64 0] 3):=Hold.set_same _ _ _
 generalize own.set r9 (.cells #[.int .i64 0] 3)=own0 at h9a ⊢
 clear hK hm hr9 hn9 w K own
 refine walk_any hb44 rfl rfl (fun w hm=>?_) (fun w hm K hK=>?_)
 ·skip
  have c9:=fun (k:Nat)=>own_cell (o:=k) hm h9a
  have f9:=fun (k:Nat)=>own_frozen (o:=k) hm h9a
  have e9:=fun (o:Nat) (wr:Bool)=>ev_own (ro:=roOf W cO cD) (o:=o) (wr:=wr) (key_of h9a)
  simp [go_sem,c9,f9,e9]
 have c9:=fun (k:Nat)=>own_cell (o:=k) hm h9a
 have f9:=fun (k:Nat)=>own_frozen (o:=k) hm h9a
 have e9:=fun (o:Nat) (wr:Bool)=>ev_own (ro:=roOf W cO cD) (o:=o) (wr:=wr) (key_of h9a)
 go_simp
 refine hK _ _ _ ((Stp.refl hm).set h9a _) (?_)
 clear hK hm w K c9 f9 e9
 have h9:(own0.set r9 (.cells (#[Value.int .i64 0].setIfInBounds 0 (.int .i64 j)) 3)) r9=some (.cells #[.int .i64 j] 3):=Hold.set_same _ _ _
 generalize own0.set r9 (.cells (#[Value.int .i64 0].setIfInBounds 0 (.int .i64 j)) 3)=own1 at h9 ⊢
 refine Walk.ctl (fun w=>stepG_region_end) ?_
 refine Walk.ctl (fun w=>stepG_region) ?_
 simp only [List.size_toArray,List.length_cons,List.length_nil,Nat.reduceAdd,Nat.zero_add,List.range,List.range.loop]
 refine walk_any hb44 rfl rfl (fun w hm=>by simp [go_sem]) (fun w hm K hK=>?_)
 go_simp
 refine hK _ _ _ (.refl hm) (?_)
 clear hK hm w K 
 exact walk_stop ⟨r9,_,_,_,_,_,_,_,_,_,_,_,_,_,_,_,_,_,_,_,_,_,_,_,_,_,_,_,_,_,_,_,_,_,_,_,_,_,_,_,_,_,_,_,_,_,_,_,_,_,_,_,_,_,_,_,_,_,_,_,_,_,_,_,_,_,_,_,_,_,_,rfl,h9⟩
theorem outCells_none (l:List (List Int)) (n:Nat):outCells l n (fun _=>false)=madeCells #[.int .i64 0] n:=by
 apply Array.ext
 ·simp [outCells,madeCells]
 ·intro i h1 h2
  simp [outCells,madeCells,Nat.mod_one]
theorem outCells_set (l:List (List Int)) (n:Nat) (σ:Nat→Bool) {j:Nat} (hj:j < n):(outCells l n σ).setIfInBounds j (.int .i64 (mostI l j))=outCells l n (Go.ConcN.upd σ j true):=by
 apply Array.ext
 ·simp [outCells]
 ·intro i h1 h2
  simp only [outCells,Array.getElem_setIfInBounds,List.size_toArray,List.length_map,List.length_range] at h1 ⊢
  by_cases e:j=i
  ·subst e;simp [Go.ConcN.upd_same]
  ·simp [e,Go.ConcN.upd_ne σ true (Ne.symm e)]
theorem outCells_all (l:List (List Int)) (n:Nat) (σ:Nat→Bool) (h:∀ j,j < n→σ j=true):outCells l n σ=outCells l n (fun _=>true):=by
 apply Array.ext
 ·simp [outCells]
 ·intro i h1 h2
  have hi:i < n:=by simpa [outCells] using h2
  simp [outCells,h i hi]
theorem outCells_at (l:List (List Int)) (n:Nat) (σ:Nat→Bool) {j:Nat} (hj:j < n):∃ v,(outCells l n σ)[j]? = some (.int .i64 v):=by
 unfold outCells
 by_cases h:σ j=true
 ·exact ⟨mostI l j,by simp [hj,h]⟩
 ·exact ⟨0,by simp [hj,h]⟩
theorem ma_round (T:MTask W cO cD B5 Bl Bo Bd la l lc sa n sc) (σ:Nat→Bool) (c:Nat) (hc:c < n) {r:Nat} {own:Hold} (hr:own r=some (.cells (outCells l n σ) 3)) :
 ∀ (u0 u1 u2 u3 u4 u9 u12 u13 u14 u15 u16 u17 u18 u19 u20 u21 u22 u23 u24 u25 u26 u27 u28 u29 u30 u31 u32 u33 u34 u35 u36 u37 u38 u39 u40 u41 u42 u43 u44 u45 u46 u47 u48 u49 u50 u51 u52 u53 u54 u55 u56 u57 u58 u59 u60 u61 u62 u63 u64 u65 u66 u67 u68 u69 u70 u71 u72 u73 u74 u75 u76 u77:Value),Walk Tryz.prog true (roOf W cO cD) (AskMR B5 Bl Bo Bd cO cD n l cs σ c) 40 (G ((Go.Conc.base 36).at { tmps:=#[u0,u1,u2,u3,u4,.pointer (some ⟨B5,0,none⟩),.pointer (some ⟨Bl,0,none⟩),.pointer (some ⟨Bo,0,none⟩),.pointer (some ⟨Bd,0,none⟩),u9,.slice (some ⟨r,0,none⟩) n n,.int .i64 c,u12,u13,u14,u15,u16,u17,u18,u19,u20,u21,u22,u23,u24,u25,u26,u27,u28,u29,u30,u31,u32,u33,u34,u35,u36,u37,u38,u39,u40,u41,u42,u43,u44,u45,u46,u47,u48,u49,u50,u51,u52,u53,u54,u55,u56,u57,u58,u59,u60,u61,u62,u63,u64,u65,u66,u67,u68,u69,u70,u71,u72,u73,u74,u75,u76,u77],defers:=[] } [.code qL2,.inLoop qL2,.inBlock 2,.code qA20]) cs) own:=by
 have hfour:=T.four
 have hs3:=T.s3
 have ho0:=T.o0
 have hd0:=T.d0
 obtain ⟨s1,s2⟩:=T.sN
 obtain ⟨o1,o2⟩:=T.oN
 obtain ⟨d1,d2⟩:=T.dN
 have hls:=lt_of_cell hs3
 have hlo:=lt_of_cell ho0
 have hld:=lt_of_cell hd0
 simp only at hls hlo hld
 intro u0 u1 u2 u3 u4 u9 u12 u13 u14 u15 u16 u17 u18 u19 u20 u21 u22 u23 u24 u25 u26 u27 u28 u29 u30 u31 u32 u33 u34 u35 u36 u37 u38 u39 u40 u41 u42 u43 u44 u45 u46 u47 u48 u49 u50 u51 u52 u53 u54 u55 u56 u57 u58 u59 u60 u61 u62 u63 u64 u65 u66 u67 u68 u69 u70 u71 u72 u73 u74 u75 u76 u77
 rw [qL2_eq]
 refine Walk.ctl (fun w=>stepG_seq) ?_
 refine Walk.ctl (fun w=>stepG_seq) ?_
 simp only [q13,q1415,qL2,qA11,qBody,Tryz.f36,Option.getD_some]
 refine Walk.ctl (fun w=>stepG_region) ?_
 simp only [List.size_toArray,List.length_cons,List.length_nil,Nat.reduceAdd,Nat.zero_add,List.range,List.range.loop]
 refine walk_any hb44 rfl rfl (fun w hm=>by simp [go_sem]) (fun w hm K hK=>?_)
 go_simp
 refine hK _ _ _ (.refl hm) (?_)
 clear hK hm w K 
 refine walk_any hb44 rfl rfl (fun w hm=>by simp [go_sem]) (fun w hm K hK=>?_)
 go_simp
 refine hK _ _ _ (.refl hm) (?_)
 clear hK hm w K 
 refine walk_any hb44 rfl rfl (fun w hm=>by simp [go_sem]) (fun w hm K hK=>?_)
 go_simp
 refine hK _ _ _ (.refl hm) (?_)
 clear hK hm w K 
 refine walk_any hb44 rfl rfl (fun w hm=>?_) (fun w hm K hK=>?_)
 ·skip
  have cs:=(ro_cell (o:=3) hm hls s1 s2).trans hs3
  have ecs:=fun (o:Nat)=>ev_ro (own:=own) (o:=o) (ro_key hls s1 s2)
  simp [go_sem,cs,ecs]
 have cs:=(ro_cell (o:=3) hm hls s1 s2).trans hs3
 have ecs:=fun (o:Nat)=>ev_ro (own:=own) (o:=o) (ro_key hls s1 s2)
 go_simp
 refine hK _ _ _ (.refl hm) (?_)
 clear hK hm w K cs ecs
 refine walk_any hb44 rfl rfl (fun w hm=>by simp [go_sem]) (fun w hm K hK=>?_)
 go_simp
 refine hK _ _ _ (.refl hm) (?_)
 clear hK hm w K 
 refine walk_any hb44 rfl rfl (fun w hm=>?_) (fun w hm K hK=>?_)
 ·skip
  have hcn:=hc
  simp [go_sem,hcn]
 have hcn:=hc
 go_simp
 refine hK _ _ _ (.refl hm) (?_)
 clear hK hm w K hcn
 refine Walk.ctl (fun w=>stepG_region_end) ?_
 refine Walk.ctl (fun w=>stepG_cond (t:=true) rfl) ?_
 simp only [if_true]
 refine Walk.ctl (fun w=>stepG_skip) ?_
 refine Walk.ctl (fun w=>stepG_block) ?_
 refine Walk.ctl (fun w=>stepG_seq) ?_
 refine Walk.ctl (fun w=>stepG_seq) ?_
 refine Walk.ctl (fun w=>stepG_region) ?_
 simp only [List.size_toArray,List.length_cons,List.length_nil,Nat.reduceAdd,Nat.zero_add,List.range,List.range.loop]
 refine walk_any hb44 rfl rfl (fun w hm=>?_) (fun w hm K hK=>?_)
 ·skip
  have co:=(ro_cell (o:=0) hm hlo o1 o2).trans ho0
  have eco:=fun (o:Nat)=>ev_ro (own:=own) (o:=o) (ro_key hlo o1 o2)
  simp [go_sem,co,eco]
 have co:=(ro_cell (o:=0) hm hlo o1 o2).trans ho0
 have eco:=fun (o:Nat)=>ev_ro (own:=own) (o:=o) (ro_key hlo o1 o2)
 go_simp
 refine hK _ _ _ (.refl hm) (?_)
 clear hK hm w K co eco
 refine Walk.ctl (fun w=>stepG_region_end) ?_
 refine Walk.ctl (fun w=>stepG_region) ?_
 simp only [List.size_toArray,List.length_cons,List.length_nil,Nat.reduceAdd,Nat.zero_add,List.range,List.range.loop]
 refine walk_any hb44 rfl rfl (fun w hm=>?_) (fun w hm K hK=>?_)
 ·skip
  have cd:=(ro_cell (o:=0) hm hld d1 d2).trans hd0
  have ecd:=fun (o:Nat)=>ev_ro (own:=own) (o:=o) (ro_key hld d1 d2)
  simp [go_sem,cd,ecd]
 have cd:=(ro_cell (o:=0) hm hld d1 d2).trans hd0
 have ecd:=fun (o:Nat)=>ev_ro (own:=own) (o:=o) (ro_key hld d1 d2)
 go_simp
 refine hK _ _ _ (.refl hm) (?_)
 clear hK hm w K cd ecd
 refine Walk.ctl (fun w=>stepG_region_end) ?_
 refine Walk.ctl (fun w=>stepG_seq) ?_
 refine Walk.ctl (fun w=>stepG_region) ?_
 exact walk_stop ⟨r,_,_,_,_,_,_,_,_,_,_,_,_,_,_,_,_,_,_,_,_,_,_,_,_,_,_,_,_,_,_,_,_,_,_,_,_,_,_,_,_,_,_,_,_,_,_,_,_,_,_,_,_,_,_,_,_,_,_,_,_,_,_,_,_,_,_,_,_,_,_,rfl,hr,hc⟩
theorem ma_leave (T:MTask W cO cD B5 Bl Bo Bd la l lc sa n sc) {own:Hold} :
 ∀ (u0 u1 u2 u3 u4 u9 u10 u11 u12 u13 u14 u15 u16 u17 u18 u19 u20 u21 u22 u23 u24 u25 u26 u27 u28 u31 u32 u33 u34 u35 u36 u37 u38 u39 u40 u41 u42 u43 u44 u45 u46 u47 u48 u49 u50 u51 u52 u53 u54 u55 u56 u57 u58 u59 u60 u61 u62 u63 u64 u65 u66 u67 u68 u69 u70 u71 u72 u73 u74 u75 u76 u77:Value),Walk Tryz.prog true (roOf W cO cD) (AskMR B5 Bl Bo Bd cO cD n l cs (fun _=>false) 0) 80 (G ((Go.Conc.base 36).at { tmps:=#[u0,u1,u2,u3,u4,.pointer (some ⟨B5,0,none⟩),.pointer (some ⟨Bl,0,none⟩),.pointer (some ⟨Bo,0,none⟩),.pointer (some ⟨Bd,0,none⟩),u9,u10,u11,u12,u13,u14,u15,u16,u17,u18,u19,u20,u21,u22,u23,u24,u25,u26,u27,u28,.int .i64 n,.int .i64 n,u31,u32,u33,u34,u35,u36,u37,u38,u39,u40,u41,u42,u43,u44,u45,u46,u47,u48,u49,u50,u51,u52,u53,u54,u55,u56,u57,u58,u59,u60,u61,u62,u63,u64,u65,u66,u67,u68,u69,u70,u71,u72,u73,u74,u75,u76,u77],defers:=[] } [.code qL0,.inLoop qL0,.inBlock 0,.code qA11]) cs) own:=by
 have hfour:=T.four
 have hs3:=T.s3
 obtain ⟨s1,s2⟩:=T.sN
 have hls:=lt_of_cell hs3
 simp only at hls
 intro u0 u1 u2 u3 u4 u9 u10 u11 u12 u13 u14 u15 u16 u17 u18 u19 u20 u21 u22 u23 u24 u25 u26 u27 u28 u31 u32 u33 u34 u35 u36 u37 u38 u39 u40 u41 u42 u43 u44 u45 u46 u47 u48 u49 u50 u51 u52 u53 u54 u55 u56 u57 u58 u59 u60 u61 u62 u63 u64 u65 u66 u67 u68 u69 u70 u71 u72 u73 u74 u75 u76 u77
 rw [qL0_eq]
 refine Walk.ctl (fun w=>stepG_seq) ?_
 simp only [q7,qL0,qBody,Tryz.f36,Option.getD_some]
 refine Walk.ctl (fun w=>stepG_region) ?_
 simp only [List.size_toArray,List.length_cons,List.length_nil,Nat.reduceAdd,Nat.zero_add,List.range,List.range.loop]
 refine walk_any hb44 rfl rfl (fun w hm=>by simp [go_sem]) (fun w hm K hK=>?_)
 go_simp
 refine hK _ _ _ (.refl hm) (?_)
 clear hK hm w K 
 refine Walk.ctl (fun w=>stepG_region_end) ?_
 refine Walk.ctl (fun w=>stepG_seq) ?_
 refine Walk.ctl (fun w=>stepG_cond (t:=false) rfl) ?_
 simp only [if_false,Bool.false_eq_true]
 refine Walk.ctl (fun w=>stepG_exit (k':=[.code qA11]) rfl) ?_
 rw [qA11_eq]
 refine Walk.ctl (fun w=>stepG_seq) ?_
 simp only [q11,q12,qA11,qBody,Tryz.f36,Option.getD_some]
 refine Walk.ctl (fun w=>stepG_region) ?_
 simp only [List.size_toArray,List.length_cons,List.length_nil,Nat.reduceAdd,Nat.zero_add,List.range,List.range.loop]
 refine walk_any hb44 rfl rfl (fun w hm=>by simp [go_sem]) (fun w hm K hK=>?_)
 go_simp
 refine hK _ _ _ (.refl hm) (?_)
 clear hK hm w K 
 refine walk_any hb44 rfl rfl (fun w hm=>by simp [go_sem]) (fun w hm K hK=>?_)
 go_simp
 refine hK _ _ _ (.refl hm) (?_)
 clear hK hm w K 
 refine walk_any hb44 rfl rfl (fun w hm=>?_) (fun w hm K hK=>?_)
 ·skip
  have cs:=(ro_cell (o:=3) hm hls s1 s2).trans hs3
  have ecs:=fun (o:Nat)=>ev_ro (own:=own) (o:=o) (ro_key hls s1 s2)
  simp [go_sem,cs,ecs]
 have cs:=(ro_cell (o:=3) hm hls s1 s2).trans hs3
 have ecs:=fun (o:Nat)=>ev_ro (own:=own) (o:=o) (ro_key hls s1 s2)
 go_simp
 refine hK _ _ _ (.refl hm) (?_)
 clear hK hm w K cs ecs
 refine walk_any hb44 rfl rfl (fun w hm=>by simp [go_sem]) (fun w hm K hK=>?_)
 go_simp
 refine hK _ _ _ (.refl hm) (?_)
 clear hK hm w K 
 obtain ⟨ii,hi1,hi2⟩:=Option.map_eq_some_iff.1 intInfo
 simp only [Prod.mk.injEq] at hi2
 have hmk:=fun w=>run_make_row' (P:=Tryz.prog) 27 3 (.int .i64 0) 8 Tryz.underlying27 intInfo rfl .i64 .i64 n (by omega) (by omega) w
 have hme:=fun w=>events_make (P:=Tryz.prog) w 27 3 ii (.int .i64 0) Tryz.underlying27 hi1 hi2.1 .i64 .i64 n n (by omega) (by omega) (by rw [hi2.2.2];omega) (by omega) (by rw [hi2.2.2];omega) #[]
 refine walk_any hb44 rfl rfl (fun w hm=>?_) (fun w hm K hK=>?_)
 ·skip
  have hmkw:=hmk w
  have hmew:=hme w
  simp [go_sem,hmkw,hmew]
 have hmkw:=hmk w
 have hmew:=hme w
 go_simp
 refine hK _ _ _ ((Stp.refl hm).alloc _) (?_)
 obtain ⟨r,hr⟩:∃ r,r=w.heap.size:=⟨_,rfl⟩
 rw [← hr]
 have hr1:(own.set r (.cells (madeCells #[.int .i64 0] n) 3)) r=some (.cells (madeCells #[.int .i64 0] n) 3):=Hold.set_same _ _ _
 generalize own.set r (.cells (madeCells #[.int .i64 0] n) 3)=own1 at hr1 ⊢
 clear hK hm hr w K own hmk hme hi2 hmkw hmew
 refine walk_any hb44 rfl rfl (fun w hm=>by simp [go_sem]) (fun w hm K hK=>?_)
 go_simp
 refine hK _ _ _ (.refl hm) (?_)
 clear hK hm w K 
 refine Walk.ctl (fun w=>stepG_region_end) ?_
 refine Walk.ctl (fun w=>stepG_seq) ?_
 refine Walk.ctl (fun w=>stepG_seq) ?_
 refine Walk.ctl (fun w=>stepG_region) ?_
 simp only [List.size_toArray,List.length_cons,List.length_nil,Nat.reduceAdd,Nat.zero_add,List.range,List.range.loop]
 refine walk_any hb44 rfl rfl (fun w hm=>by simp [go_sem]) (fun w hm K hK=>?_)
 go_simp
 refine hK _ _ _ (.refl hm) (?_)
 clear hK hm w K 
 refine Walk.ctl (fun w=>stepG_region_end) ?_
 refine Walk.ctl (fun w=>stepG_block) ?_
 refine Walk.ctl (fun w=>stepG_loop) ?_
 exact (ma_round T (fun _=>false) 0 T.pos (r:=r) (by rw [outCells_none];exact hr1) _ _ _ _ _ _ _ _ _ _ _ _ _ _ _ _ _ _ _ _ _ _ _ _ _ _ _ _ _ _ _ _ _ _ _ _ _ _ _ _ _ _ _ _ _ _ _ _ _ _ _ _ _ _ _ _ _ _ _ _ _ _ _ _ _ _ _ _ _ _ _ _).mono (by decide)
theorem ma_next (T:MTask W cO cD B5 Bl Bo Bd la l lc sa n sc) {j:Nat} {own:Hold} (hj:j < n) {Stop:Goroutine→Hold→Prop}
 (h:∀ (u0 u1 u2 u3 u4 u9 u10 u11 u12 u13 u14 u15 u16 u17 u18 u19 u20 u21 u22 u23 u24 u25 u26 u27 u28 u31 u32 u33 u34 u35 u36 u37 u38 u39 u40 u41 u42 u43 u44 u45 u46 u47 u48 u49 u50 u51 u52 u53 u54 u55 u56 u57 u58 u59 u60 u61 u62 u63 u64 u65 u66 u67 u68 u69 u70 u71 u72 u73 u74 u75 u76 u77:Value),∃ o',o'=own∧Walk Tryz.prog true (roOf W cO cD) Stop 80 (G ((Go.Conc.base 36).at { tmps:=#[u0,u1,u2,u3,u4,.pointer (some ⟨B5,0,none⟩),.pointer (some ⟨Bl,0,none⟩),.pointer (some ⟨Bo,0,none⟩),.pointer (some ⟨Bd,0,none⟩),u9,u10,u11,u12,u13,u14,u15,u16,u17,u18,u19,u20,u21,u22,u23,u24,u25,u26,u27,u28,.int .i64 n,.int .i64 ((j+1:Nat):Int),u31,u32,u33,u34,u35,u36,u37,u38,u39,u40,u41,u42,u43,u44,u45,u46,u47,u48,u49,u50,u51,u52,u53,u54,u55,u56,u57,u58,u59,u60,u61,u62,u63,u64,u65,u66,u67,u68,u69,u70,u71,u72,u73,u74,u75,u76,u77],defers:=[] } [.code qL0,.inLoop qL0,.inBlock 0,.code qA11]) cs) o') :
 ∀ (u0 u1 u2 u3 u4 u9 u10 u11 u12 u13 u14 u15 u16 u17 u18 u19 u20 u21 u22 u23 u24 u25 u26 u27 u28 u31 u32 u33 u34 u35 u36 u37 u38 u39 u40 u41 u42 u43 u44 u45 u46 u47 u48 u49 u50 u51 u52 u53 u54 u55 u56 u57 u58 u59 u60 u61 u62 u63 u64 u65 u66 u67 u68 u69 u70 u71 u72 u73 u74 u75 u76 u77:Value),Walk Tryz.prog true (roOf W cO cD) Stop 90 (G ((Go.Conc.base 36).at { tmps:=#[u0,u1,u2,u3,u4,.pointer (some ⟨B5,0,none⟩),.pointer (some ⟨Bl,0,none⟩),.pointer (some ⟨Bo,0,none⟩),.pointer (some ⟨Bd,0,none⟩),u9,u10,u11,u12,u13,u14,u15,u16,u17,u18,u19,u20,u21,u22,u23,u24,u25,u26,u27,u28,.int .i64 n,.int .i64 j,u31,u32,u33,u34,u35,u36,u37,u38,u39,u40,u41,u42,u43,u44,u45,u46,u47,u48,u49,u50,u51,u52,u53,u54,u55,u56,u57,u58,u59,u60,u61,u62,u63,u64,u65,u66,u67,u68,u69,u70,u71,u72,u73,u74,u75,u76,u77],defers:=[] } [.inRegion q9 [],.inBlock 1,.code q10,.inLoop qL0,.inBlock 0,.code qA11]) cs) own:=by
 have hfour:=T.four
 have hwj:IntKind.i64.wrap ((j:Int)+1)=((j+1:Nat):Int):=by rw [IntWalk.i64_in _ (by omega)];simp
 intro u0 u1 u2 u3 u4 u9 u10 u11 u12 u13 u14 u15 u16 u17 u18 u19 u20 u21 u22 u23 u24 u25 u26 u27 u28 u31 u32 u33 u34 u35 u36 u37 u38 u39 u40 u41 u42 u43 u44 u45 u46 u47 u48 u49 u50 u51 u52 u53 u54 u55 u56 u57 u58 u59 u60 u61 u62 u63 u64 u65 u66 u67 u68 u69 u70 u71 u72 u73 u74 u75 u76 u77
 refine Walk.ctl (fun w=>stepG_region_end) ?_
 refine Walk.ctl (fun w=>stepG_inBlock) ?_
 simp only [q10,qL0,qBody,Tryz.f36,Option.getD_some]
 refine Walk.ctl (fun w=>stepG_region) ?_
 simp only [List.size_toArray,List.length_cons,List.length_nil,Nat.reduceAdd,Nat.zero_add,List.range,List.range.loop]
 refine walk_any hb44 rfl rfl (fun w hm=>by simp [go_sem]) (fun w hm K hK=>?_)
 go_simp
 refine hK _ _ _ (.refl hm) (?_)
 clear hK hm w K 
 refine walk_any hb44 rfl rfl (fun w hm=>by simp [go_sem]) (fun w hm K hK=>?_)
 go_simp
 refine hK _ _ _ (.refl hm) (?_)
 clear hK hm w K 
 refine Walk.ctl (fun w=>stepG_region_end) ?_
 refine Walk.ctl (fun w=>stepG_inLoop) ?_
 obtain ⟨o',rfl,h2⟩:=h _ _ _ _ _ _ _ _ _ _ _ _ _ _ _ _ _ _ _ _ _ _ _ _ _ _ _ _ _ _ _ _ _ _ _ _ _ _ _ _ _ _ _ _ _ _ _ _ _ _ _ _ _ _ _ _ _ _ _ _ _ _ _ _ _ _ _ _ _ _ _ _
 have hk1:((j+1:Nat):Int)=(j:Int)+1:=by omega
 rw [hk1] at h2
 exact h2.mono (by decide)
theorem finish_at {P:Program} {b:Frame} {a:Act} {k:List Item} {cs:List Frame} {ops:Array Oper} {i:Nat} {rest:List Nat} {cc:Array CommCase} {kk:Int} {v:Value} {ok:Bool} :
 (G (b.at a (.inRegion ops (i::rest)::k)) cs).finishComm P cc .select kk v ok=G (b.at (a.put ((ops[i]?).bind (·.dst)) (commResult cc .select kk v ok)) (.inRegion ops rest::k)) cs:=by
 unfold Goroutine.finishComm
 rw [← Frame.finish_at]
 rfl
def askZ:Value:=.agg #[.int .i64 0,.int .i64 0]
theorem ma_out (T:MTask W cO cD B5 Bl Bo Bd la l lc sa n sc) {σ:Nat→Bool} {c j:Nat} (hj:j < n) {g:Goroutine} {own:Hold} (h:AskMR B5 Bl Bo Bd cO cD n l cs σ c g own) :
 Walk Tryz.prog true (roOf W cO cD) (AskMR B5 Bl Bo Bd cO cD n l cs (Go.ConcN.upd σ j true) c) 90 (g.finishComm Tryz.prog #[rcase cO askZ,rcase cD (.bool false)] .select (0:Nat) (.agg #[.int .i64 j,.int .i64 (mostI l j)]) true) own:=by
 have hfour:=T.four
 obtain ⟨r,u0,u1,u2,u3,u4,u9,u12,u13,u14,u15,u16,u17,u18,u19,u20,u21,u22,u23,u24,u25,u26,u27,u28,u29,u30,u31,u32,u33,u34,u35,u36,u37,u38,u39,u40,u41,u42,u43,u44,u45,u48,u49,u50,u51,u52,u53,u54,u55,u56,u57,u58,u59,u60,u61,u62,u63,u64,u65,u66,u67,u68,u69,u70,u71,u72,u73,u74,u75,u76,u77,rfl,hr,hc⟩:=h
 rw [finish_at]
 have hres:commResult #[rcase cO askZ,rcase cD (.bool false)] .select ((0:Nat):Int) (.agg #[.int .i64 j,.int .i64 (mostI l j)]) true=.tuple #[.int .i64 0,.bool true,.agg #[.int .i64 j,.int .i64 (mostI l j)],.bool false]:=by simp [commResult,rcase,goInt]
 rw [hres]
 obtain ⟨v0,hv0⟩:=outCells_at l n σ hj
 have hset:=outCells_set l n σ hj
 have hj0:(0:Int)≤(j:Int):=by omega
 have hjn:(j:Int) < (n:Int):=by omega
 simp only [q16,qB4,qL2,qA11,qBody,Tryz.f36,Option.getD_some]
 walk_nrm
 refine walk_any hb44 rfl rfl (fun w hm=>by simp [go_sem]) (fun w hm K hK=>?_)
 go_simp
 refine hK _ _ _ (.refl hm) (?_)
 clear hK hm w K 
 refine walk_any hb44 rfl rfl (fun w hm=>by simp [go_sem]) (fun w hm K hK=>?_)
 go_simp
 refine hK _ _ _ (.refl hm) (?_)
 clear hK hm w K 
 refine walk_any hb44 rfl rfl (fun w hm=>by simp [go_sem]) (fun w hm K hK=>?_)
 go_simp
 refine hK _ _ _ (.refl hm) (?_)
 clear hK hm w K 
 refine Walk.ctl (fun w=>stepG_region_end) ?_
 refine Walk.ctl (fun w=>stepG_block) ?_
 refine Walk.ctl (fun w=>stepG_cond (t:=true) rfl) ?_
 simp only [if_true]
 refine Walk.ctl (fun w=>stepG_seq) ?_
 refine Walk.ctl (fun w=>stepG_region) ?_
 simp only [List.size_toArray,List.length_cons,List.length_nil,Nat.reduceAdd,Nat.zero_add,List.range,List.range.loop]
 refine walk_any hb44 rfl rfl (fun w hm=>by simp [go_sem]) (fun w hm K hK=>?_)
 go_simp
 refine hK _ _ _ (.refl hm) (?_)
 clear hK hm w K 
 refine walk_any hb44 rfl rfl (fun w hm=>by simp [go_sem]) (fun w hm K hK=>?_)
 go_simp
 refine hK _ _ _ ((Stp.refl hm).alloc _) (?_)
 have hn9:=(none_own hm).1
 obtain ⟨r9,hr9⟩:∃ r,r=w.heap.size:=⟨_,rfl⟩
 rw [← hr9] at hn9 ⊢
 have hne:r≠r9:=fun e=>by rw [← e,hr] at hn9;cases hn9
 have h9a:(own.set r9 (.cells #[.int .i64 0,.int .i64 0] 137)) r9=some (.cells #[.int .i64 0,.int .i64 0] 137):=Hold.set_same _ _ _
 have hr1:(own.set r9 (.cells #[.int .i64 0,.int .i64 0] 137)) r=some (.cells (outCells l n σ) 3):=by rw [Hold.set_ne _ _ hne];exact hr
 generalize own.set r9 (.cells #[.int .i64 0,.int .i64 0] 137)=own0 at h9a hr1 ⊢
 clear hK hm hr9 hn9 w K hr own
 refine walk_any hb44 rfl rfl (fun w hm=>?_) (fun w hm K hK=>?_)
 ·skip
  have c9:=fun (k:Nat)=>own_cell (o:=k) hm h9a
  have fc9:=fun (k:Nat)=>own_frozen (o:=k) hm h9a
  have ec9:=fun (o:Nat) (wr:Bool)=>ev_own (ro:=roOf W cO cD) (o:=o) (wr:=wr) (key_of h9a)
  simp [go_sem,c9,fc9,ec9]
 have c9:=fun (k:Nat)=>own_cell (o:=k) hm h9a
 have fc9:=fun (k:Nat)=>own_frozen (o:=k) hm h9a
 have ec9:=fun (o:Nat) (wr:Bool)=>ev_own (ro:=roOf W cO cD) (o:=o) (wr:=wr) (key_of h9a)
 go_simp
 refine hK _ _ _ (((Stp.refl hm).set h9a _).set (Hold.set_same _ _ _) _) (?_)
 clear hK hm w K c9 fc9 ec9
 have h9:((own0.set r9 (.cells (#[Value.int .i64 0,.int .i64 0].setIfInBounds 0 (.int .i64 j)) 137)).set r9 (.cells ((#[Value.int .i64 0,.int .i64 0].setIfInBounds 0 (.int .i64 j)).setIfInBounds 1 (.int .i64 (mostI l j))) 137)) r9=some (.cells #[.int .i64 j,.int .i64 (mostI l j)] 137):=by rw [Hold.set_same];rfl
 have hr2:((own0.set r9 (.cells (#[Value.int .i64 0,.int .i64 0].setIfInBounds 0 (.int .i64 j)) 137)).set r9 (.cells ((#[Value.int .i64 0,.int .i64 0].setIfInBounds 0 (.int .i64 j)).setIfInBounds 1 (.int .i64 (mostI l j))) 137)) r=some (.cells (outCells l n σ) 3):=by rw [Hold.set_ne _ _ hne,Hold.set_ne _ _ hne];exact hr1
 generalize ((own0.set r9 (.cells (#[Value.int .i64 0,.int .i64 0].setIfInBounds 0 (.int .i64 j)) 137)).set r9 (.cells ((#[Value.int .i64 0,.int .i64 0].setIfInBounds 0 (.int .i64 j)).setIfInBounds 1 (.int .i64 (mostI l j))) 137))=own1 at h9 hr2 ⊢
 refine Walk.ctl (fun w=>stepG_region_end) ?_
 refine Walk.ctl (fun w=>stepG_region) ?_
 simp only [List.size_toArray,List.length_cons,List.length_nil,Nat.reduceAdd,Nat.zero_add,List.range,List.range.loop]
 refine walk_any hb44 rfl rfl (fun w hm=>by simp [go_sem]) (fun w hm K hK=>?_)
 go_simp
 refine hK _ _ _ (.refl hm) (?_)
 clear hK hm w K 
 refine walk_any hb44 rfl rfl (fun w hm=>by simp [go_sem]) (fun w hm K hK=>?_)
 go_simp
 refine hK _ _ _ (.refl hm) (?_)
 clear hK hm w K 
 refine walk_any hb44 rfl rfl (fun w hm=>?_) (fun w hm K hK=>?_)
 ·skip
  have c9:=fun (k:Nat)=>own_cell (o:=k) hm h9
  have fc9:=fun (k:Nat)=>own_frozen (o:=k) hm h9
  have ec9:=fun (o:Nat) (wr:Bool)=>ev_own (ro:=roOf W cO cD) (o:=o) (wr:=wr) (key_of h9)
  simp [go_sem,c9,fc9,ec9]
 have c9:=fun (k:Nat)=>own_cell (o:=k) hm h9
 have fc9:=fun (k:Nat)=>own_frozen (o:=k) hm h9
 have ec9:=fun (o:Nat) (wr:Bool)=>ev_own (ro:=roOf W cO cD) (o:=o) (wr:=wr) (key_of h9)
 go_simp
 refine hK _ _ _ (.refl hm) (?_)
 clear hK hm w K c9 fc9 ec9
 refine walk_any hb44 rfl rfl (fun w hm=>by simp [go_sem]) (fun w hm K hK=>?_)
 go_simp
 refine hK _ _ _ (.refl hm) (?_)
 clear hK hm w K 
 refine walk_any hb44 rfl rfl (fun w hm=>?_) (fun w hm K hK=>?_)
 ·skip
  have c9:=fun (k:Nat)=>own_cell (o:=k) hm h9
  have fc9:=fun (k:Nat)=>own_frozen (o:=k) hm h9
  have ec9:=fun (o:Nat) (wr:Bool)=>ev_own (ro:=roOf W cO cD) (o:=o) (wr:=wr) (key_of h9)
  simp [go_sem,c9,fc9,ec9]
 have c9:=fun (k:Nat)=>own_cell (o:=k) hm h9
 have fc9:=fun (k:Nat)=>own_frozen (o:=k) hm h9
 have ec9:=fun (o:Nat) (wr:Bool)=>ev_own (ro:=roOf W cO cD) (o:=o) (wr:=wr) (key_of h9)
 go_simp
 refine hK _ _ _ (.refl hm) (?_)
 clear hK hm w K c9 fc9 ec9
 refine walk_any hb44 rfl rfl (fun w hm=>?_) (fun w hm K hK=>?_)
 ·skip
  have hjn2:=hjn
  simp [go_sem,hjn2]
 have hjn2:=hjn
 go_simp
 refine hK _ _ _ (.refl hm) (?_)
 clear hK hm w K hjn2
 refine walk_any hb44 rfl rfl (fun w hm=>?_) (fun w hm K hK=>?_)
 ·skip
  have cv:=(own_cell (o:=j) hm hr2).trans hv0
  have fv:=own_frozen (o:=j) hm hr2
  have ev:=fun (o:Nat) (wr:Bool)=>ev_own (ro:=roOf W cO cD) (o:=o) (wr:=wr) (key_of hr2)
  simp [go_sem,cv,fv,ev]
 have cv:=(own_cell (o:=j) hm hr2).trans hv0
 have fv:=own_frozen (o:=j) hm hr2
 have ev:=fun (o:Nat) (wr:Bool)=>ev_own (ro:=roOf W cO cD) (o:=o) (wr:=wr) (key_of hr2)
 go_simp
 refine hK _ _ _ ((Stp.refl hm).set hr2 _) (?_)
 clear hK hm w K cv fv ev
 have hr3:(own1.set r (.cells ((outCells l n σ).setIfInBounds j (.int .i64 (mostI l j))) 3)) r=some (.cells ((outCells l n σ).setIfInBounds j (.int .i64 (mostI l j))) 3):=Hold.set_same _ _ _
 refine Walk.ctl (fun w=>stepG_region_end) ?_
 refine Walk.ctl (fun w=>stepG_inBlock) ?_
 refine Walk.ctl (fun w=>stepG_inBlock) ?_
 refine Walk.ctl (fun w=>stepG_inLoop) ?_
 rw [hset] at hr3 ⊢
 refine Walk.mono (n:=40) ?_ (by decide)
 exact ma_round T (Go.ConcN.upd σ j true) c hc hr3 _ _ _ _ _ _ _ _ _ _ _ _ _ _ _ _ _ _ _ _ _ _ _ _ _ _ _ _ _ _ _ _ _ _ _ _ _ _ _ _ _ _ _ _ _ _ _ _ _ _ _ _ _ _ _ _ _ _ _ _ _ _ _ _ _ _ _ _ _ _ _ _
theorem ma_sign (T:MTask W cO cD B5 Bl Bo Bd la l lc sa n sc) {σ:Nat→Bool} {c:Nat} {g:Goroutine} {own:Hold} (h:AskMR B5 Bl Bo Bd cO cD n l cs σ c g own) {Stop:Goroutine→Hold→Prop}
 (hk:∀ r (_:own r=some (.cells (outCells l n σ) 3)) (u0 u1 u2 u3 u4 u9 u12 u13 u14 u15 u16 u17 u18 u19 u20 u21 u22 u23 u24 u25 u26 u27 u28 u29 u30 u31 u32 u33 u34 u35 u36 u37 u38 u39 u40 u41 u42 u43 u44 u45 u46 u47 u48 u49 u50 u51 u52 u53 u54 u55 u56 u57 u58 u59 u60 u61 u62 u63 u64 u65 u66 u67 u68 u69 u70 u71 u72 u73 u74 u75 u76 u77:Value),Walk Tryz.prog true (roOf W cO cD) Stop 80 (G ((Go.Conc.base 36).at { tmps:=#[u0,u1,u2,u3,u4,.pointer (some ⟨B5,0,none⟩),.pointer (some ⟨Bl,0,none⟩),.pointer (some ⟨Bo,0,none⟩),.pointer (some ⟨Bd,0,none⟩),u9,.slice (some ⟨r,0,none⟩) n n,.int .i64 ((c+1:Nat):Int),u12,u13,u14,u15,u16,u17,u18,u19,u20,u21,u22,u23,u24,u25,u26,u27,u28,u29,u30,u31,u32,u33,u34,u35,u36,u37,u38,u39,u40,u41,u42,u43,u44,u45,u46,u47,u48,u49,u50,u51,u52,u53,u54,u55,u56,u57,u58,u59,u60,u61,u62,u63,u64,u65,u66,u67,u68,u69,u70,u71,u72,u73,u74,u75,u76,u77],defers:=[] } [.code qL2,.inLoop qL2,.inBlock 2,.code qA20]) cs) own) :
 Walk Tryz.prog true (roOf W cO cD) Stop 100 (g.finishComm Tryz.prog #[rcase cO askZ,rcase cD (.bool false)] .select (1:Nat) sgn true) own:=by
 have hfour:=T.four
 obtain ⟨r,u0,u1,u2,u3,u4,u9,u12,u13,u14,u15,u16,u17,u18,u19,u20,u21,u22,u23,u24,u25,u26,u27,u28,u29,u30,u31,u32,u33,u34,u35,u36,u37,u38,u39,u40,u41,u42,u43,u44,u45,u48,u49,u50,u51,u52,u53,u54,u55,u56,u57,u58,u59,u60,u61,u62,u63,u64,u65,u66,u67,u68,u69,u70,u71,u72,u73,u74,u75,u76,u77,rfl,hr,hc⟩:=h
 have hwc:IntKind.i64.wrap ((c:Int)+1)=((c+1:Nat):Int):=by rw [IntWalk.i64_in _ (by omega)];simp
 rw [finish_at]
 have hres:commResult #[rcase cO askZ,rcase cD (.bool false)] .select ((1:Nat):Int) sgn true=.tuple #[.int .i64 1,.bool true,askZ,.bool true]:=by simp [commResult,rcase,goInt,sgn]
 rw [hres]
 have hk:=hk r hr
 simp only [q16,qB4,qL2,qA11,qBody,Tryz.f36,Option.getD_some]
 walk_nrm
 refine walk_any hb44 rfl rfl (fun w hm=>by simp [go_sem]) (fun w hm K hK=>?_)
 go_simp
 refine hK _ _ _ (.refl hm) (?_)
 clear hK hm w K 
 refine walk_any hb44 rfl rfl (fun w hm=>by simp [go_sem]) (fun w hm K hK=>?_)
 go_simp
 refine hK _ _ _ (.refl hm) (?_)
 clear hK hm w K 
 refine walk_any hb44 rfl rfl (fun w hm=>by simp [go_sem]) (fun w hm K hK=>?_)
 go_simp
 refine hK _ _ _ (.refl hm) (?_)
 clear hK hm w K 
 refine Walk.ctl (fun w=>stepG_region_end) ?_
 refine Walk.ctl (fun w=>stepG_block) ?_
 refine Walk.ctl (fun w=>stepG_cond (t:=false) rfl) ?_
 simp only [if_false,Bool.false_eq_true]
 refine Walk.ctl (fun w=>stepG_cond (t:=true) rfl) ?_
 simp only [if_true]
 refine Walk.ctl (fun w=>stepG_region) ?_
 simp only [List.size_toArray,List.length_cons,List.length_nil,Nat.reduceAdd,Nat.zero_add,List.range,List.range.loop]
 refine walk_any hb44 rfl rfl (fun w hm=>by simp [go_sem]) (fun w hm K hK=>?_)
 go_simp
 refine hK _ _ _ (.refl hm) (?_)
 clear hK hm w K 
 refine walk_any hb44 rfl rfl (fun w hm=>by simp [go_sem]) (fun w hm K hK=>?_)
 go_simp
 refine hK _ _ _ (.refl hm) (?_)
 clear hK hm w K 
 refine walk_any hb44 rfl rfl (fun w hm=>by simp [go_sem]) (fun w hm K hK=>?_)
 go_simp
 refine hK _ _ _ (.refl hm) (?_)
 clear hK hm w K 
 refine Walk.ctl (fun w=>stepG_region_end) ?_
 refine Walk.ctl (fun w=>stepG_inBlock) ?_
 refine Walk.ctl (fun w=>stepG_inBlock) ?_
 refine Walk.ctl (fun w=>stepG_inLoop) ?_
 have hk1:((c+1:Nat):Int)=(c:Int)+1:=by omega
 rw [hk1] at hk
 exact (hk _ _ _ _ _ _ _ _ _ _ _ _ _ _ _ _ _ _ _ _ _ _ _ _ _ _ _ _ _ _ _ _ _ _ _ _ _ _ _ _ _ _ _ _ _ _ _ _ _ _ _ _ _ _ _ _ _ _ _ _ _ _ _ _ _ _ _ _ _ _ _ _).mono (by decide)
theorem ma_last (T:MTask W cO cD B5 Bl Bo Bd la l lc sa n sc) {σ:Nat→Bool} {r:Nat} {own:Hold} (hσ:∀ j,j < n→σ j=true) (hr:own r=some (.cells (outCells l n σ) 3)) :
 ∀ (u0 u1 u2 u3 u4 u9 u12 u13 u14 u15 u16 u17 u18 u19 u20 u21 u22 u23 u24 u25 u26 u27 u28 u29 u30 u31 u32 u33 u34 u35 u36 u37 u38 u39 u40 u41 u42 u43 u44 u45 u46 u47 u48 u49 u50 u51 u52 u53 u54 u55 u56 u57 u58 u59 u60 u61 u62 u63 u64 u65 u66 u67 u68 u69 u70 u71 u72 u73 u74 u75 u76 u77:Value),Walk Tryz.prog true (roOf W cO cD) (AskFin B5 Bl Bo Bd n l cs) 80 (G ((Go.Conc.base 36).at { tmps:=#[u0,u1,u2,u3,u4,.pointer (some ⟨B5,0,none⟩),.pointer (some ⟨Bl,0,none⟩),.pointer (some ⟨Bo,0,none⟩),.pointer (some ⟨Bd,0,none⟩),u9,.slice (some ⟨r,0,none⟩) n n,.int .i64 n,u12,u13,u14,u15,u16,u17,u18,u19,u20,u21,u22,u23,u24,u25,u26,u27,u28,u29,u30,u31,u32,u33,u34,u35,u36,u37,u38,u39,u40,u41,u42,u43,u44,u45,u46,u47,u48,u49,u50,u51,u52,u53,u54,u55,u56,u57,u58,u59,u60,u61,u62,u63,u64,u65,u66,u67,u68,u69,u70,u71,u72,u73,u74,u75,u76,u77],defers:=[] } [.code qL2,.inLoop qL2,.inBlock 2,.code qA20]) cs) own:=by
 have hfour:=T.four
 have hs3:=T.s3
 obtain ⟨s1,s2⟩:=T.sN
 have hls:=lt_of_cell hs3
 simp only at hls
 intro u0 u1 u2 u3 u4 u9 u12 u13 u14 u15 u16 u17 u18 u19 u20 u21 u22 u23 u24 u25 u26 u27 u28 u29 u30 u31 u32 u33 u34 u35 u36 u37 u38 u39 u40 u41 u42 u43 u44 u45 u46 u47 u48 u49 u50 u51 u52 u53 u54 u55 u56 u57 u58 u59 u60 u61 u62 u63 u64 u65 u66 u67 u68 u69 u70 u71 u72 u73 u74 u75 u76 u77
 rw [qL2_eq]
 refine Walk.ctl (fun w=>stepG_seq) ?_
 refine Walk.ctl (fun w=>stepG_seq) ?_
 simp only [q13,q1415,qL2,qA11,qBody,Tryz.f36,Option.getD_some]
 refine Walk.ctl (fun w=>stepG_region) ?_
 simp only [List.size_toArray,List.length_cons,List.length_nil,Nat.reduceAdd,Nat.zero_add,List.range,List.range.loop]
 refine walk_any hb44 rfl rfl (fun w hm=>by simp [go_sem]) (fun w hm K hK=>?_)
 go_simp
 refine hK _ _ _ (.refl hm) (?_)
 clear hK hm w K 
 refine walk_any hb44 rfl rfl (fun w hm=>by simp [go_sem]) (fun w hm K hK=>?_)
 go_simp
 refine hK _ _ _ (.refl hm) (?_)
 clear hK hm w K 
 refine walk_any hb44 rfl rfl (fun w hm=>by simp [go_sem]) (fun w hm K hK=>?_)
 go_simp
 refine hK _ _ _ (.refl hm) (?_)
 clear hK hm w K 
 refine walk_any hb44 rfl rfl (fun w hm=>?_) (fun w hm K hK=>?_)
 ·skip
  have cs:=(ro_cell (o:=3) hm hls s1 s2).trans hs3
  have ecs:=fun (o:Nat)=>ev_ro (own:=own) (o:=o) (ro_key hls s1 s2)
  simp [go_sem,cs,ecs]
 have cs:=(ro_cell (o:=3) hm hls s1 s2).trans hs3
 have ecs:=fun (o:Nat)=>ev_ro (own:=own) (o:=o) (ro_key hls s1 s2)
 go_simp
 refine hK _ _ _ (.refl hm) (?_)
 clear hK hm w K cs ecs
 refine walk_any hb44 rfl rfl (fun w hm=>by simp [go_sem]) (fun w hm K hK=>?_)
 go_simp
 refine hK _ _ _ (.refl hm) (?_)
 clear hK hm w K 
 refine walk_any hb44 rfl rfl (fun w hm=>by simp [go_sem]) (fun w hm K hK=>?_)
 go_simp
 refine hK _ _ _ (.refl hm) (?_)
 clear hK hm w K 
 refine Walk.ctl (fun w=>stepG_region_end) ?_
 refine Walk.ctl (fun w=>stepG_cond (t:=false) rfl) ?_
 simp only [if_false,Bool.false_eq_true]
 refine Walk.ctl (fun w=>stepG_exit (k':=[.code qA20]) rfl) ?_
 exact walk_stop ⟨r,_,_,_,_,_,_,_,_,_,_,_,_,_,_,_,_,_,_,_,_,_,_,_,_,_,_,_,_,_,_,_,_,_,_,_,_,_,_,_,_,_,_,_,_,_,_,_,_,_,_,_,_,_,_,_,_,_,_,_,_,_,_,_,_,_,_,_,_,_,_,_,_,_,rfl,by rw [← outCells_all l n σ hσ];exact hr⟩
end
end Go.Proofs.YtfggbepickdokaaGreatDoor
