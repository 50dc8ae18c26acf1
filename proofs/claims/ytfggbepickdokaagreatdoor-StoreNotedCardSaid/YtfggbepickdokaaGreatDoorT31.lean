/- Leads to the Store laws of chapter 6: AK5 Clean Pok Co2. -/
import Derived.Test.YtfggbepickdokaaGreatDoorT30
set_option maxHeartbeats 200000
set_option maxRecDepth 100000
set_option linter.all false
namespace Go.Proofs.YtfggbepickdokaaGreatDoor
open Go.RowKit Sp Mt Go.Conc
noncomputable def askFarm (W:World) (cO cD:Nat) (l:List (List Int)) (n:Nat):Farm :=
 { P:=Tryz.prog,ro:=roOf W cO cD,cO:=cO,cD:=cD,zO:=askZ,zD:=.bool false,zs:=.tuple #[],n:=n,v:=fun j=>.agg #[.int .i64 j,.int .i64 (mostI l j)],os:=W.os,tape:=W.tape,out:=W.output,lo:=W.heap.size,b:=0 }
section
variable {W:World} {cO cD B5 Bl Bo Bd:Nat} {la:Option Addr} {l:List (List Int)} {lc:Nat} {sa:Option Addr} {n sc:Nat} {cs:List Frame}
theorem ask_spawn (T:MTask W cO cD B5 Bl Bo Bd la l lc sa n sc) (hx:∀ i,i < 4→∀ x∈l,∃ v:Nat,v≤5∧(pad x).getD i 0=(v:Int)) (h4:∀ x∈l,(pad x).length=4) {F:Farm} (hP:F.P=Tryz.prog) (hro:F.ro=roOf W cO cD) (hcO:F.cO=cO) (hcD:F.cD=cD) (hv:∀ i:Nat,F.v i=.agg #[.int .i64 i,.int .i64 (mostI l i)]) (hzs:F.zs=.tuple #[])
 {j:Nat} {g:Goroutine} {own:Hold} (hM:AskMS B5 Bl Bo Bd n cs j g own) (hj:j < n) :
 g.status=.running∧∀ w,Meets w own (roOf W cO cD)→∃ g' child es own' H,stepG Tryz.prog true g w=.spawn g' child w es∧(∀ e∈es,EvOwn own (roOf W cO cD) e) ∧
 (∀ r o,own' r=some o→own r=some o)∧(∀ r o,H r=some o→own r=some o)∧(∀ r,Mt.keyOf own' r→¬ Mt.keyOf H r)∧(∃ k,Walk Tryz.prog false (roOf W cO cD) (S0 F j) k child H) ∧
 (j+1 < n→∃ k,Walk Tryz.prog true (roOf W cO cD) (AskMS B5 Bl Bo Bd n cs (j+1)) k g' own')∧(j+1=n→∃ k,Walk Tryz.prog true (roOf W cO cD) (AskMR B5 Bl Bo Bd cO cD n l cs (fun _=>false) 0) k g' own'):=by
 obtain ⟨r,u0,u1,u2,u3,u4,u10,u11,u12,u13,u14,u15,u16,u17,u18,u19,u20,u21,u22,u23,u24,u25,u26,u27,u28,u31,u32,u34,u35,u36,u37,u38,u39,u40,u41,u42,u43,u44,u45,u46,u47,u48,u49,u50,u51,u52,u53,u54,u55,u56,u57,u58,u59,u60,u61,u62,u63,u64,u65,u66,u67,u68,u69,u70,u71,u72,u73,u74,u75,u76,u77,rfl,hr⟩:=hM
 have hfour:=T.four
 refine ⟨rfl,fun w hm=>?_⟩
 obtain ⟨es,hst,hes⟩:∃ es,stepG Tryz.prog true (G ((Go.Conc.base 36).at { tmps:=#[u0,u1,u2,u3,u4,.pointer (some ⟨B5,0,none⟩),.pointer (some ⟨Bl,0,none⟩),.pointer (some ⟨Bo,0,none⟩),.pointer (some ⟨Bd,0,none⟩),.pointer (some ⟨r,0,none⟩),u10,u11,u12,u13,u14,u15,u16,u17,u18,u19,u20,u21,u22,u23,u24,u25,u26,u27,u28,.int .i64 n,.int .i64 j,u31,u32,.func (.func 90) #[] #[.pointer (some ⟨Bl,0,none⟩),.pointer (some ⟨r,0,none⟩),.pointer (some ⟨Bo,0,none⟩),.pointer (some ⟨Bd,0,none⟩)],u34,u35,u36,u37,u38,u39,u40,u41,u42,u43,u44,u45,u46,u47,u48,u49,u50,u51,u52,u53,u54,u55,u56,u57,u58,u59,u60,u61,u62,u63,u64,u65,u66,u67,u68,u69,u70,u71,u72,u73,u74,u75,u76,u77],defers:=[] } [.inRegion q9 [1],.inBlock 1,.code q10,.inLoop qL0,.inBlock 0,.code qA11]) cs) w=.spawn (G ((Go.Conc.base 36).at { tmps:=#[u0,u1,u2,u3,u4,.pointer (some ⟨B5,0,none⟩),.pointer (some ⟨Bl,0,none⟩),.pointer (some ⟨Bo,0,none⟩),.pointer (some ⟨Bd,0,none⟩),.pointer (some ⟨r,0,none⟩),u10,u11,u12,u13,u14,u15,u16,u17,u18,u19,u20,u21,u22,u23,u24,u25,u26,u27,u28,.int .i64 n,.int .i64 j,u31,u32,.func (.func 90) #[] #[.pointer (some ⟨Bl,0,none⟩),.pointer (some ⟨r,0,none⟩),.pointer (some ⟨Bo,0,none⟩),.pointer (some ⟨Bd,0,none⟩)],u34,u35,u36,u37,u38,u39,u40,u41,u42,u43,u44,u45,u46,u47,u48,u49,u50,u51,u52,u53,u54,u55,u56,u57,u58,u59,u60,u61,u62,u63,u64,u65,u66,u67,u68,u69,u70,u71,u72,u73,u74,u75,u76,u77],defers:=[] } [.inRegion q9 [],.inBlock 1,.code q10,.inLoop qL0,.inBlock 0,.code qA11]) cs) (born Tryz.prog (taskD Bl r Bo Bd)) w es∧∀ e∈es,EvOwn own (roOf W cO cD) e:=by
  obtain ⟨ty,pos,aft,hop⟩:∃ ty pos aft,q9[1]? = some { dst:=none,op:=.go { callee:=.value (.tmp 33),args:=#[],argTypes:=#[] },type:=ty,pos:=pos,after:=aft,guard:=none }:=⟨_,_,_,rfl⟩
  have hs:=stepG_spawn (P:=Tryz.prog) (main:=true) (b:=Go.Conc.base 36) (a:={ tmps:=#[u0,u1,u2,u3,u4,.pointer (some ⟨B5,0,none⟩),.pointer (some ⟨Bl,0,none⟩),.pointer (some ⟨Bo,0,none⟩),.pointer (some ⟨Bd,0,none⟩),.pointer (some ⟨r,0,none⟩),u10,u11,u12,u13,u14,u15,u16,u17,u18,u19,u20,u21,u22,u23,u24,u25,u26,u27,u28,.int .i64 n,.int .i64 j,u31,u32,.func (.func 90) #[] #[.pointer (some ⟨Bl,0,none⟩),.pointer (some ⟨r,0,none⟩),.pointer (some ⟨Bo,0,none⟩),.pointer (some ⟨Bd,0,none⟩)],u34,u35,u36,u37,u38,u39,u40,u41,u42,u43,u44,u45,u46,u47,u48,u49,u50,u51,u52,u53,u54,u55,u56,u57,u58,u59,u60,u61,u62,u63,u64,u65,u66,u67,u68,u69,u70,u71,u72,u73,u74,u75,u76,u77],defers:=[] }) (k:=[.inBlock 1,.code q10,.inLoop qL0,.inBlock 0,.code qA11]) (cs:=cs) (w:=w) (w':=w) (ops:=q9) (i:=1) (rest:=[]) (d:=taskD Bl r Bo Bd) hop rfl hb44 (by simp [go_sem,taskD]) rfl
  refine ⟨_,hs,?_⟩
  unfold listed
  rw [show (execOp _ _).events Tryz.prog w #[]=#[] from rfl,seen_none]
  simp
 refine ⟨_,_,_,fun x=>if x=r then none else own x,fun x=>if x=r then own r else none,hst,hes,?_,?_,?_,?_,?_,?_⟩
 ·intro x o h
  dsimp only at h
  by_cases e:x=r
  ·rw [if_pos e] at h;cases h
  ·rw [if_neg e] at h;exact h
 ·intro x o h
  dsimp only at h
  by_cases e:x=r
  ·rw [if_pos e] at h;rw [e];exact h
  ·rw [if_neg e] at h;cases h
 ·rintro x ⟨o,ho⟩ ⟨o2,ho2⟩
  dsimp only at ho ho2
  by_cases e:x=r
  ·rw [if_pos e] at ho;cases ho
  ·rw [if_neg e] at ho2;cases ho2
 ·exact wk_all T.toTask (hx j (by omega)) h4 (by omega) hP hro hcO hcD (hv j) hzs (by rw [if_pos rfl];exact hr)
 ·intro hlt
  exact ⟨90,ma_next T hj (fun u0 u1 u2 u3 u4 u9 u10 u11 u12 u13 u14 u15 u16 u17 u18 u19 u20 u21 u22 u23 u24 u25 u26 u27 u28 u31 u32 u33 u34 u35 u36 u37 u38 u39 u40 u41 u42 u43 u44 u45 u46 u47 u48 u49 u50 u51 u52 u53 u54 u55 u56 u57 u58 u59 u60 u61 u62 u63 u64 u65 u66 u67 u68 u69 u70 u71 u72 u73 u74 u75 u76 u77=>⟨_,rfl,(ma_head T (j+1) hlt u0 u1 u2 u3 u4 u9 u10 u11 u12 u13 u14 u15 u16 u17 u18 u19 u20 u21 u22 u23 u24 u25 u26 u27 u28 u31 u32 u33 u34 u35 u36 u37 u38 u39 u40 u41 u42 u43 u44 u45 u46 u47 u48 u49 u50 u51 u52 u53 u54 u55 u56 u57 u58 u59 u60 u61 u62 u63 u64 u65 u66 u67 u68 u69 u70 u71 u72 u73 u74 u75 u76 u77 _).mono (by decide)⟩) _ _ _ _ _ _ _ _ _ _ _ _ _ _ _ _ _ _ _ _ _ _ _ _ _ _ _ _ _ _ _ _ _ _ _ _ _ _ _ _ _ _ _ _ _ _ _ _ _ _ _ _ _ _ _ _ _ _ _ _ _ _ _ _ _ _ _ _ _ _ _ _⟩
 ·intro he
  exact ⟨90,ma_next T hj (fun u0 u1 u2 u3 u4 u9 u10 u11 u12 u13 u14 u15 u16 u17 u18 u19 u20 u21 u22 u23 u24 u25 u26 u27 u28 u31 u32 u33 u34 u35 u36 u37 u38 u39 u40 u41 u42 u43 u44 u45 u46 u47 u48 u49 u50 u51 u52 u53 u54 u55 u56 u57 u58 u59 u60 u61 u62 u63 u64 u65 u66 u67 u68 u69 u70 u71 u72 u73 u74 u75 u76 u77=>⟨_,rfl,by rw [he];exact (ma_leave T u0 u1 u2 u3 u4 u9 u10 u11 u12 u13 u14 u15 u16 u17 u18 u19 u20 u21 u22 u23 u24 u25 u26 u27 u28 u31 u32 u33 u34 u35 u36 u37 u38 u39 u40 u41 u42 u43 u44 u45 u46 u47 u48 u49 u50 u51 u52 u53 u54 u55 u56 u57 u58 u59 u60 u61 u62 u63 u64 u65 u66 u67 u68 u69 u70 u71 u72 u73 u74 u75 u76 u77)⟩) _ _ _ _ _ _ _ _ _ _ _ _ _ _ _ _ _ _ _ _ _ _ _ _ _ _ _ _ _ _ _ _ _ _ _ _ _ _ _ _ _ _ _ _ _ _ _ _ _ _ _ _ _ _ _ _ _ _ _ _ _ _ _ _ _ _ _ _ _ _ _ _⟩
theorem ask_sel {σ:Nat→Bool} {c:Nat} {g:Goroutine} {own:Hold} (h:AskMR B5 Bl Bo Bd cO cD n l cs σ c g own):AtComm Tryz.prog true (roOf W cO cD) #[rcase cO askZ,rcase cD (.bool false)] .select g own:=by
 obtain ⟨r,u0,u1,u2,u3,u4,u9,u12,u13,u14,u15,u16,u17,u18,u19,u20,u21,u22,u23,u24,u25,u26,u27,u28,u29,u30,u31,u32,u33,u34,u35,u36,u37,u38,u39,u40,u41,u42,u43,u44,u45,u48,u49,u50,u51,u52,u53,u54,u55,u56,u57,u58,u59,u60,u61,u62,u63,u64,u65,u66,u67,u68,u69,u70,u71,u72,u73,u74,u75,u76,u77,rfl,hr,hc⟩:=h
 refine ⟨rfl,fun w hm=>?_⟩
 obtain ⟨ty,pos,aft,hop⟩:∃ ty pos aft,q16[0]? = some { dst:=some 48,op:=.select #[{ chan:=.tmp 46,send:=none,elem:=137 },{ chan:=.tmp 47,send:=none,elem:=4 }] true,type:=ty,pos:=pos,after:=aft,guard:=none }:=⟨_,_,_,rfl⟩
 have hs:=stepG_comm (P:=Tryz.prog) (main:=true) (b:=Go.Conc.base 36) (a:={ tmps:=#[u0,u1,u2,u3,u4,.pointer (some ⟨B5,0,none⟩),.pointer (some ⟨Bl,0,none⟩),.pointer (some ⟨Bo,0,none⟩),.pointer (some ⟨Bd,0,none⟩),u9,.slice (some ⟨r,0,none⟩) n n,.int .i64 c,u12,u13,u14,u15,u16,u17,u18,u19,u20,u21,u22,u23,u24,u25,u26,u27,u28,u29,u30,u31,u32,u33,u34,u35,u36,u37,u38,u39,u40,u41,u42,u43,u44,u45,.chan (some cO),.chan (some cD),u48,u49,u50,u51,u52,u53,u54,u55,u56,u57,u58,u59,u60,u61,u62,u63,u64,u65,u66,u67,u68,u69,u70,u71,u72,u73,u74,u75,u76,u77],defers:=[] }) (k:=[.code qB4,.inBlock 3,.inLoop qL2,.inBlock 2,.code qA20]) (cs:=cs) (w:=w) (w':=w) (ops:=q16) (i:=0) (rest:=[1,2,3]) (cases:=#[rcase cO askZ,rcase cD (.bool false)]) (blocking:=true) (shape:=.select) hop rfl hb44 (by simp [go_sem,rcase,askZ,Array.mapM_eq_mapM_toList])
 refine ⟨_,hs,?_⟩
 unfold listed
 rw [show (execOp _ _).events Tryz.prog w #[]=#[] from ?_,seen_none]
 ·simp
 ·simp [go_sem,Array.mapM_eq_mapM_toList]
noncomputable def askMaster (T:MTask W cO cD B5 Bl Bo Bd la l lc sa n sc) (hx:∀ i,i < 4→∀ x∈l,∃ v:Nat,v≤5∧(pad x).getD i 0=(v:Int)) (h4:∀ x∈l,(pad x).length=4) (cs:List Frame) (b:Nat):Master { askFarm W cO cD l n with b:=b } where
 MS:=AskMS B5 Bl Bo Bd n cs
 MR:=AskMR B5 Bl Bo Bd cO cD n l cs
 Fin:=AskFin B5 Bl Bo Bd n l cs
 onSpawn:=fun j g own hM hj=>ask_spawn T hx h4 rfl rfl rfl rfl (fun i=>rfl) rfl hM hj
 atSel:=fun σ c g own h=>ask_sel h
 onOut:=fun σ c g own j h hj _=>⟨_,ma_out T hj h⟩
 onSign:=fun σ c g own h hc=>⟨_,ma_sign T h fun r hr u0 u1 u2 u3 u4 u9 u12 u13 u14 u15 u16 u17 u18 u19 u20 u21 u22 u23 u24 u25 u26 u27 u28 u29 u30 u31 u32 u33 u34 u35 u36 u37 u38 u39 u40 u41 u42 u43 u44 u45 u46 u47 u48 u49 u50 u51 u52 u53 u54 u55 u56 u57 u58 u59 u60 u61 u62 u63 u64 u65 u66 u67 u68 u69 u70 u71 u72 u73 u74 u75 u76 u77=>(ma_round T σ (c+1) hc hr u0 u1 u2 u3 u4 u9 u12 u13 u14 u15 u16 u17 u18 u19 u20 u21 u22 u23 u24 u25 u26 u27 u28 u29 u30 u31 u32 u33 u34 u35 u36 u37 u38 u39 u40 u41 u42 u43 u44 u45 u46 u47 u48 u49 u50 u51 u52 u53 u54 u55 u56 u57 u58 u59 u60 u61 u62 u63 u64 u65 u66 u67 u68 u69 u70 u71 u72 u73 u74 u75 u76 u77).mono (by decide)⟩
 onLast:=fun σ c g own h hc hσ=>⟨_,ma_sign T h fun r hr u0 u1 u2 u3 u4 u9 u12 u13 u14 u15 u16 u17 u18 u19 u20 u21 u22 u23 u24 u25 u26 u27 u28 u29 u30 u31 u32 u33 u34 u35 u36 u37 u38 u39 u40 u41 u42 u43 u44 u45 u46 u47 u48 u49 u50 u51 u52 u53 u54 u55 u56 u57 u58 u59 u60 u61 u62 u63 u64 u65 u66 u67 u68 u69 u70 u71 u72 u73 u74 u75 u76 u77=>by rw [show c+1=n from hc];exact ma_last T hσ hr u0 u1 u2 u3 u4 u9 u12 u13 u14 u15 u16 u17 u18 u19 u20 u21 u22 u23 u24 u25 u26 u27 u28 u29 u30 u31 u32 u33 u34 u35 u36 u37 u38 u39 u40 u41 u42 u43 u44 u45 u46 u47 u48 u49 u50 u51 u52 u53 u54 u55 u56 u57 u58 u59 u60 u61 u62 u63 u64 u65 u66 u67 u68 u69 u70 u71 u72 u73 u74 u75 u76 u77⟩
end
end Go.Proofs.YtfggbepickdokaaGreatDoor
open Go
namespace Go.Proofs.YtfggbepickdokaaGreatDoor
open Mt
def bodyOk (P:Program) (fn:Func):Bool:=match fn.body with
 | some c=>codeOk P c
 | none=>true
def outerOk (fn:Func):Bool:=fn.body.isSome || ((Extern.findNext fn).isNone && (Extern.find fn).isNone)
def cleanAt (P:Program) (i:Nat):Bool:=match P.funcs[i]? with
 | some fn=>bodyOk P fn && !(fn.name == "runtime.NumGoroutine") && (Extern.findNext fn).isNone
 | none=>true
def outerAt (P:Program) (i:Nat):Bool:=match P.funcs[i]? with
 | some fn=>outerOk fn
 | none=>true
theorem funcsSize:Tryz.prog.funcs.size=(189+1):=by kernel_rfl
theorem allClean:(List.range (189+1)).all (fun i=>cleanAt Tryz.prog i)=true:=by kernel_rfl
theorem allOuter1:(List.range 160).all (fun i=>outerAt Tryz.prog i)=true:=by kernel_rfl
theorem allOuter2:(List.range 14).all (fun i=>outerAt Tryz.prog ((175+1)+i))=true:=by kernel_rfl
section
variable {P:Program} {rs:List Nat}
theorem tm_text {s:String}:T P rs (Extern.RuntimeError.text s):=Tm.pure trivial
theorem tm_described {v:Value}:T P rs (Extern.RuntimeError.described v):=by unfold Extern.RuntimeError.described;(repeat' (first | with_reducible exact tm_typeStr | with_reducible exact tm_typeInfo | with_reducible exact Tm.stuck | ((with_reducible refine Tm.pure ?_);first | trivial | skip) | ((with_reducible refine Tm.bind Tm.program fun p hp=>?_);subst hp) | (with_reducible refine Tm.bindT ?_ fun _=>?_) | split | (dsimp only)))
theorem tm_pkgpathOf {v:TypeInfo}:T P rs (Extern.RuntimeError.pkgpathOf v):=by unfold Extern.RuntimeError.pkgpathOf;(repeat' (first | with_reducible exact tm_typeInfo | ((with_reducible refine Tm.pure ?_);first | trivial | skip) | (with_reducible refine Tm.bindT ?_ fun _=>?_) | split | (dsimp only)))
theorem tm_typeAssertionError {a:Array Value}:T P rs (Extern.RuntimeError.typeAssertionError a):=by unfold Extern.RuntimeError.typeAssertionError;(repeat' (first | with_reducible exact tm_text | with_reducible exact tm_described | with_reducible exact tm_pkgpathOf | with_reducible exact tm_asString | with_reducible exact tm_asAddr | with_reducible exact tm_runtimePanic | exact Tm.uns (by simp) | with_reducible exact Tm.load | ((with_reducible refine Tm.pure ?_);first | trivial | skip) | (with_reducible refine Tm.bindT ?_ fun _=>?_) | (with_reducible refine Tm.ite (fun _=>?_) (fun _=>?_)) | split | (dsimp only)))
end
section
variable {P:Program} {rs:List Nat}
theorem tm_bounds {a:Array Value}:T P rs (Extern.RuntimeError.boundsError a):=by
 have no:T P rs (stuck "boundsError expected":Sem Value):=by (repeat' (first | with_reducible exact tm_text | with_reducible exact tm_described | with_reducible exact tm_pkgpathOf | with_reducible exact Tm.stuck | split | (dsimp only)))
 obtain ⟨l⟩:=a
 rcases l with _ | ⟨v,_ | ⟨v2,l⟩⟩
 ·exact no
 ·cases v <;> try exact no
  rename_i fs
  obtain ⟨m⟩:=fs
  rcases m with _ | ⟨x,_ | ⟨y,_ | ⟨s,_ | ⟨c,_ | ⟨z,m⟩⟩⟩⟩⟩ <;> try exact no
  cases x <;> try exact no
  cases y <;> try exact no
  cases s <;> try exact no
  cases c <;> try exact no
  rename_i k1 x k2 y s k3 c
  show T P rs (match (if s && x < 0 then Extern.RuntimeError.boundsNegErrorFmts else Extern.RuntimeError.boundsErrorFmts)[c.toNat]? with
   | some fmt=>Extern.RuntimeError.text ("runtime error: " ++ (fmt.replace "%x" (toString (if s then x else IntKind.u64.wrap x))).replace "%y" (toString y))
   | none=>stuck "boundsError: no such code")
  split
  ·exact tm_text
  ·(repeat' (first | with_reducible exact tm_text | with_reducible exact tm_described | with_reducible exact tm_pkgpathOf | with_reducible exact Tm.stuck | split | (dsimp only)))
 ·exact no
theorem tm_unhash {a:Array Value}:T P rs (Extern.RuntimeError.unhashableTypeError a):=by
 have no:T P rs (stuck "unhashableTypeError expected":Sem Value):=by (repeat' (first | with_reducible exact tm_text | with_reducible exact tm_described | with_reducible exact tm_pkgpathOf | with_reducible exact tm_runtimePanic | with_reducible exact Tm.stuck | (with_reducible refine Tm.bindT ?_ fun _=>?_) | split | (dsimp only)))
 obtain ⟨l⟩:=a
 rcases l with _ | ⟨v,_ | ⟨v2,l⟩⟩
 ·exact no
 ·cases v <;> try exact no
  rename_i fs
  obtain ⟨m⟩:=fs
  rcases m with _ | ⟨x,_ | ⟨y,m⟩⟩ <;> try exact no
  show T P rs (do
   let some t ← Extern.RuntimeError.described x | runtimePanic .nilDeref
   Extern.RuntimeError.text ("hash of unhashable type: " ++ t.str))
  (repeat' (first | with_reducible exact tm_text | with_reducible exact tm_described | with_reducible exact tm_pkgpathOf | with_reducible exact tm_runtimePanic | with_reducible exact Tm.stuck | (with_reducible refine Tm.bindT ?_ fun _=>?_) | split | (dsimp only)))
 ·exact no
theorem tm_nothing {a:Array Value}:T P rs (Extern.RuntimeError.nothing a):=by unfold Extern.RuntimeError.nothing;(repeat' (first | with_reducible exact tm_text | with_reducible exact tm_described | with_reducible exact tm_pkgpathOf | ((with_reducible refine Tm.pure ?_);first | trivial | skip) | split | (dsimp only)))
theorem tm_r0 {a:Array Value}:T P rs ((Extern.RuntimeError.rows[0]).2 a):=by
 show T P rs (do pure (Value.string ("runtime error: ".toUTF8 ++ (← asString (a.getD 0 (Value.tuple #[]))))))
 (repeat' (first | with_reducible exact tm_text | with_reducible exact tm_described | with_reducible exact tm_pkgpathOf | with_reducible exact tm_asString | ((with_reducible refine Tm.pure ?_);first | trivial | skip) | (with_reducible refine Tm.bindT ?_ fun _=>?_) | split | (dsimp only)))
theorem tm_r1 {a:Array Value}:T P rs ((Extern.RuntimeError.rows[1]).2 a):=by
 show T P rs (do pure (Value.string (← asString (a.getD 0 (Value.tuple #[])))))
 (repeat' (first | with_reducible exact tm_text | with_reducible exact tm_described | with_reducible exact tm_pkgpathOf | with_reducible exact tm_asString | ((with_reducible refine Tm.pure ?_);first | trivial | skip) | (with_reducible refine Tm.bindT ?_ fun _=>?_) | split | (dsimp only)))
theorem tm_r2 {a:Array Value}:T P rs ((Extern.RuntimeError.rows[2]).2 a):=by
 show T P rs (do pure (Value.string ("runtime error: ".toUTF8 ++ (← asString ((← asAgg (a.getD 0 (Value.tuple #[]))).getD 0 (Value.tuple #[]))))))
 (repeat' (first | with_reducible exact tm_text | with_reducible exact tm_described | with_reducible exact tm_pkgpathOf | with_reducible exact tm_asString | with_reducible exact tm_asAgg | ((with_reducible refine Tm.pure ?_);first | trivial | skip) | (with_reducible refine Tm.bindT ?_ fun _=>?_) | split | (dsimp only)))
theorem tm_r6 {a:Array Value}:T P rs ((Extern.RuntimeError.rows[6]).2 a):=by
 show T P rs (Extern.RuntimeError.text _)
 exact tm_text
theorem tm_kind {a:Array Value}:T P rs ((Extern.ReflectliteType.rows[11]).2 a):=by
 show T P rs (do pure (strVal (Extern.Rtype.kindName (← asInt (a.getD 0 (Value.tuple #[]))).toNat)))
 (repeat' (first | with_reducible exact tm_text | with_reducible exact tm_described | with_reducible exact tm_pkgpathOf | with_reducible exact tm_asInt | ((with_reducible refine Tm.pure ?_);first | trivial | skip) | (with_reducible refine Tm.bindT ?_ fun _=>?_) | split | (dsimp only)))
end
theorem findE0:Extern.find Tryz.f160=some Extern.RuntimeError.boundsError:=by kernel_rfl
theorem findE1:Extern.find Tryz.f161=some Extern.RuntimeError.nothing:=by kernel_rfl
theorem findE2:Extern.find Tryz.f162=some (Extern.RuntimeError.rows[0]).2:=by kernel_rfl
theorem findE3:Extern.find Tryz.f163=some Extern.RuntimeError.nothing:=by kernel_rfl
theorem findE4:Extern.find Tryz.f164=some (Extern.RuntimeError.rows[1]).2:=by kernel_rfl
theorem findE5:Extern.find Tryz.f165=some Extern.RuntimeError.nothing:=by kernel_rfl
theorem findE6:Extern.find Tryz.f166=some (Extern.RuntimeError.rows[2]).2:=by kernel_rfl
theorem findE7:Extern.find Tryz.f167=some Extern.RuntimeError.nothing:=by kernel_rfl
theorem findE8:Extern.find Tryz.f168=some Extern.RuntimeError.typeAssertionError:=by kernel_rfl
theorem findE9:Extern.find Tryz.f169=some Extern.RuntimeError.nothing:=by kernel_rfl
theorem findE10:Extern.find Tryz.f170=some (Extern.RuntimeError.rows[6]).2:=by kernel_rfl
theorem findE11:Extern.find Tryz.f171=some Extern.RuntimeError.nothing:=by kernel_rfl
theorem findE12:Extern.find Tryz.f172=none:=by kernel_rfl
theorem findE13:Extern.find Tryz.f173=some Extern.RuntimeError.unhashableTypeError:=by kernel_rfl
theorem findE14:Extern.find Tryz.f174=some Extern.RuntimeError.nothing:=by kernel_rfl
theorem findE15:Extern.find Tryz.f175=some (Extern.ReflectliteType.rows[11]).2:=by kernel_rfl
theorem outerE:∀ i,160≤i→i < (175+1)→∀ fn,Tryz.prog.funcs[i]? = some fn→∀ e,Extern.find fn=some e→∀ args rs,T Tryz.prog rs (e args):=by
 intro i h1 h2 fn hf e he args rs
 rcases (show i=160∨i=161∨i=162∨i=163∨i=164∨i=165∨i=166∨i=167∨i=168∨i=169∨i=170∨i=171∨i=172∨i=173∨i=174∨i=175 by omega) with rfl | rfl | rfl | rfl | rfl | rfl | rfl | rfl | rfl | rfl | rfl | rfl | rfl | rfl | rfl | rfl
 ·rw [Tryz.func160] at hf;cases hf;rw [findE0] at he;cases he;exact tm_bounds
 ·rw [Tryz.func161] at hf;cases hf;rw [findE1] at he;cases he;exact tm_nothing
 ·rw [Tryz.func162] at hf;cases hf;rw [findE2] at he;cases he;exact tm_r0
 ·rw [Tryz.func163] at hf;cases hf;rw [findE3] at he;cases he;exact tm_nothing
 ·rw [Tryz.func164] at hf;cases hf;rw [findE4] at he;cases he;exact tm_r1
 ·rw [Tryz.func165] at hf;cases hf;rw [findE5] at he;cases he;exact tm_nothing
 ·rw [Tryz.func166] at hf;cases hf;rw [findE6] at he;cases he;exact tm_r2
 ·rw [Tryz.func167] at hf;cases hf;rw [findE7] at he;cases he;exact tm_nothing
 ·rw [Tryz.func168] at hf;cases hf;rw [findE8] at he;cases he;exact tm_typeAssertionError
 ·rw [Tryz.func169] at hf;cases hf;rw [findE9] at he;cases he;exact tm_nothing
 ·rw [Tryz.func170] at hf;cases hf;rw [findE10] at he;cases he;exact tm_r6
 ·rw [Tryz.func171] at hf;cases hf;rw [findE11] at he;cases he;exact tm_nothing
 ·rw [Tryz.func172] at hf;cases hf;rw [findE12] at he;cases he
 ·rw [Tryz.func173] at hf;cases hf;rw [findE13] at he;cases he;exact tm_unhash
 ·rw [Tryz.func174] at hf;cases hf;rw [findE14] at he;cases he;exact tm_nothing
 ·rw [Tryz.func175] at hf;cases hf;rw [findE15] at he;cases he;exact tm_kind
theorem progOk:ProgOk Tryz.prog where
 code:=fun f fn hf c hc=>by
  have hlt:f < (189+1):=by have:=(Array.getElem?_eq_some_iff.1 hf).1;rw [funcsSize] at this;exact this
  have h:=List.all_eq_true.1 allClean f (List.mem_range.2 hlt)
  unfold cleanAt at h
  rw [hf] at h
  simp only [Bool.and_eq_true] at h
  have h1:=h.1.1
  unfold bodyOk at h1
  rw [hc] at h1
  exact h1
 outer:=fun f fn hf=>by
  have hlt:f < (189+1):=by have:=(Array.getElem?_eq_some_iff.1 hf).1;rw [funcsSize] at this;exact this
  have h:=List.all_eq_true.1 allClean f (List.mem_range.2 hlt)
  unfold cleanAt at h
  rw [hf] at h
  simp only [Bool.and_eq_true] at h
  refine ⟨by simpa using h.1.2,fun hb=>⟨by simpa using h.2,fun e he args rs=>?_⟩⟩
  by_cases h1:f < 160
  ·have h2:=List.all_eq_true.1 allOuter1 f (List.mem_range.2 h1)
   unfold outerAt at h2
   rw [hf] at h2
   have hb2:fn.body.isSome=false:=by cases hx:fn.body <;> simp_all
   simp [outerOk,hb2,he] at h2
  ·by_cases h3:f < (175+1)
   ·exact outerE f (by omega) h3 fn hf e he args rs
   ·have h2:=List.all_eq_true.1 allOuter2 (f - (175+1)) (List.mem_range.2 (by omega))
    unfold outerAt at h2
    rw [show (175+1)+(f - (175+1))=f by omega,hf] at h2
    have hb2:fn.body.isSome=false:=by cases hx:fn.body <;> simp_all
    simp [outerOk,hb2,he] at h2
end Go.Proofs.YtfggbepickdokaaGreatDoor
namespace Go.Proofs.YtfggbepickdokaaGreatDoor
open Go.RowKit Sp Mt Go.Conc
structure Old (w w1:World):Prop where
 os:w1.os=w.os
 output:w1.output=w.output
 size:w.heap.size≤w1.heap.size
 block:∀ k,k < w.heap.size→w1.heap[k]? = w.heap[k]?
structure Twin (n:Nat) (w w1:World):Prop where
 os:w1.os=w.os
 output:w1.output=w.output
 size:w1.heap.size=w.heap.size
 cell:∀ a,w1.cell? a=w.cell? a
 frozen:∀ a,w1.frozen? a=w.frozen? a
 block:∀ k,n≤k→w1.heap[k]? = w.heap[k]?
section
variable {P:Program} {w w1 w2 W:World} {n:Nat}
theorem Old.refl (w:World):Old w w:=⟨rfl,rfl,Nat.le_refl _,fun _ _=>rfl⟩
theorem Old.trans (h:Old w w1) (k:Old w1 w2):Old w w2:=⟨k.os.trans h.os,k.output.trans h.output,Nat.le_trans h.size k.size,fun i hi=>(k.block i (Nat.lt_of_lt_of_le hi h.size)).trans (h.block i hi)⟩
theorem Old.at (h:Old w w1) (d:Nat):Old w (w1.at d):=⟨h.os,h.output,h.size,h.block⟩
theorem Old.cell (h:Old w w1) {b o:Nat} (hb:b < w.heap.size):w1.cell? ⟨b,o,none⟩=w.cell? ⟨b,o,none⟩:=World.cell?_of_block (h.block b hb)
theorem Old.cell2 (h:Old w w1) {b o:Nat} {v:Value} (hb:w.cell? ⟨b,o,none⟩=some v):w1.cell? ⟨b,o,none⟩=some v:=(h.cell (lt_of_cell hb)).trans hb
theorem Old.below (h:Old w w1):Below w.heap.size w (w1.on w.tape 0):=⟨h.os,rfl,h.output,h.size,h.block⟩
theorem muted_twin (w:World) (t:Tape):Twin w.heap.size w ((muted w).on t 0):=by
 have hl:=muted_like Tryz.prog w
 refine ⟨hl.os,hl.output,hl.size,fun a=>?_,fun a=>Sim.frozen hl a,fun k hk=>?_⟩
 ·cases h:(muted w).cell? a with
  | none=>exact h.trans (hl.cell_none h).symm
  | some v=>exact h.trans (hl.cell h).2.2.symm
 ·have h1:w.heap.size≤k:=hk
  have h2:((muted w).on t 0).heap.size≤k:=by have:=hl.size;show (muted w).heap.size≤k;omega
  rw [Array.getElem?_eq_none h1,Array.getElem?_eq_none h2]
theorem like_twin {S:Mute} (hw:Like P S w W) (h:Like P S w1 w2) (t:Tape) (d:Nat):Twin w.heap.size (w2.on t d) w1:=by
 refine ⟨h.os.symm,h.output.symm,h.size.symm,fun a=>?_,fun a=>(Sim.frozen h a).symm,fun k hk=>(h.block k fun hs=>?_).symm⟩
 ·cases hc:w2.cell? a with
  | none=>exact (h.cell_none hc).trans hc.symm
  | some v=>exact (h.cell hc).2.2.trans hc.symm
 ·have:=hw.lt hs;omega
theorem like_old {S:Mute} {t t2:Tape} {d2:Nat} (hw:Like P S w W) (h:Like P S w1 w2) (hb:Below (W.on t 0).heap.size (W.on t 0) (w2.on t2 d2)):Old w w1:=by
 refine ⟨h.os.symm.trans (hb.os.trans hw.os),h.output.symm.trans (hb.output.trans hw.output),by rw [← hw.size,← h.size];exact hb.size,fun k hk=>?_⟩
 by_cases hs:S k
 ·obtain ⟨⟨o,h1,_,h2⟩,_⟩:=hw.mute k hs
  obtain ⟨⟨o2,h3,_,h4⟩,_⟩:=h.mute k hs
  rw [h1,h3,← h2,← h4]
 ·rw [← h.block k hs,← hw.block k hs]
  exact hb.block k (show k < W.heap.size by rw [hw.size];exact hk)
theorem Twin.unat {d:Nat} (h:Twin n (w.at d) w1):Twin n w w1:=⟨h.os,h.output,h.size,h.cell,h.frozen,h.block⟩
theorem Twin.msgs (h:Twin n w w1) {a:Option Addr} {l:List Msg} (k:MsgsAt w a l):MsgsAt w1 a l:=fun i hi=>by
 obtain ⟨b,o,e,hlt,h1,h2,h3⟩:=k i hi
 exact ⟨b,o,e,by rw [h.size];exact hlt,(h.cell _).trans h1,(h.cell _).trans h2,(h.cell _).trans h3⟩
theorem Twin.parts (h:Twin n w w1) {a:Option Addr} {l:List Prt} (k:PartsAt w a l):PartsAt w1 a l:=fun i hi=>by
 obtain ⟨b,o,e,hlt,h1,h2⟩:=k i hi
 exact ⟨b,o,e,by rw [h.size];exact hlt,(h.cell _).trans h1,(h.cell _).trans h2⟩
theorem Twin.sess (h:Twin n w w1) {a:Option Addr} {l:List (List Prt)} (k:SessAt w a l):SessAt w1 a l:=fun i hi=>by
 obtain ⟨b,o,e,hlt,pa,pc,h1,h2,h3,h4⟩:=k i hi
 exact ⟨b,o,e,by rw [h.size];exact hlt,pa,pc,(h.cell _).trans h1,h2,h3,h.parts h4⟩
theorem Twin.recs (h:Twin n w w1) {a:Option Addr} {l:List Rec} (k:RecsAt w a l):RecsAt w1 a l:=fun i hi=>by
 obtain ⟨b,o,e,hlt,h1,h2,h3,h4⟩:=k i hi
 exact ⟨b,o,e,by rw [h.size];exact hlt,(h.cell _).trans h1,(h.cell _).trans h2,(h.cell _).trans h3,(h.cell _).trans h4⟩
theorem Twin.book (h:Twin n w w1) {b:Bk} {vr vg vm vs vc:Value} (k:BookAt w b vr vg vm vs vc):BookAt w1 b vr vg vm vs vc:=by
 obtain ⟨h1,h2,⟨a1,c1,e1,h3,g1⟩,⟨a2,c2,e2,h4,g2⟩,a3,c3,e3,h5,g3⟩:=k
 exact ⟨h1,h2,⟨a1,c1,e1,h.msgs h3,g1⟩,⟨a2,c2,e2,h.sess h4,g2⟩,a3,c3,e3,h.recs h5,g3⟩
theorem Twin.ints (h:Twin n w w1) {a:Option Addr} {l:List Int} (k:IntsAt w a l):IntsAt w1 a l:=fun i hi=>by
 obtain ⟨b,o,e,hlt,h1⟩:=k i hi
 exact ⟨b,o,e,by rw [h.size];exact hlt,(h.cell _).trans h1⟩
theorem Twin.cames (h:Twin n w w1) {a:Option Addr} {l:List (List Int)} (k:CamesAt w a l):CamesAt w1 a l:=fun i hi=>by
 obtain ⟨b,o,e,hlt,h1,h2,h3,h4⟩:=k i hi
 exact ⟨b,o,e,by rw [h.size];exact hlt,(h.cell _).trans h1,(h.cell _).trans h2,(h.cell _).trans h3,(h.cell _).trans h4⟩
theorem Twin.kinds (h:Twin n w w1) (k:KindsAt w):KindsAt w1:=⟨by rw [h.size];exact k.1,fun i hi=>by
 obtain ⟨⟨s,e,h0⟩,h1,h2,h3,h4⟩:=k.2 i hi
 exact ⟨⟨s,e,(h.cell _).trans h0⟩,(h.cell _).trans h1,(h.cell _).trans h2,(h.cell _).trans h3,(h.cell _).trans h4⟩⟩
theorem on_twin (w:World) (t:Tape) (d:Nat):Twin 0 (w.on t d) w:=⟨rfl,rfl,rfl,fun _=>rfl,fun _=>rfl,fun _ _=>rfl⟩
theorem Old.book (h:Old w w1) {b:Bk} {vr vg vm vs vc:Value} (k:BookAt w b vr vg vm vs vc):BookAt w1 b vr vg vm vs vc:=(on_twin w1 w.tape 0).book (k.below h.below)
theorem Old.ints (h:Old w w1) {a:Option Addr} {l:List Int} (k:IntsAt w a l):IntsAt w1 a l:=(on_twin w1 w.tape 0).ints (k.below h.below)
theorem Old.parts (h:Old w w1) {a:Option Addr} {l:List Prt} (k:PartsAt w a l):PartsAt w1 a l:=(on_twin w1 w.tape 0).parts (k.below h.below)
theorem Old.cames (h:Old w w1) {a:Option Addr} {l:List (List Int)} (k:CamesAt w a l):CamesAt w1 a l:=(on_twin w1 w.tape 0).cames (k.below h.below)
theorem Old.kinds (h:Old w w1) (k:KindsAt w):KindsAt w1:=(on_twin w1 w.tape 0).kinds (k.below h.below)
end
section
variable {b:Frame} {a:Act} {w:World} {k:List Item} {cs:List Frame}
theorem piece_co {c:Code} (hc:codeOk Tryz.prog c=true) (hb:b.kind=.normal) (hd:MarksOnly a.defers) {Z:Act→World→Prop} (hZ:∀ a w1 w2,Twin w.heap.size w1 w2→Z a w1→Z a w2)
 (h:∀ W,Twin w.heap.size w W→c.wp Tryz.prog (fun e a' w2=>e=.normal∧Z a' w2∧Below W.heap.size W w2) a W) :
 Leads Tryz.prog (fun fr' cs' w1=>∃ a',fr'=b.at a' k∧cs'=cs∧Z a' w1∧Old w w1) (b.at a (.code c::k)) cs w:=by
 have hl:=muted_like Tryz.prog w
 refine (wp_leads (Z:=fun a' W2=>Z a' W2∧∃ t,Below ((muted w).on t 0).heap.size ((muted w).on t 0) W2) progOk hl hc hb hd fun t=>?_).mono ?_
 ·refine Code.wp_mono ?_ (h _ (muted_twin w t))
  rintro e a' w2 ⟨he,hz,hbl⟩
  exact ⟨he,w2.tape,w2.drawn,hz,t,hbl⟩
 ·rintro fr' cs' w1 ⟨a',w1',h1,h2,h3,t,d,hz,t0,hbl⟩
  exact ⟨a',h1,h2,hZ _ _ _ (like_twin hl h3 t d) hz,like_old hl h3 hbl⟩
theorem calls_co {f:FuncId} {args:Array Value} {c:Frame} {Z:Value→World→Prop} (hZ:∀ v w1 w2,Twin w.heap.size w1 w2→Z v w1→Z v w2)
 (h:∀ W,Twin w.heap.size w W→Calls Tryz.prog f args W fun e w2=>∃ v,e=.returned v∧Z v w2∧Below W.heap.size W w2) :
 Leads Tryz.prog (fun fr' cs' w1=>∃ v,fr'=c.finish v∧cs'=cs∧Z v w1∧Old w w1) (Frame.enter Tryz.prog f args .normal) (c::cs) w:=by
 have hl:=muted_like Tryz.prog w
 refine (calls_leads (Z:=fun v W2=>Z v W2∧∃ t,Below ((muted w).on t 0).heap.size ((muted w).on t 0) W2) progOk hl fun t=>?_).mono ?_
 ·refine (h _ (muted_twin w t)).mono ?_
  rintro e w2 ⟨v,he,hz,hbl⟩
  exact ⟨v,he,w2.tape,w2.drawn,hz,t,hbl⟩
 ·rintro fr' cs' w1 ⟨v,w1',h1,h2,h3,t,d,hz,t0,hbl⟩
  exact ⟨v,h1,h2,hZ _ _ _ (like_twin hl h3 t d) hz,like_old hl h3 hbl⟩
theorem leads_leave {P:Program} {K:Frame→List Frame→World→Prop} {fn:Func} {c:Frame} {v:Value} (hn:b.kind=.normal) (hd:a.defers=[]) (hf:P.funcs[b.fn]? = some fn)
 (hr:∀ W,(results fn a.tmps).run P W=.ok v W) (he:∀ W,(results fn a.tmps).events P W #[]=#[]) (h:∀ d,Leads P K (c.finish v) cs (w.at d)) :
 Leads P K { b.at a k with mode:=.returning } (c::cs) w :=
 leads_go (fun d=>stepG_leave hn hd hf (hr _) (he _)) h
end
end Go.Proofs.YtfggbepickdokaaGreatDoor
