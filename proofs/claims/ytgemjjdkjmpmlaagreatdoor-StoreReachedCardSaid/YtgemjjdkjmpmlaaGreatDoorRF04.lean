/- Leads to StoreReached of chapter 6: RF6 RF7. -/
import Derived.Test.YtgemjjdkjmpmlaaGreatDoorRF03
set_option maxHeartbeats 16000000
set_option maxRecDepth 100000
set_option linter.all false
namespace Go.Proofs.YtgemjjdkjmpmlaaGreatDoor
open Go.RowKit Go.Maps Sp Mt Go.Conc
variable {B pl iN mN pc xc dc P Q C ec wn:Nat} {b:Bk} {s s2 s3 g u c lo hi gr:Int} {vr vg vm vs vc x:Value} {w w0:World} {pa xa da ea:Option Addr} {q dq sn:List Int} {d:Nat→Value}
theorem eq_int (d:Nat) (a b:Int) (w:World) (es:Array Event):Sem.events Tryz.prog (Op.equalIn (d+1) 3 (.int .i64 a) (.int .i64 b)) w es=es∧(Op.equalIn (d+1) 3 (.int .i64 a) (.int .i64 b)).run Tryz.prog w=.ok (a == b) w:=by
 unfold Op.equalIn
 refine ⟨?_,?_⟩ <;> simp [go_sem]
theorem ev_equal (d:Nat) (a b a' b':Int) (w:World) (es:Array Event):Sem.events Tryz.prog (Op.equalIn (d+1+1) 90 (.agg #[.int .i64 a,.int .i64 b]) (.agg #[.int .i64 a',.int .i64 b'])) w es=es:=by
 unfold Op.equalIn
 simp [go_sem,eq_int]
theorem ev_band (a b a' b':Int) (w:World) (es:Array Event):Sem.events Tryz.prog (binOp BinOp.eql 90 (.agg #[.int .i64 a,.int .i64 b]) (.agg #[.int .i64 a',.int .i64 b'])) w es=es:=by
 show Sem.events Tryz.prog (Op.equalIn (9998+1+1) 90 (.agg #[.int .i64 a,.int .i64 b]) (.agg #[.int .i64 a',.int .i64 b']) >>= fun x=>(pure (Value.bool x):Sem Value)) w es=es
 rw [Sem.events_bind,ev_equal]
 cases (Op.equalIn (9998+1+1) 90 (.agg #[.int .i64 a,.int .i64 b]) (.agg #[.int .i64 a',.int .i64 b'])).run Tryz.prog w <;> rfl
theorem ev_bandg (lo hi lo' hi':Int) (x y:Operand) (w:World) (es:Array Event):Sem.events Tryz.prog (eqGuard BinOp.eql 90 x y (.agg #[.int .i64 lo,.int .i64 hi]) (.agg #[.int .i64 lo',.int .i64 hi'])) w es=es:=by
 simp [eqGuard,go_sem]
theorem ev_bool (d:Nat) (a b:Bool) (w:World) (es:Array Event):Sem.events Tryz.prog (Op.equalIn (d+1) 4 (.bool a) (.bool b)) w es=es:=by
 unfold Op.equalIn
 simp [go_sem]
theorem ev_bools (a b:Bool) (w:World) (es:Array Event):Sem.events Tryz.prog (binOp BinOp.eql 4 (.bool a) (.bool b)) w es=es:=by
 show Sem.events Tryz.prog (Op.equalIn (9999+1) 4 (.bool a) (.bool b) >>= fun x=>(pure (Value.bool x):Sem Value)) w es=es
 rw [Sem.events_bind,ev_bool]
 cases (Op.equalIn (9999+1) 4 (.bool a) (.bool b)).run Tryz.prog w <;> rfl
theorem re_leaves {a:Act} {k:List Item} (g8:a.tmps[8]? = some (.bool true)) (df:a.defers=[]) (h:Old w0 w) :
 Leaving0 Tryz.prog (fun v w'=>v=.bool true∧Old w0 w') { (Go.Conc.base 11).at a k with mode:=.returning } [] w:=by
 refine ⟨rfl,rfl,rfl,df,by kernel_rfl,.bool true,_,Tryz.func11,fun d=>⟨⟨rfl,h.at d⟩,#[],?_,by simp⟩⟩
 rw [Sem.runT_eq]
 refine Prod.ext ?_ ?_ <;> simp [results,Tryz.results11,go_sem,Frame.at,Go.Conc.base,g8]
theorem reFrame {c:Code} {x0 x1 x2 x3:Value} (hc:Tryz.f11.body=some c):Frame.enter Tryz.prog 11 #[x0,x1,x2,x3] .normal=(Go.Conc.base 11).at (frI x0 x1 x2 x3 fun _=>undef) [.code c]:=by
 rw [Go.Conc.enter_at #[x0,x1,x2,x3] Tryz.func11 hc]
 simp only [Tryz.ntmps11,frI,List.size_toArray,List.length_cons,List.length_nil,Nat.reduceAdd,Nat.reduceSub,Array.replicate_succ,Array.replicate_zero,List.push_toArray,List.append_toArray,List.nil_append,List.cons_append]
theorem stored_leads {w':World} (hK:KindsAt w) (t:Twin 0 w w') (c:Frame) (cs:List Frame):Leads Tryz.prog (fun fr' cs' w1=>∃ v,fr'=c.finish v∧cs'=cs∧v=.bool true∧Old w w1) (Frame.enter Tryz.prog 14 #[] .normal) (c::cs) w':=by
 refine (stored_co (t.kinds hK) c cs).mono ?_
 rintro fr' cs' w2 ⟨h1,h2,ho⟩
 exact ⟨_,h1,h2,rfl,t.old0 ho⟩
theorem re_tail {db do2 dl:Nat} {dm:Int} {x1 x2 x3 x4:Bool} (hold:Old w0 w) (hK:KindsAt w) (hmd:mN < dl) (q0:w.cell? ⟨Q,0,none⟩=some (.int .i64 lo)) (q1:w.cell? ⟨Q,1,none⟩=some (.int .i64 hi)) (z0:w.cell? ⟨C,0,none⟩=some (.int .i64 lo)) (z1:w.cell? ⟨C,1,none⟩=some (.int .i64 hi)) (hd:w.cell? ⟨db,do2+mN,none⟩=some (.int .i64 dm))
 (h1:(c == 1)=x1) (h2:decide (0 < lo)=x1) (h3:(c == 2)=x2) (h4:(hi == 0)=x2) (h5:(dm == 1)=x3) (h6:((wn:Int) == (pl:Int))=x3) (h7:(dm == 2)=x4) (h8:((wn:Int) == 0)=x4)
 {a:Act} (q:Kn a 314 [(11,.int .i64 (mN:Int)),(13,.int .i64 (pl:Int)),(17,.int .i64 c),(19,.pointer (some ⟨Q,0,none⟩)),(21,.slice (some ⟨db,do2,none⟩) dl dc),(24,.pointer (some ⟨C,0,none⟩)),(25,.int .i64 (wn:Int))]) :
 LeadsA Tryz.prog (Leaving0 Tryz.prog fun v w'=>v=.bool true∧Old w0 w') ((Go.Conc.base 11).at a [.code (.seq (rp 19) .ret)]) [] w:=by
 have hql:=lt_of_cell q0
 have hcl:=lt_of_cell z0
 have hdl:=lt_of_cell hd
 simp only at hql hcl hdl
 have nb:(Go.Conc.base 11).kind=.normal:=rfl
 simp only [rp,sqN,sql,sqr,cnd,Tryz.f11,Option.getD_some]
 refine all_seq ?_
 refine all_region ?_
 simp only [List.size_toArray,List.length_cons,List.length_nil,Nat.reduceAdd,Nat.zero_add,List.range,List.range.loop]
 refine sr (.agg #[.int .i64 lo,.int .i64 hi]) nb rfl rfl rfl (fun w' t=>by simp [go_sem,q.g 19 rfl,show w'.cell? ⟨Q,0,none⟩=some (.int .i64 lo) from (t.cell _).trans q0,show w'.cell? ⟨Q,1,none⟩=some (.int .i64 hi) from (t.cell _).trans q1]) (fun w' t=>by simp [go_sem,q.g 19 rfl,EvOk,show w'.cell? ⟨Q,0,none⟩=some (.int .i64 lo) from (t.cell _).trans q0,show w'.cell? ⟨Q,1,none⟩=some (.int .i64 hi) from (t.cell _).trans q1,show Q < w'.heap.size from by rw [t.size];exact hql]) q (by decide) rfl fun _ q=>?_
 refine sr (.agg #[.int .i64 lo,.int .i64 hi]) nb rfl rfl rfl (fun w' t=>by simp [go_sem,q.g 24 rfl,show w'.cell? ⟨C,0,none⟩=some (.int .i64 lo) from (t.cell _).trans z0,show w'.cell? ⟨C,1,none⟩=some (.int .i64 hi) from (t.cell _).trans z1]) (fun w' t=>by simp [go_sem,q.g 24 rfl,EvOk,show w'.cell? ⟨C,0,none⟩=some (.int .i64 lo) from (t.cell _).trans z0,show w'.cell? ⟨C,1,none⟩=some (.int .i64 hi) from (t.cell _).trans z1,show C < w'.heap.size from by rw [t.size];exact hcl]) q (by decide) rfl fun _ q=>?_
 refine st (.bool true) nb rfl rfl rfl (fun _=>by simp [go_sem,q.g 271 rfl,q.g 272 rfl,ev_band,ev_bandg]) q (by decide) rfl fun _ q=>?_
 refine st (.bool true) nb rfl rfl rfl (fun _=>by simp [go_sem,q.g 273 rfl]) q (by decide) rfl fun _ q=>?_
 refine st (.int .i64 c) nb rfl rfl (wanted_g rfl rfl rfl (q.g 274 rfl)) (fun _=>by simp [go_sem,q.g 17 rfl]) q (by decide) rfl fun _ q=>?_
 refine st (.bool x1) nb rfl rfl (wanted_g rfl rfl rfl (q.g 274 rfl)) (fun _=>by simp [go_sem,q.g 275 rfl,h1]) q (by decide) rfl fun _ q=>?_
 refine st (.pointer (some ⟨C,0,none⟩)) nb rfl rfl (wanted_g rfl rfl rfl (q.g 274 rfl)) (fun _=>by simp [go_sem,q.g 24 rfl]) q (by decide) rfl fun _ q=>?_
 refine sr (.int .i64 lo) nb rfl rfl (wanted_g rfl rfl rfl (q.g 274 rfl)) (fun w' t=>by simp [go_sem,q.g 277 rfl,show w'.cell? ⟨C,0,none⟩=some (.int .i64 lo) from (t.cell _).trans z0]) (fun w' t=>by simp [go_sem,q.g 277 rfl,EvOk,show w'.cell? ⟨C,0,none⟩=some (.int .i64 lo) from (t.cell _).trans z0,show C < w'.heap.size from by rw [t.size];exact hcl]) q (by decide) rfl fun _ q=>?_
 refine st (.bool x1) nb rfl rfl (wanted_g rfl rfl rfl (q.g 274 rfl)) (fun _=>by simp [go_sem,q.g 278 rfl,h2]) q (by decide) rfl fun _ q=>?_
 refine st (.bool true) nb rfl rfl (wanted_g rfl rfl rfl (q.g 274 rfl)) (fun _=>by simp [go_sem,q.g 276 rfl,q.g 279 rfl,ev_bools]) q (by decide) rfl fun _ q=>?_
 refine st (.bool true) nb rfl rfl rfl (fun _=>by simp [go_sem,q.g 274 rfl,q.g 280 rfl]) q (by decide) rfl fun _ q=>?_
 refine st (.bool true) nb rfl rfl rfl (fun _=>by simp [go_sem,q.g 281 rfl]) q (by decide) rfl fun _ q=>?_
 refine st (.int .i64 c) nb rfl rfl (wanted_g rfl rfl rfl (q.g 282 rfl)) (fun _=>by simp [go_sem,q.g 17 rfl]) q (by decide) rfl fun _ q=>?_
 refine st (.bool x2) nb rfl rfl (wanted_g rfl rfl rfl (q.g 282 rfl)) (fun _=>by simp [go_sem,q.g 283 rfl,h3]) q (by decide) rfl fun _ q=>?_
 refine st (.pointer (some ⟨C,1,none⟩)) nb rfl rfl (wanted_g rfl rfl rfl (q.g 282 rfl)) (fun _=>by simp [go_sem,q.g 24 rfl]) q (by decide) rfl fun _ q=>?_
 refine sr (.int .i64 hi) nb rfl rfl (wanted_g rfl rfl rfl (q.g 282 rfl)) (fun w' t=>by simp [go_sem,q.g 285 rfl,show w'.cell? ⟨C,1,none⟩=some (.int .i64 hi) from (t.cell _).trans z1]) (fun w' t=>by simp [go_sem,q.g 285 rfl,EvOk,show w'.cell? ⟨C,1,none⟩=some (.int .i64 hi) from (t.cell _).trans z1,show C < w'.heap.size from by rw [t.size];exact hcl]) q (by decide) rfl fun _ q=>?_
 refine st (.bool x2) nb rfl rfl (wanted_g rfl rfl rfl (q.g 282 rfl)) (fun _=>by simp [go_sem,q.g 286 rfl,h4]) q (by decide) rfl fun _ q=>?_
 refine st (.bool true) nb rfl rfl (wanted_g rfl rfl rfl (q.g 282 rfl)) (fun _=>by simp [go_sem,q.g 284 rfl,q.g 287 rfl,ev_bools]) q (by decide) rfl fun _ q=>?_
 refine st (.bool true) nb rfl rfl rfl (fun _=>by simp [go_sem,q.g 282 rfl,q.g 288 rfl]) q (by decide) rfl fun _ q=>?_
 refine st (.bool true) nb rfl rfl rfl (fun _=>by simp [go_sem,q.g 289 rfl]) q (by decide) rfl fun _ q=>?_
 refine st (.slice (some ⟨db,do2,none⟩) dl dc) nb rfl rfl (wanted_g rfl rfl rfl (q.g 290 rfl)) (fun _=>by simp [go_sem,q.g 21 rfl]) q (by decide) rfl fun _ q=>?_
 refine st (.int .i64 (mN:Int)) nb rfl rfl (wanted_g rfl rfl rfl (q.g 290 rfl)) (fun _=>by simp [go_sem,q.g 11 rfl]) q (by decide) rfl fun _ q=>?_
 refine st (.pointer (some ⟨db,do2+mN,none⟩)) nb rfl rfl (wanted_g rfl rfl rfl (q.g 290 rfl)) (fun _=>by simp [go_sem,q.g 291 rfl,q.g 292 rfl,hmd]) q (by decide) rfl fun _ q=>?_
 refine sr (.int .i64 dm) nb rfl rfl (wanted_g rfl rfl rfl (q.g 290 rfl)) (fun w' t=>by simp [go_sem,q.g 293 rfl,show w'.cell? ⟨db,do2+mN,none⟩=some (.int .i64 dm) from (t.cell _).trans hd]) (fun w' t=>by simp [go_sem,q.g 293 rfl,EvOk,show w'.cell? ⟨db,do2+mN,none⟩=some (.int .i64 dm) from (t.cell _).trans hd,show db < w'.heap.size from by rw [t.size];exact hdl]) q (by decide) rfl fun _ q=>?_
 refine st (.bool x3) nb rfl rfl (wanted_g rfl rfl rfl (q.g 290 rfl)) (fun _=>by simp [go_sem,q.g 294 rfl,h5]) q (by decide) rfl fun _ q=>?_
 refine st (.int .i64 (wn:Int)) nb rfl rfl (wanted_g rfl rfl rfl (q.g 290 rfl)) (fun _=>by simp [go_sem,q.g 25 rfl]) q (by decide) rfl fun _ q=>?_
 refine st (.int .i64 (pl:Int)) nb rfl rfl (wanted_g rfl rfl rfl (q.g 290 rfl)) (fun _=>by simp [go_sem,q.g 13 rfl]) q (by decide) rfl fun _ q=>?_
 refine st (.bool x3) nb rfl rfl (wanted_g rfl rfl rfl (q.g 290 rfl)) (fun _=>by simp [go_sem,q.g 296 rfl,q.g 297 rfl,h6]) q (by decide) rfl fun _ q=>?_
 refine st (.bool true) nb rfl rfl (wanted_g rfl rfl rfl (q.g 290 rfl)) (fun _=>by simp [go_sem,q.g 295 rfl,q.g 298 rfl,ev_bools]) q (by decide) rfl fun _ q=>?_
 refine st (.bool true) nb rfl rfl rfl (fun _=>by simp [go_sem,q.g 290 rfl,q.g 299 rfl]) q (by decide) rfl fun _ q=>?_
 refine st (.bool true) nb rfl rfl rfl (fun _=>by simp [go_sem,q.g 300 rfl]) q (by decide) rfl fun _ q=>?_
 refine st (.slice (some ⟨db,do2,none⟩) dl dc) nb rfl rfl (wanted_g rfl rfl rfl (q.g 301 rfl)) (fun _=>by simp [go_sem,q.g 21 rfl]) q (by decide) rfl fun _ q=>?_
 refine st (.int .i64 (mN:Int)) nb rfl rfl (wanted_g rfl rfl rfl (q.g 301 rfl)) (fun _=>by simp [go_sem,q.g 11 rfl]) q (by decide) rfl fun _ q=>?_
 refine st (.pointer (some ⟨db,do2+mN,none⟩)) nb rfl rfl (wanted_g rfl rfl rfl (q.g 301 rfl)) (fun _=>by simp [go_sem,q.g 302 rfl,q.g 303 rfl,hmd]) q (by decide) rfl fun _ q=>?_
 refine sr (.int .i64 dm) nb rfl rfl (wanted_g rfl rfl rfl (q.g 301 rfl)) (fun w' t=>by simp [go_sem,q.g 304 rfl,show w'.cell? ⟨db,do2+mN,none⟩=some (.int .i64 dm) from (t.cell _).trans hd]) (fun w' t=>by simp [go_sem,q.g 304 rfl,EvOk,show w'.cell? ⟨db,do2+mN,none⟩=some (.int .i64 dm) from (t.cell _).trans hd,show db < w'.heap.size from by rw [t.size];exact hdl]) q (by decide) rfl fun _ q=>?_
 refine st (.bool x4) nb rfl rfl (wanted_g rfl rfl rfl (q.g 301 rfl)) (fun _=>by simp [go_sem,q.g 305 rfl,h7]) q (by decide) rfl fun _ q=>?_
 refine st (.int .i64 (wn:Int)) nb rfl rfl (wanted_g rfl rfl rfl (q.g 301 rfl)) (fun _=>by simp [go_sem,q.g 25 rfl]) q (by decide) rfl fun _ q=>?_
 refine st (.bool x4) nb rfl rfl (wanted_g rfl rfl rfl (q.g 301 rfl)) (fun _=>by simp [go_sem,q.g 307 rfl,h8]) q (by decide) rfl fun _ q=>?_
 refine st (.bool true) nb rfl rfl (wanted_g rfl rfl rfl (q.g 301 rfl)) (fun _=>by simp [go_sem,q.g 306 rfl,q.g 308 rfl,ev_bools]) q (by decide) rfl fun _ q=>?_
 refine st (.bool true) nb rfl rfl rfl (fun _=>by simp [go_sem,q.g 301 rfl,q.g 309 rfl]) q (by decide) rfl fun _ q=>?_
 refine st (.bool true) nb rfl rfl rfl (fun _=>by simp [go_sem,q.g 310 rfl]) q (by decide) rfl fun _ q=>?_
 refine sc 14 #[] nb rfl rfl (wanted_g rfl rfl rfl (q.g 311 rfl)) (fun w'=>by simp [go_sem];exact ev_call Tryz.func14 (by kernel_rfl) (by kernel_rfl)) q (by decide) rfl (v:=.bool true) (fun c w' t=>stored_leads hK t _ _) fun _ _ ho q=>?_
 replace hK:=ho.kinds hK
 replace hold:=hold.trans ho
 clear ho
 refine st (.bool true) nb rfl rfl rfl (fun _=>by simp [go_sem,q.g 311 rfl,q.g 312 rfl]) q (by decide) rfl fun _ q=>?_
 refine st (.bool true) nb rfl rfl rfl (fun _=>by simp [go_sem,q.g 313 rfl]) q (by decide) rfl fun _ q=>?_
 refine all_end ?_
 refine all_ret ?_
 intro w' t
 exact .done (re_leaves (q.g 8 rfl) q.df (hold.twin0 t))
theorem re_early2 (hold:Old w0 w) (hK:KindsAt w) {a:Act} (q:Kn a 314 []) {kk:List Item} :
 LeadsA Tryz.prog (Leaving0 Tryz.prog fun v w'=>v=.bool true∧Old w0 w') ((Go.Conc.base 11).at a (.code (cnd (sqr (rp 1)))::kk)) [] w:=by
 have nb:(Go.Conc.base 11).kind=.normal:=rfl
 simp only [rp,sqN,sql,sqr,cnd,Tryz.f11,Option.getD_some]
 refine all_seq ?_
 refine all_region ?_
 simp only [List.size_toArray,List.length_cons,List.length_nil,Nat.reduceAdd,Nat.zero_add,List.range,List.range.loop]
 refine sc 14 #[] nb rfl rfl rfl (fun w'=>by simp [go_sem];exact ev_call Tryz.func14 (by kernel_rfl) (by kernel_rfl)) q (by decide) rfl (v:=.bool true) (fun c w' t=>stored_leads hK t _ _) fun _ _ ho q=>?_
 replace hK:=ho.kinds hK
 replace hold:=hold.trans ho
 clear ho
 refine st (.bool true) nb rfl rfl rfl (fun _=>by simp [go_sem,q.g 47 rfl]) q (by decide) rfl fun _ q=>?_
 refine all_end ?_
 refine all_ret ?_
 intro w' t
 exact .done (re_leaves (q.g 8 rfl) q.df (hold.twin0 t))
theorem re_early14 (hold:Old w0 w) (hK:KindsAt w) {a:Act} (q:Kn a 314 [(15,.slice xa 0 xc),(16,.int .i64 10),(18,.int .i64 10),(20,.int .i64 10),(21,.slice da 0 dc),(22,.int .i64 10)]) {kk:List Item} :
 LeadsA Tryz.prog (Leaving0 Tryz.prog fun v w'=>v=.bool true∧Old w0 w') ((Go.Conc.base 11).at a (.code (cnd (sqr (rp 11)))::kk)) [] w:=by
 have nb:(Go.Conc.base 11).kind=.normal:=rfl
 simp only [rp,sqN,sql,sqr,cnd,Tryz.f11,Option.getD_some]
 refine all_seq ?_
 refine all_region ?_
 simp only [List.size_toArray,List.length_cons,List.length_nil,Nat.reduceAdd,Nat.zero_add,List.range,List.range.loop]
 refine st (.int .i64 10) nb rfl rfl rfl (fun _=>by simp [go_sem,q.g 16 rfl]) q (by decide) rfl fun _ q=>?_
 refine st (.bool true) nb rfl rfl rfl (fun _=>by simp [go_sem,q.g 115 rfl]) q (by decide) rfl fun _ q=>?_
 refine st (.bool true) nb rfl rfl rfl (fun _=>by simp [go_sem,q.g 116 rfl]) q (by decide) rfl fun _ q=>?_
 refine st (.int .i64 10) nb rfl rfl (wanted_g rfl rfl rfl (q.g 117 rfl)) (fun _=>by simp [go_sem,q.g 18 rfl]) q (by decide) rfl fun _ q=>?_
 refine st (.bool true) nb rfl rfl (wanted_g rfl rfl rfl (q.g 117 rfl)) (fun _=>by simp [go_sem,q.g 118 rfl]) q (by decide) rfl fun _ q=>?_
 refine st (.bool true) nb rfl rfl rfl (fun _=>by simp [go_sem,q.g 117 rfl,q.g 119 rfl]) q (by decide) rfl fun _ q=>?_
 refine st (.bool true) nb rfl rfl rfl (fun _=>by simp [go_sem,q.g 120 rfl]) q (by decide) rfl fun _ q=>?_
 refine st (.int .i64 10) nb rfl rfl (wanted_g rfl rfl rfl (q.g 121 rfl)) (fun _=>by simp [go_sem,q.g 20 rfl]) q (by decide) rfl fun _ q=>?_
 refine st (.bool true) nb rfl rfl (wanted_g rfl rfl rfl (q.g 121 rfl)) (fun _=>by simp [go_sem,q.g 122 rfl]) q (by decide) rfl fun _ q=>?_
 refine st (.bool true) nb rfl rfl rfl (fun _=>by simp [go_sem,q.g 121 rfl,q.g 123 rfl]) q (by decide) rfl fun _ q=>?_
 refine st (.bool true) nb rfl rfl rfl (fun _=>by simp [go_sem,q.g 124 rfl]) q (by decide) rfl fun _ q=>?_
 refine st (.int .i64 10) nb rfl rfl (wanted_g rfl rfl rfl (q.g 125 rfl)) (fun _=>by simp [go_sem,q.g 22 rfl]) q (by decide) rfl fun _ q=>?_
 refine st (.bool true) nb rfl rfl (wanted_g rfl rfl rfl (q.g 125 rfl)) (fun _=>by simp [go_sem,q.g 126 rfl]) q (by decide) rfl fun _ q=>?_
 refine st (.bool true) nb rfl rfl rfl (fun _=>by simp [go_sem,q.g 125 rfl,q.g 127 rfl]) q (by decide) rfl fun _ q=>?_
 refine st (.bool true) nb rfl rfl rfl (fun _=>by simp [go_sem,q.g 128 rfl]) q (by decide) rfl fun _ q=>?_
 refine st (.slice xa 0 xc) nb rfl rfl (wanted_g rfl rfl rfl (q.g 129 rfl)) (fun _=>by simp [go_sem,q.g 15 rfl]) q (by decide) rfl fun _ q=>?_
 refine st (.int .i64 0) nb rfl rfl (wanted_g rfl rfl rfl (q.g 129 rfl)) (fun _=>by simp [go_sem,q.g 130 rfl]) q (by decide) rfl fun _ q=>?_
 refine st (.slice da 0 dc) nb rfl rfl (wanted_g rfl rfl rfl (q.g 129 rfl)) (fun _=>by simp [go_sem,q.g 21 rfl]) q (by decide) rfl fun _ q=>?_
 refine st (.int .i64 0) nb rfl rfl (wanted_g rfl rfl rfl (q.g 129 rfl)) (fun _=>by simp [go_sem,q.g 132 rfl]) q (by decide) rfl fun _ q=>?_
 refine st (.int .i64 0) nb rfl rfl (wanted_g rfl rfl rfl (q.g 129 rfl)) (fun _=>by simp [go_sem,q.g 131 rfl,q.g 133 rfl,(show IntKind.i64.wrap 0=0 from rfl)]) q (by decide) rfl fun _ q=>?_
 refine st (.bool true) nb rfl rfl (wanted_g rfl rfl rfl (q.g 129 rfl)) (fun _=>by simp [go_sem,q.g 134 rfl]) q (by decide) rfl fun _ q=>?_
 refine st (.bool true) nb rfl rfl rfl (fun _=>by simp [go_sem,q.g 129 rfl,q.g 135 rfl]) q (by decide) rfl fun _ q=>?_
 refine st (.bool true) nb rfl rfl rfl (fun _=>by simp [go_sem,q.g 136 rfl]) q (by decide) rfl fun _ q=>?_
 refine sc 14 #[] nb rfl rfl (wanted_g rfl rfl rfl (q.g 137 rfl)) (fun w'=>by simp [go_sem];exact ev_call Tryz.func14 (by kernel_rfl) (by kernel_rfl)) q (by decide) rfl (v:=.bool true) (fun c w' t=>stored_leads hK t _ _) fun _ _ ho q=>?_
 replace hK:=ho.kinds hK
 replace hold:=hold.trans ho
 clear ho
 refine st (.bool true) nb rfl rfl rfl (fun _=>by simp [go_sem,q.g 137 rfl,q.g 138 rfl]) q (by decide) rfl fun _ q=>?_
 refine st (.bool true) nb rfl rfl rfl (fun _=>by simp [go_sem,q.g 139 rfl]) q (by decide) rfl fun _ q=>?_
 refine all_end ?_
 refine all_ret ?_
 intro w' t
 exact .done (re_leaves (q.g 8 rfl) q.df (hold.twin0 t))
variable {B pl iN mN pc xc dc P Q C ec wn:Nat} {b:Bk} {s s2 s3 g u c lo hi gr:Int} {vr vg vm vs vc x:Value} {w w0:World} {pa xa da ea:Option Addr} {q dq sn:List Int} {d:Nat→Value}
theorem groupAl_part {b:Bk} {mN:Nat} {g gr:Int} (hm:mN < b.ms.length) (hgr:b.ms[mN].groups=gr) (h0:0≤g) (h1:g < gr):groupAl b ((mN:Int),g)=openAl b 0:=by
 have hp:isPart b ((mN:Int),g)=true:=by
  unfold isPart
  simp only [Int.toNat_natCast,List.getElem?_eq_getElem hm,Option.elim,hgr]
  simp [inB]
  omega
 unfold groupAl
 rw [if_pos hp]
theorem throughAl_in {b:Bk} {iN:Nat} (h:iN < b.ss.length):throughAl b (iN:Int)=openAl b 0:=by
 unfold throughAl throughAsk
 rw [if_pos (by simp [inB];omega)]
def RZ13 (xa da:Option Addr) (xc dc:Nat) (a':Act) (w2:World):Prop:=a'.tmps[114]? = some (.bool true)∧Kn a' 314 [(15,.slice xa 0 xc),(16,.int .i64 10),(18,.int .i64 10),(20,.int .i64 10),(21,.slice da 0 dc),(22,.int .i64 10)]
theorem re_13 (hpl:pl=0):(sql (rp 11)).wp Tryz.prog (PZ w (RZ13 xa da xc dc)) (frA B pl iN mN pc xc dc P Q s s2 s3 10 c vr vg vm vs vc pa xa da [] [] d) w:=by
 simp only [rp,sqN,sql,sqr,cnd,Tryz.f11,Option.getD_some,frA]
 subst hpl
 go_wp2
 exact ⟨rfl,⟨rfl,rfl,rfl,rfl,rfl,rfl,rfl,rfl,rfl,trivial⟩,bel⟩
theorem re_co {w:World} {b:Bk} {s s2 s3:Int} {vr vg vm vs vc:Value} (hR:RawAt w b vr vg vm vs vc) (hK:KindsAt w) (hs0:0≤s) (hs1:s≤255) (ht0:0≤s2) (ht1:s2≤255) (hv0:0≤s3) (hv1:s3≤255) :
 Leads Tryz.prog (Leaving0 Tryz.prog fun v w'=>v=.bool true∧Old w w') (Frame.enter Tryz.prog 11 #[.agg #[vr,vg,vm,vs,vc],.int .u8 s,.int .u8 s2,.int .u8 s3] .normal) [] w:=by
 have hok:=progOk.code _ _ Tryz.func11 _ reBody_eq
 simp only [codeOk,Bool.and_eq_true] at hok
 obtain ⟨k0,k1,k2,k3,k4,k5,k6,k7,k8,k9,k10,k11,k12,k13,k14,k15,k16,k17,k18,_⟩:=hok
 have k1':=k1
 have k11':=k11
 rw [rp1_eq] at k1'
 rw [rp11_eq] at k11'
 simp only [codeOk,Bool.and_eq_true] at k1' k11'
 rw [reFrame reBody_eq]
 have nb:(Go.Conc.base 11).kind=.normal:=rfl
 have nd:MarksOnly []:=fun d hd=>by cases hd
 refine piece_step k0 nb nd (Z:=RZ0 b s s2 s3 vr vg vm vs vc) (fun a w1 w2 ht h=>by obtain ⟨B,x,h1,h2⟩:=h;exact ⟨B,x,h1,h2.twin ht⟩) (fun W hW=>re_0 (hW.raw hR) (hW.kinds hK)) fun a0 w0 hz ho0=>?_
 obtain ⟨B,x0,⟨d0,rfl⟩,hE⟩:=hz
 obtain ⟨x,hx⟩:∃ x:Bool,(x=true↔¬ ((SmallB b∧bookAl b=0)∧b.ss≠[]∧b.ms≠[])):=by
  by_cases h:((SmallB b∧bookAl b=0)∧b.ss≠[]∧b.ms≠[])
  ·exact ⟨false,by simp only [Bool.false_eq_true,false_iff];exact fun h2=>h2 h⟩
  ·exact ⟨true,by simp only [true_iff];exact h⟩
 refine leads_seq fun d=>?_
 rw [rp1_eq]
 have hE:=hE.twin (on_at w0 d)
 have ho0:=ho0.at d
 refine piece_step k1'.1 nb nd (Z:=RZ1 B s s2 s3 vr vg vm vs vc x) (fun a w1 w2 ht h=>h) (fun W hW=>re_1 (hE.twin hW) hx) fun a1 w1 hz ho=>?_
 obtain ⟨d1,rfl⟩:=hz
 have hE:=hE.old ho
 have ho1:=ho0.trans ho
 clear ho
 cases x with
 | true =>
  refine leads_cond (t:=true) (by simp [go_sem,frG]) fun da=>?_
  simp only [if_true]
  exact (re_early2 (ho1.at da) ((on_at w1 da).kinds hE.kd) ⟨rfl,rfl,trivial⟩).here
 | false =>
  obtain ⟨hS,hss,hms⟩:((SmallB b∧bookAl b=0)∧b.ss≠[]∧b.ms≠[]):=Classical.byContradiction fun h=>by have:=hx.2 h;cases this
  have hn:=List.length_pos_iff.2 hss
  have hm:=List.length_pos_iff.2 hms
  refine leads_cond (t:=false) (by simp [go_sem,frG]) fun dd=>?_
  simp only [Bool.false_eq_true,if_false]
  refine leads_skip fun dd2=>?_
  have hE:=(hE.twin (on_at w1 dd)).twin (on_at (w1.at dd) dd2)
  have ho1:=(ho1.at dd).at dd2
  generalize (w1.at dd).at dd2=w2 at hE ho1
  have ho2:=ho1
  clear ho1
  have hi0:0≤s % (b.ss.length:Int):=Int.emod_nonneg _ (by omega)
  have hi1:s % (b.ss.length:Int) < (b.ss.length:Int):=Int.emod_lt_of_pos _ (by omega)
  have hj0:0≤s2 % (b.ms.length:Int):=Int.emod_nonneg _ (by omega)
  have hj1:s2 % (b.ms.length:Int) < (b.ms.length:Int):=Int.emod_lt_of_pos _ (by omega)
  obtain ⟨iN,hiN⟩:∃ iN:Nat,s % (b.ss.length:Int)=(iN:Int):=⟨_,(Int.toNat_of_nonneg hi0).symm⟩
  obtain ⟨mN,hmN⟩:∃ mN:Nat,s2 % (b.ms.length:Int)=(mN:Int):=⟨_,(Int.toNat_of_nonneg hj0).symm⟩
  have hil:iN < b.ss.length:=by omega
  have hml:mN < b.ms.length:=by omega
  obtain ⟨gr,hgr⟩:∃ gr,b.ms[mN].groups=gr:=⟨_,rfl⟩
  obtain ⟨hg1,hg4⟩:=groups_pos hS.2 _ (List.getElem_mem hml)
  rw [hgr] at hg1 hg4
  obtain ⟨g,hg⟩:∃ g,s3 % gr=g:=⟨_,rfl⟩
  have hgz:0≤g:=by rw [← hg];exact Int.emod_nonneg _ (by omega)
  have hgl:g < gr:=by rw [← hg];exact Int.emod_lt_of_pos _ (by omega)
  have hga:=groupAl_part hml hgr hgz hgl
  have hta:=throughAl_in hil
  have hop:openAl b 0=if pasts b=[] then 10 else 0:=by unfold openAl;rw [if_neg (by simp [hS.2]),if_neg (by simp)]
  by_cases hp:pasts b=[]
  ·rw [if_pos hp] at hop
   rw [hop] at hga hta
   have e1:thr b (iN:Int)=[]:=by unfold thr;rw [if_neg (by rw [hta];decide)]
   have e2:cameQ b ((mN:Int),g)=0:=by unfold cameQ;rw [if_neg (by rw [hga];decide)]
   have e3:loQ b ((mN:Int),g)=0:=by unfold loQ;rw [if_neg (by rw [hga];decide)]
   have e4:hiQ b ((mN:Int),g)=0:=by unfold hiQ;rw [if_neg (by rw [hga];decide)]
   have e5:delQ b=[]:=by unfold delQ;rw [if_neg (by rw [hop];decide)]
   have e6:(pasts b).length=0:=by rw [hp];rfl
   refine pieces_co [rp 2,rp 3,rp 4,rp 5,rp 6,rp 7,rp 8,rp 9,rp 10] (by simp [k2,k3,k4,k5,k6,k7,k8,k9,k10]) nb rfl (Z:=RZA B 0 iN mN s s2 s3 vr vg vm vs vc b g 10 0 0 0 [] []) (fun a w1 w2 ht h=>by obtain ⟨pa,pc,xa,xc,da,dc,P,Q,h1,h2⟩:=h;exact ⟨pa,pc,xa,xc,da,dc,P,Q,h1,h2.twin ht⟩) (fun W hW=>re_A (hE.twin hW) hS.1 hS.2 e6 hn hm hs0 hs1 ht0 ht1 hv0 hv1 hiN hmN hml hgr hg1 hg4 hg e1 hta e2 hga e3 e4 e5 hop) fun a3 w3 hz ho=>?_
   obtain ⟨pa,pc,xa,xc,da,dc,P,Q,⟨dA,rfl⟩,hR3⟩:=hz
   have ho3:=ho2.trans ho
   refine leads_seq fun d=>?_
   rw [rp11_eq]
   refine piece_step k11'.1 nb nd (Z:=RZ13 xa da xc dc) (fun a w1 w2 ht h=>h) (fun W hW=>re_13 rfl) fun a5 w5 hz ho5=>?_
   have ho5':=(ho3.at d).trans ho5
   have hk5:=(((hR3.law.twin (on_at w3 d)).old ho5)).kd
   refine leads_cond (t:=true) (by simp [go_sem,hz.1]) fun da2=>?_
   simp only [if_true]
   exact (re_early14 (xa:=xa) (xc:=xc) (da:=da) (dc:=dc) (ho5'.at da2) ((on_at w5 da2).kinds hk5) hz.2).here
  ·rw [if_neg hp] at hop
   rw [hop] at hga hta
   have hpos:0 < (pasts b).length:=List.length_pos_iff.2 hp
   obtain ⟨pl,hpl⟩:∃ pl,(pasts b).length=pl:=⟨_,rfl⟩
   obtain ⟨q,hq⟩:∃ q,thr b (iN:Int)=q:=⟨_,rfl⟩
   have hqa:=thr_asc hta
   have hqm:=thr_mem hta
   have hql:=thr_len (s:=(iN:Int)) hS.1.2.2.2.2
   rw [hq] at hqa hqm hql
   have hqs:∀ x,x∈q↔x∈seenK b iN pl:=fun x=>by rw [hqm x,← hpl,seenK_all,Int.toNat_natCast]
   have e2:cameQ b ((mN:Int),g)=sayI (countI (oftenI b (pasts b) ((mN:Int),g)) 1) (pasts b).length:=by unfold cameQ;rw [if_pos hga]
   have e3:loQ b ((mN:Int),g)=loI b ((mN:Int),g):=by unfold loQ;rw [if_pos hga]
   have e4:hiQ b ((mN:Int),g)=hiI b ((mN:Int),g):=by unfold hiQ;rw [if_pos hga]
   have e5:delQ b=deliveredI b:=by unfold delQ;rw [if_pos hop]
   have hdl:(deliveredI b).length=b.ms.length:=deliveredTo_length b _
   refine pieces_co [rp 2,rp 3,rp 4,rp 5,rp 6,rp 7,rp 8,rp 9,rp 10] (by simp [k2,k3,k4,k5,k6,k7,k8,k9,k10]) nb rfl (Z:=RZA B pl iN mN s s2 s3 vr vg vm vs vc b g 0 (cameQ b ((mN:Int),g)) (loI b ((mN:Int),g)) (hiI b ((mN:Int),g)) q (deliveredI b)) (fun a w1 w2 ht h=>by obtain ⟨pa,pc,xa,xc,da,dc,P,Q,h1,h2⟩:=h;exact ⟨pa,pc,xa,xc,da,dc,P,Q,h1,h2.twin ht⟩) (fun W hW=>re_A (hE.twin hW) hS.1 hS.2 hpl hn hm hs0 hs1 ht0 ht1 hv0 hv1 hiN hmN hml hgr hg1 hg4 hg hq hta rfl hga e3 e4 e5 hop) fun a3 w3 hz ho=>?_
   obtain ⟨pa,pc,xa,xc,da,dc,P,Q,⟨dA,rfl⟩,hR3⟩:=hz
   have ho3:=ho2.trans ho
   clear ho ho2
   refine pieces_co [rp 11,rp 12,rp 13,rp 14,rp 15,rp 16,rp 17,rp 18] (by simp [k11,k12,k13,k14,k15,k16,k17,k18]) nb rfl (Z:=RZB pl mN b g (cameQ b ((mN:Int),g)) (loI b ((mN:Int),g)) (hiI b ((mN:Int),g)) (deliveredI b)) (fun a w1 w2 ht h=>by obtain ⟨da,dc,Q,C,h1,h2,h3,h4,h5,h6,h7⟩:=h;exact ⟨da,dc,Q,C,h1,ht.ints h2,ht.kinds h3,(ht.cell _).trans h4,(ht.cell _).trans h5,(ht.cell _).trans h6,(ht.cell _).trans h7⟩) (fun W hW=>re_B (hR3.twin hW) hS.1 hS.2 hpl (by omega) hil hml hdl hqa hql hqs) fun a7 w7 hz ho=>?_
   obtain ⟨da,dc,Q,C,hq7,h2,h3,h4,h5,h6,h7⟩:=hz
   obtain ⟨db,do2,rfl,hdb,hd⟩:=h2 mN (by omega)
   rw [delivered_at2 (by omega)] at hd
   have elo:lowS b ((mN:Int),g) pl=loI b ((mN:Int),g):=by unfold lowS;rw [if_neg (by omega),← hpl];exact (lowK_all b _).1
   have ehi:topS b ((mN:Int),g) pl=hiI b ((mN:Int),g):=by unfold topS;rw [if_neg (by omega),← hpl];exact (lowK_all b _).2
   rw [elo] at h6
   rw [ehi] at h7
   have hne:oftenI b (pasts b) ((mN:Int),g)≠[]:=fun e=>by have:=often_len b (pasts b) ((mN:Int),g);rw [e] at this;simp at this;omega
   obtain ⟨c1,c2⟩:=came_band hne (fun y hy=>by obtain ⟨x,_,rfl⟩:=List.mem_map.1 hy;exact copies_nn b x _)
   rw [often_len,← e2,← loI_all] at c1
   rw [often_len,← e2,← hiI_all] at c2
   obtain ⟨w1',w2'⟩:=whole_say (s:=wholeI b (pasts b) mN) (n:=((pasts b).length:Int)) (by omega)
   have hwe:=wholeK_all b mN
   rw [hpl] at hwe
   rw [← hwe,hpl] at w1' w2' hd
   exact (re_tail (dm:=sayI ((wholeK b mN pl:Nat):Int) (pl:Int)) (x1:=decide (0 < loI b ((mN:Int),g))) (x2:=(hiI b ((mN:Int),g) == 0)) (x3:=(((wholeK b mN pl:Nat):Int) == (pl:Int))) (x4:=(((wholeK b mN pl:Nat):Int) == 0)) (ho3.trans ho) h3 (by omega) h4 h5 h6 h7 hd (by rw [Bool.eq_iff_iff,beq_iff_eq,decide_eq_true_iff];exact c1) rfl (by rw [Bool.eq_iff_iff,beq_iff_eq,beq_iff_eq];exact c2) rfl (by rw [Bool.eq_iff_iff,beq_iff_eq,beq_iff_eq];exact w1') rfl (by rw [Bool.eq_iff_iff,beq_iff_eq,beq_iff_eq];exact w2') rfl hq7).here
end Go.Proofs.YtgemjjdkjmpmlaaGreatDoor
