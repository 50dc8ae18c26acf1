/- Leads to StoreEarlier of chapter 6: ER5 ER6 U14. -/
import Derived.Test.YtgemjjdkjmpmlaaGreatDoorER01
set_option maxHeartbeats 16000000
set_option maxRecDepth 100000
set_option linter.all false
namespace Go.Proofs.YtgemjjdkjmpmlaaGreatDoor
open Go.RowKit Go.Maps Sp Mt Go.Conc
variable {B lc oc kc ln mn xc yc en:Nat} {b:Bk} {s s2 t v u lt:Int} {fd is was sm:Bool} {vr vg vm vs vc x:Value} {w w0:World} {la oa ka xa ya:Option Addr} {ks ot o:List Int} {l:List Prt} {d:Nat→Value}
theorem er_leaves {a:Act} {k:List Item} (g6:a.tmps[8]? = some (.bool true)) (df:a.defers=[]) (h:Old w0 w) :
 Leaving0 Tryz.prog (fun v w'=>v=.bool true∧Old w0 w') { (Go.Conc.base 9).at a k with mode:=.returning } [] w:=by
 refine ⟨rfl,rfl,rfl,df,by kernel_rfl,.bool true,_,Tryz.func9,fun d=>⟨⟨rfl,h.at d⟩,#[],?_,by simp⟩⟩
 rw [Sem.runT_eq]
 refine Prod.ext ?_ ?_ <;> simp [results,Tryz.results9,go_sem,Frame.at,Go.Conc.base,g6]
theorem erFrame {c:Code} {x0 x1 x2 x3:Value} (hc:Tryz.f9.body=some c):Frame.enter Tryz.prog 9 #[x0,x1,x2,x3] .normal=(Go.Conc.base 9).at (eI x0 x1 x2 x3 fun _=>undef) [.code c]:=by
 rw [Go.Conc.enter_at #[x0,x1,x2,x3] Tryz.func9 hc]
 simp only [Tryz.ntmps9,eI,List.size_toArray,List.length_cons,List.length_nil,Nat.reduceAdd,Nat.reduceSub,Array.replicate_succ,Array.replicate_zero,List.push_toArray,List.append_toArray,List.nil_append,List.cons_append]
theorem er_early2 (hold:Old w0 w) (hK:KindsAt w)  {a:Act} (q:Kn a 181 []) {kk:List Item} :
 LeadsA Tryz.prog (Leaving0 Tryz.prog fun v w'=>v=.bool true∧Old w0 w') ((Go.Conc.base 9).at a (.code (cnd (sqr (er 1)))::kk)) [] w:=by
 have nb:(Go.Conc.base 9).kind=.normal:=rfl
 simp only [er,sqN,sql,sqr,cnd,blk,lpc,Tryz.f9,Option.getD_some]
 refine all_seq ?_
 refine all_region ?_
 simp only [List.size_toArray,List.length_cons,List.length_nil,Nat.reduceAdd,Nat.zero_add,List.range,List.range.loop]
 refine sc 14 #[] nb rfl rfl rfl (fun w'=>by simp [go_sem];exact ev_call Tryz.func14 (by kernel_rfl) (by kernel_rfl)) q (by decide) rfl (v:=.bool true) (fun c w' t=>stored_lead2 hK t _ _) fun _ _ ho q=>?_
 replace hK:=ho.kinds hK
 replace hold:=hold.trans ho
 clear ho
 refine st (.bool true) nb rfl rfl rfl (fun _=>by simp [go_sem,q.g 32 rfl]) q (by decide) rfl fun _ q=>?_
 refine all_end ?_
 refine all_ret ?_
 intro w' t
 exact .done (er_leaves (q.g 8 rfl) q.df (hold.twin0 t))
theorem er_early7 (hold:Old w0 w) (hK:KindsAt w)  {a:Act} (q:Kn a 181 [(12,.int .i64 10)]) {kk:List Item} :
 LeadsA Tryz.prog (Leaving0 Tryz.prog fun v w'=>v=.bool true∧Old w0 w') ((Go.Conc.base 9).at a (.code (cnd (sqr (er 5)))::kk)) [] w:=by
 have nb:(Go.Conc.base 9).kind=.normal:=rfl
 simp only [er,sqN,sql,sqr,cnd,blk,lpc,Tryz.f9,Option.getD_some]
 refine all_seq ?_
 refine all_region ?_
 simp only [List.size_toArray,List.length_cons,List.length_nil,Nat.reduceAdd,Nat.zero_add,List.range,List.range.loop]
 refine st (.int .i64 10) nb rfl rfl rfl (fun _=>by simp [go_sem,q.g 12 rfl]) q (by decide) rfl fun _ q=>?_
 refine st (.bool true) nb rfl rfl rfl (fun _=>by simp [go_sem,q.g 50 rfl]) q (by decide) rfl fun _ q=>?_
 refine st (.bool true) nb rfl rfl rfl (fun _=>by simp [go_sem,q.g 51 rfl]) q (by decide) rfl fun _ q=>?_
 refine sc 14 #[] nb rfl rfl (wanted_g rfl rfl rfl (q.g 52 rfl)) (fun w'=>by simp [go_sem];exact ev_call Tryz.func14 (by kernel_rfl) (by kernel_rfl)) q (by decide) rfl (v:=.bool true) (fun c w' t=>stored_lead2 hK t _ _) fun _ _ ho q=>?_
 replace hK:=ho.kinds hK
 replace hold:=hold.trans ho
 clear ho
 refine st (.bool true) nb rfl rfl rfl (fun _=>by simp [go_sem,q.g 52 rfl,q.g 53 rfl]) q (by decide) rfl fun _ q=>?_
 refine st (.bool true) nb rfl rfl rfl (fun _=>by simp [go_sem,q.g 54 rfl]) q (by decide) rfl fun _ q=>?_
 refine all_end ?_
 refine all_ret ?_
 intro w' t
 exact .done (er_leaves (q.g 8 rfl) q.df (hold.twin0 t))
theorem ev_bool2 (d:Nat) (a b:Bool) (w:World) (es:Array Event):Sem.events Tryz.prog (Op.equalIn (d+1) 4 (.bool a) (.bool b)) w es=es:=by
 unfold Op.equalIn
 simp [go_sem]
theorem ev_bools2 (a b:Bool) (w:World) (es:Array Event):Sem.events Tryz.prog (binOp BinOp.eql 4 (.bool a) (.bool b)) w es=es:=by
 show Sem.events Tryz.prog (Op.equalIn (9999+1) 4 (.bool a) (.bool b) >>= fun x=>(pure (Value.bool x):Sem Value)) w es=es
 rw [Sem.events_bind,ev_bool2]
 cases (Op.equalIn (9999+1) 4 (.bool a) (.bool b)).run Tryz.prog w <;> rfl
theorem er_lastT0 (hold:Old w0 w) (hK:KindsAt w) (h1:t≤lt) {a:Act} (q:Kn a 181 [(9,.int .i64 t),(18,.bool false),(20,.bool was),(23,.bool true),(25,.int .i64 lt),(26,.bool true)]) :
 LeadsA Tryz.prog (Leaving0 Tryz.prog fun v w'=>v=.bool true∧Old w0 w') ((Go.Conc.base 9).at a [.code (.seq (er 16) .ret)]) [] w:=by
 have nb:(Go.Conc.base 9).kind=.normal:=rfl
 simp only [er,sqN,sql,sqr,cnd,blk,lpc,Tryz.f9,Option.getD_some]
 refine all_seq ?_
 refine all_region ?_
 simp only [List.size_toArray,List.length_cons,List.length_nil,Nat.reduceAdd,Nat.zero_add,List.range,List.range.loop]
 refine st (.bool false) nb rfl rfl rfl (fun _=>by simp [go_sem,q.g 18 rfl]) q (by decide) rfl fun _ q=>?_
 refine st (.bool true) nb rfl rfl rfl (fun _=>by simp [go_sem,q.g 163 rfl]) q (by decide) rfl fun _ q=>?_
 refine st (.bool true) nb rfl rfl rfl (fun _=>by simp [go_sem,q.g 164 rfl]) q (by decide) rfl fun _ q=>?_
 refine sk rfl rfl (unwanted_g rfl rfl rfl (q.g 165 rfl)) q (by decide) rfl fun _ q=>?_
 refine st (.bool true) nb rfl rfl rfl (fun _=>by simp [go_sem,q.g 165 rfl,q.g 166 rfl]) q (by decide) rfl fun _ q=>?_
 refine st (.bool true) nb rfl rfl rfl (fun _=>by simp [go_sem,q.g 167 rfl]) q (by decide) rfl fun _ q=>?_
 refine st (.bool true) nb rfl rfl (wanted_g rfl rfl rfl (q.g 168 rfl)) (fun _=>by simp [go_sem,q.g 23 rfl]) q (by decide) rfl fun _ q=>?_
 refine st (.bool true) nb rfl rfl (wanted_g rfl rfl rfl (q.g 168 rfl)) (fun _=>by simp [go_sem,q.g 26 rfl]) q (by decide) rfl fun _ q=>?_
 refine st (.bool true) nb rfl rfl (wanted_g rfl rfl rfl (q.g 168 rfl)) (fun _=>by simp [go_sem,q.g 170 rfl]) q (by decide) rfl fun _ q=>?_
 refine st (.int .i64 t) nb rfl rfl (wanted_g rfl rfl rfl (q.g 171 rfl)) (fun _=>by simp [go_sem,q.g 9 rfl]) q (by decide) rfl fun _ q=>?_
 refine st (.int .i64 lt) nb rfl rfl (wanted_g rfl rfl rfl (q.g 171 rfl)) (fun _=>by simp [go_sem,q.g 25 rfl]) q (by decide) rfl fun _ q=>?_
 refine st (.bool true) nb rfl rfl (wanted_g rfl rfl rfl (q.g 171 rfl)) (fun _=>by simp [go_sem,q.g 172 rfl,q.g 173 rfl,h1]) q (by decide) rfl fun _ q=>?_
 refine st (.bool true) nb rfl rfl (wanted_g rfl rfl rfl (q.g 168 rfl)) (fun _=>by simp [go_sem,q.g 171 rfl,q.g 174 rfl]) q (by decide) rfl fun _ q=>?_
 refine st (.bool true) nb rfl rfl (wanted_g rfl rfl rfl (q.g 168 rfl)) (fun _=>by simp [go_sem,q.g 169 rfl,q.g 175 rfl,ev_bools2]) q (by decide) rfl fun _ q=>?_
 refine st (.bool true) nb rfl rfl rfl (fun _=>by simp [go_sem,q.g 168 rfl,q.g 176 rfl]) q (by decide) rfl fun _ q=>?_
 refine st (.bool true) nb rfl rfl rfl (fun _=>by simp [go_sem,q.g 177 rfl]) q (by decide) rfl fun _ q=>?_
 refine sc 14 #[] nb rfl rfl (wanted_g rfl rfl rfl (q.g 178 rfl)) (fun w'=>by simp [go_sem];exact ev_call Tryz.func14 (by kernel_rfl) (by kernel_rfl)) q (by decide) rfl (v:=.bool true) (fun c w' t=>stored_lead2 hK t _ _) fun _ _ ho q=>?_
 replace hK:=ho.kinds hK
 replace hold:=hold.trans ho
 clear ho
 refine st (.bool true) nb rfl rfl rfl (fun _=>by simp [go_sem,q.g 178 rfl,q.g 179 rfl]) q (by decide) rfl fun _ q=>?_
 refine st (.bool true) nb rfl rfl rfl (fun _=>by simp [go_sem,q.g 180 rfl]) q (by decide) rfl fun _ q=>?_
 refine all_end ?_
 refine all_ret ?_
 intro w' t
 exact .done (er_leaves (q.g 8 rfl) q.df (hold.twin0 t))
theorem er_lastF0 (hold:Old w0 w) (hK:KindsAt w) (h1:¬ t≤lt) {a:Act} (q:Kn a 181 [(9,.int .i64 t),(18,.bool false),(20,.bool was),(23,.bool false),(25,.int .i64 lt),(26,.bool true)]) :
 LeadsA Tryz.prog (Leaving0 Tryz.prog fun v w'=>v=.bool true∧Old w0 w') ((Go.Conc.base 9).at a [.code (.seq (er 16) .ret)]) [] w:=by
 have nb:(Go.Conc.base 9).kind=.normal:=rfl
 simp only [er,sqN,sql,sqr,cnd,blk,lpc,Tryz.f9,Option.getD_some]
 refine all_seq ?_
 refine all_region ?_
 simp only [List.size_toArray,List.length_cons,List.length_nil,Nat.reduceAdd,Nat.zero_add,List.range,List.range.loop]
 refine st (.bool false) nb rfl rfl rfl (fun _=>by simp [go_sem,q.g 18 rfl]) q (by decide) rfl fun _ q=>?_
 refine st (.bool true) nb rfl rfl rfl (fun _=>by simp [go_sem,q.g 163 rfl]) q (by decide) rfl fun _ q=>?_
 refine st (.bool true) nb rfl rfl rfl (fun _=>by simp [go_sem,q.g 164 rfl]) q (by decide) rfl fun _ q=>?_
 refine sk rfl rfl (unwanted_g rfl rfl rfl (q.g 165 rfl)) q (by decide) rfl fun _ q=>?_
 refine st (.bool true) nb rfl rfl rfl (fun _=>by simp [go_sem,q.g 165 rfl,q.g 166 rfl]) q (by decide) rfl fun _ q=>?_
 refine st (.bool true) nb rfl rfl rfl (fun _=>by simp [go_sem,q.g 167 rfl]) q (by decide) rfl fun _ q=>?_
 refine st (.bool false) nb rfl rfl (wanted_g rfl rfl rfl (q.g 168 rfl)) (fun _=>by simp [go_sem,q.g 23 rfl]) q (by decide) rfl fun _ q=>?_
 refine st (.bool true) nb rfl rfl (wanted_g rfl rfl rfl (q.g 168 rfl)) (fun _=>by simp [go_sem,q.g 26 rfl]) q (by decide) rfl fun _ q=>?_
 refine st (.bool true) nb rfl rfl (wanted_g rfl rfl rfl (q.g 168 rfl)) (fun _=>by simp [go_sem,q.g 170 rfl]) q (by decide) rfl fun _ q=>?_
 refine st (.int .i64 t) nb rfl rfl (wanted_g rfl rfl rfl (q.g 171 rfl)) (fun _=>by simp [go_sem,q.g 9 rfl]) q (by decide) rfl fun _ q=>?_
 refine st (.int .i64 lt) nb rfl rfl (wanted_g rfl rfl rfl (q.g 171 rfl)) (fun _=>by simp [go_sem,q.g 25 rfl]) q (by decide) rfl fun _ q=>?_
 refine st (.bool false) nb rfl rfl (wanted_g rfl rfl rfl (q.g 171 rfl)) (fun _=>by simp [go_sem,q.g 172 rfl,q.g 173 rfl,h1]) q (by decide) rfl fun _ q=>?_
 refine st (.bool false) nb rfl rfl (wanted_g rfl rfl rfl (q.g 168 rfl)) (fun _=>by simp [go_sem,q.g 171 rfl,q.g 174 rfl]) q (by decide) rfl fun _ q=>?_
 refine st (.bool true) nb rfl rfl (wanted_g rfl rfl rfl (q.g 168 rfl)) (fun _=>by simp [go_sem,q.g 169 rfl,q.g 175 rfl,ev_bools2]) q (by decide) rfl fun _ q=>?_
 refine st (.bool true) nb rfl rfl rfl (fun _=>by simp [go_sem,q.g 168 rfl,q.g 176 rfl]) q (by decide) rfl fun _ q=>?_
 refine st (.bool true) nb rfl rfl rfl (fun _=>by simp [go_sem,q.g 177 rfl]) q (by decide) rfl fun _ q=>?_
 refine sc 14 #[] nb rfl rfl (wanted_g rfl rfl rfl (q.g 178 rfl)) (fun w'=>by simp [go_sem];exact ev_call Tryz.func14 (by kernel_rfl) (by kernel_rfl)) q (by decide) rfl (v:=.bool true) (fun c w' t=>stored_lead2 hK t _ _) fun _ _ ho q=>?_
 replace hK:=ho.kinds hK
 replace hold:=hold.trans ho
 clear ho
 refine st (.bool true) nb rfl rfl rfl (fun _=>by simp [go_sem,q.g 178 rfl,q.g 179 rfl]) q (by decide) rfl fun _ q=>?_
 refine st (.bool true) nb rfl rfl rfl (fun _=>by simp [go_sem,q.g 180 rfl]) q (by decide) rfl fun _ q=>?_
 refine all_end ?_
 refine all_ret ?_
 intro w' t
 exact .done (er_leaves (q.g 8 rfl) q.df (hold.twin0 t))
theorem er_none0 (hold:Old w0 w) (hK:KindsAt w)  {a:Act} (q:Kn a 181 [(9,.int .i64 t),(18,.bool false),(20,.bool was),(23,.bool false),(25,.int .i64 lt),(26,.bool false)]) :
 LeadsA Tryz.prog (Leaving0 Tryz.prog fun v w'=>v=.bool true∧Old w0 w') ((Go.Conc.base 9).at a [.code (.seq (er 16) .ret)]) [] w:=by
 have nb:(Go.Conc.base 9).kind=.normal:=rfl
 simp only [er,sqN,sql,sqr,cnd,blk,lpc,Tryz.f9,Option.getD_some]
 refine all_seq ?_
 refine all_region ?_
 simp only [List.size_toArray,List.length_cons,List.length_nil,Nat.reduceAdd,Nat.zero_add,List.range,List.range.loop]
 refine st (.bool false) nb rfl rfl rfl (fun _=>by simp [go_sem,q.g 18 rfl]) q (by decide) rfl fun _ q=>?_
 refine st (.bool true) nb rfl rfl rfl (fun _=>by simp [go_sem,q.g 163 rfl]) q (by decide) rfl fun _ q=>?_
 refine st (.bool true) nb rfl rfl rfl (fun _=>by simp [go_sem,q.g 164 rfl]) q (by decide) rfl fun _ q=>?_
 refine sk rfl rfl (unwanted_g rfl rfl rfl (q.g 165 rfl)) q (by decide) rfl fun _ q=>?_
 refine st (.bool true) nb rfl rfl rfl (fun _=>by simp [go_sem,q.g 165 rfl,q.g 166 rfl]) q (by decide) rfl fun _ q=>?_
 refine st (.bool true) nb rfl rfl rfl (fun _=>by simp [go_sem,q.g 167 rfl]) q (by decide) rfl fun _ q=>?_
 refine st (.bool false) nb rfl rfl (wanted_g rfl rfl rfl (q.g 168 rfl)) (fun _=>by simp [go_sem,q.g 23 rfl]) q (by decide) rfl fun _ q=>?_
 refine st (.bool false) nb rfl rfl (wanted_g rfl rfl rfl (q.g 168 rfl)) (fun _=>by simp [go_sem,q.g 26 rfl]) q (by decide) rfl fun _ q=>?_
 refine st (.bool false) nb rfl rfl (wanted_g rfl rfl rfl (q.g 168 rfl)) (fun _=>by simp [go_sem,q.g 170 rfl]) q (by decide) rfl fun _ q=>?_
 refine sk rfl rfl (unwanted_g rfl rfl rfl (q.g 171 rfl)) q (by decide) rfl fun _ q=>?_
 refine sk rfl rfl (unwanted_g rfl rfl rfl (q.g 171 rfl)) q (by decide) rfl fun _ q=>?_
 refine sk rfl rfl (unwanted_g rfl rfl rfl (q.g 171 rfl)) q (by decide) rfl fun _ q=>?_
 refine st (.bool false) nb rfl rfl (wanted_g rfl rfl rfl (q.g 168 rfl)) (fun _=>by simp [go_sem,q.g 171 rfl,q.g 174 rfl]) q (by decide) rfl fun _ q=>?_
 refine st (.bool true) nb rfl rfl (wanted_g rfl rfl rfl (q.g 168 rfl)) (fun _=>by simp [go_sem,q.g 169 rfl,q.g 175 rfl,ev_bools2]) q (by decide) rfl fun _ q=>?_
 refine st (.bool true) nb rfl rfl rfl (fun _=>by simp [go_sem,q.g 168 rfl,q.g 176 rfl]) q (by decide) rfl fun _ q=>?_
 refine st (.bool true) nb rfl rfl rfl (fun _=>by simp [go_sem,q.g 177 rfl]) q (by decide) rfl fun _ q=>?_
 refine sc 14 #[] nb rfl rfl (wanted_g rfl rfl rfl (q.g 178 rfl)) (fun w'=>by simp [go_sem];exact ev_call Tryz.func14 (by kernel_rfl) (by kernel_rfl)) q (by decide) rfl (v:=.bool true) (fun c w' t=>stored_lead2 hK t _ _) fun _ _ ho q=>?_
 replace hK:=ho.kinds hK
 replace hold:=hold.trans ho
 clear ho
 refine st (.bool true) nb rfl rfl rfl (fun _=>by simp [go_sem,q.g 178 rfl,q.g 179 rfl]) q (by decide) rfl fun _ q=>?_
 refine st (.bool true) nb rfl rfl rfl (fun _=>by simp [go_sem,q.g 180 rfl]) q (by decide) rfl fun _ q=>?_
 refine all_end ?_
 refine all_ret ?_
 intro w' t
 exact .done (er_leaves (q.g 8 rfl) q.df (hold.twin0 t))
theorem er_lastT1 (hold:Old w0 w) (hK:KindsAt w) (h1:t≤lt) {a:Act} (q:Kn a 181 [(9,.int .i64 t),(18,.bool true),(20,.bool true),(23,.bool true),(25,.int .i64 lt),(26,.bool true)]) :
 LeadsA Tryz.prog (Leaving0 Tryz.prog fun v w'=>v=.bool true∧Old w0 w') ((Go.Conc.base 9).at a [.code (.seq (er 16) .ret)]) [] w:=by
 have nb:(Go.Conc.base 9).kind=.normal:=rfl
 simp only [er,sqN,sql,sqr,cnd,blk,lpc,Tryz.f9,Option.getD_some]
 refine all_seq ?_
 refine all_region ?_
 simp only [List.size_toArray,List.length_cons,List.length_nil,Nat.reduceAdd,Nat.zero_add,List.range,List.range.loop]
 refine st (.bool true) nb rfl rfl rfl (fun _=>by simp [go_sem,q.g 18 rfl]) q (by decide) rfl fun _ q=>?_
 refine st (.bool false) nb rfl rfl rfl (fun _=>by simp [go_sem,q.g 163 rfl]) q (by decide) rfl fun _ q=>?_
 refine st (.bool false) nb rfl rfl rfl (fun _=>by simp [go_sem,q.g 164 rfl]) q (by decide) rfl fun _ q=>?_
 refine st (.bool true) nb rfl rfl (wanted_g rfl rfl rfl (q.g 165 rfl)) (fun _=>by simp [go_sem,q.g 20 rfl]) q (by decide) rfl fun _ q=>?_
 refine st (.bool true) nb rfl rfl rfl (fun _=>by simp [go_sem,q.g 165 rfl,q.g 166 rfl]) q (by decide) rfl fun _ q=>?_
 refine st (.bool true) nb rfl rfl rfl (fun _=>by simp [go_sem,q.g 167 rfl]) q (by decide) rfl fun _ q=>?_
 refine st (.bool true) nb rfl rfl (wanted_g rfl rfl rfl (q.g 168 rfl)) (fun _=>by simp [go_sem,q.g 23 rfl]) q (by decide) rfl fun _ q=>?_
 refine st (.bool true) nb rfl rfl (wanted_g rfl rfl rfl (q.g 168 rfl)) (fun _=>by simp [go_sem,q.g 26 rfl]) q (by decide) rfl fun _ q=>?_
 refine st (.bool true) nb rfl rfl (wanted_g rfl rfl rfl (q.g 168 rfl)) (fun _=>by simp [go_sem,q.g 170 rfl]) q (by decide) rfl fun _ q=>?_
 refine st (.int .i64 t) nb rfl rfl (wanted_g rfl rfl rfl (q.g 171 rfl)) (fun _=>by simp [go_sem,q.g 9 rfl]) q (by decide) rfl fun _ q=>?_
 refine st (.int .i64 lt) nb rfl rfl (wanted_g rfl rfl rfl (q.g 171 rfl)) (fun _=>by simp [go_sem,q.g 25 rfl]) q (by decide) rfl fun _ q=>?_
 refine st (.bool true) nb rfl rfl (wanted_g rfl rfl rfl (q.g 171 rfl)) (fun _=>by simp [go_sem,q.g 172 rfl,q.g 173 rfl,h1]) q (by decide) rfl fun _ q=>?_
 refine st (.bool true) nb rfl rfl (wanted_g rfl rfl rfl (q.g 168 rfl)) (fun _=>by simp [go_sem,q.g 171 rfl,q.g 174 rfl]) q (by decide) rfl fun _ q=>?_
 refine st (.bool true) nb rfl rfl (wanted_g rfl rfl rfl (q.g 168 rfl)) (fun _=>by simp [go_sem,q.g 169 rfl,q.g 175 rfl,ev_bools2]) q (by decide) rfl fun _ q=>?_
 refine st (.bool true) nb rfl rfl rfl (fun _=>by simp [go_sem,q.g 168 rfl,q.g 176 rfl]) q (by decide) rfl fun _ q=>?_
 refine st (.bool true) nb rfl rfl rfl (fun _=>by simp [go_sem,q.g 177 rfl]) q (by decide) rfl fun _ q=>?_
 refine sc 14 #[] nb rfl rfl (wanted_g rfl rfl rfl (q.g 178 rfl)) (fun w'=>by simp [go_sem];exact ev_call Tryz.func14 (by kernel_rfl) (by kernel_rfl)) q (by decide) rfl (v:=.bool true) (fun c w' t=>stored_lead2 hK t _ _) fun _ _ ho q=>?_
 replace hK:=ho.kinds hK
 replace hold:=hold.trans ho
 clear ho
 refine st (.bool true) nb rfl rfl rfl (fun _=>by simp [go_sem,q.g 178 rfl,q.g 179 rfl]) q (by decide) rfl fun _ q=>?_
 refine st (.bool true) nb rfl rfl rfl (fun _=>by simp [go_sem,q.g 180 rfl]) q (by decide) rfl fun _ q=>?_
 refine all_end ?_
 refine all_ret ?_
 intro w' t
 exact .done (er_leaves (q.g 8 rfl) q.df (hold.twin0 t))
theorem er_lastF1 (hold:Old w0 w) (hK:KindsAt w) (h1:¬ t≤lt) {a:Act} (q:Kn a 181 [(9,.int .i64 t),(18,.bool true),(20,.bool true),(23,.bool false),(25,.int .i64 lt),(26,.bool true)]) :
 LeadsA Tryz.prog (Leaving0 Tryz.prog fun v w'=>v=.bool true∧Old w0 w') ((Go.Conc.base 9).at a [.code (.seq (er 16) .ret)]) [] w:=by
 have nb:(Go.Conc.base 9).kind=.normal:=rfl
 simp only [er,sqN,sql,sqr,cnd,blk,lpc,Tryz.f9,Option.getD_some]
 refine all_seq ?_
 refine all_region ?_
 simp only [List.size_toArray,List.length_cons,List.length_nil,Nat.reduceAdd,Nat.zero_add,List.range,List.range.loop]
 refine st (.bool true) nb rfl rfl rfl (fun _=>by simp [go_sem,q.g 18 rfl]) q (by decide) rfl fun _ q=>?_
 refine st (.bool false) nb rfl rfl rfl (fun _=>by simp [go_sem,q.g 163 rfl]) q (by decide) rfl fun _ q=>?_
 refine st (.bool false) nb rfl rfl rfl (fun _=>by simp [go_sem,q.g 164 rfl]) q (by decide) rfl fun _ q=>?_
 refine st (.bool true) nb rfl rfl (wanted_g rfl rfl rfl (q.g 165 rfl)) (fun _=>by simp [go_sem,q.g 20 rfl]) q (by decide) rfl fun _ q=>?_
 refine st (.bool true) nb rfl rfl rfl (fun _=>by simp [go_sem,q.g 165 rfl,q.g 166 rfl]) q (by decide) rfl fun _ q=>?_
 refine st (.bool true) nb rfl rfl rfl (fun _=>by simp [go_sem,q.g 167 rfl]) q (by decide) rfl fun _ q=>?_
 refine st (.bool false) nb rfl rfl (wanted_g rfl rfl rfl (q.g 168 rfl)) (fun _=>by simp [go_sem,q.g 23 rfl]) q (by decide) rfl fun _ q=>?_
 refine st (.bool true) nb rfl rfl (wanted_g rfl rfl rfl (q.g 168 rfl)) (fun _=>by simp [go_sem,q.g 26 rfl]) q (by decide) rfl fun _ q=>?_
 refine st (.bool true) nb rfl rfl (wanted_g rfl rfl rfl (q.g 168 rfl)) (fun _=>by simp [go_sem,q.g 170 rfl]) q (by decide) rfl fun _ q=>?_
 refine st (.int .i64 t) nb rfl rfl (wanted_g rfl rfl rfl (q.g 171 rfl)) (fun _=>by simp [go_sem,q.g 9 rfl]) q (by decide) rfl fun _ q=>?_
 refine st (.int .i64 lt) nb rfl rfl (wanted_g rfl rfl rfl (q.g 171 rfl)) (fun _=>by simp [go_sem,q.g 25 rfl]) q (by decide) rfl fun _ q=>?_
 refine st (.bool false) nb rfl rfl (wanted_g rfl rfl rfl (q.g 171 rfl)) (fun _=>by simp [go_sem,q.g 172 rfl,q.g 173 rfl,h1]) q (by decide) rfl fun _ q=>?_
 refine st (.bool false) nb rfl rfl (wanted_g rfl rfl rfl (q.g 168 rfl)) (fun _=>by simp [go_sem,q.g 171 rfl,q.g 174 rfl]) q (by decide) rfl fun _ q=>?_
 refine st (.bool true) nb rfl rfl (wanted_g rfl rfl rfl (q.g 168 rfl)) (fun _=>by simp [go_sem,q.g 169 rfl,q.g 175 rfl,ev_bools2]) q (by decide) rfl fun _ q=>?_
 refine st (.bool true) nb rfl rfl rfl (fun _=>by simp [go_sem,q.g 168 rfl,q.g 176 rfl]) q (by decide) rfl fun _ q=>?_
 refine st (.bool true) nb rfl rfl rfl (fun _=>by simp [go_sem,q.g 177 rfl]) q (by decide) rfl fun _ q=>?_
 refine sc 14 #[] nb rfl rfl (wanted_g rfl rfl rfl (q.g 178 rfl)) (fun w'=>by simp [go_sem];exact ev_call Tryz.func14 (by kernel_rfl) (by kernel_rfl)) q (by decide) rfl (v:=.bool true) (fun c w' t=>stored_lead2 hK t _ _) fun _ _ ho q=>?_
 replace hK:=ho.kinds hK
 replace hold:=hold.trans ho
 clear ho
 refine st (.bool true) nb rfl rfl rfl (fun _=>by simp [go_sem,q.g 178 rfl,q.g 179 rfl]) q (by decide) rfl fun _ q=>?_
 refine st (.bool true) nb rfl rfl rfl (fun _=>by simp [go_sem,q.g 180 rfl]) q (by decide) rfl fun _ q=>?_
 refine all_end ?_
 refine all_ret ?_
 intro w' t
 exact .done (er_leaves (q.g 8 rfl) q.df (hold.twin0 t))
theorem er_none1 (hold:Old w0 w) (hK:KindsAt w)  {a:Act} (q:Kn a 181 [(9,.int .i64 t),(18,.bool true),(20,.bool true),(23,.bool false),(25,.int .i64 lt),(26,.bool false)]) :
 LeadsA Tryz.prog (Leaving0 Tryz.prog fun v w'=>v=.bool true∧Old w0 w') ((Go.Conc.base 9).at a [.code (.seq (er 16) .ret)]) [] w:=by
 have nb:(Go.Conc.base 9).kind=.normal:=rfl
 simp only [er,sqN,sql,sqr,cnd,blk,lpc,Tryz.f9,Option.getD_some]
 refine all_seq ?_
 refine all_region ?_
 simp only [List.size_toArray,List.length_cons,List.length_nil,Nat.reduceAdd,Nat.zero_add,List.range,List.range.loop]
 refine st (.bool true) nb rfl rfl rfl (fun _=>by simp [go_sem,q.g 18 rfl]) q (by decide) rfl fun _ q=>?_
 refine st (.bool false) nb rfl rfl rfl (fun _=>by simp [go_sem,q.g 163 rfl]) q (by decide) rfl fun _ q=>?_
 refine st (.bool false) nb rfl rfl rfl (fun _=>by simp [go_sem,q.g 164 rfl]) q (by decide) rfl fun _ q=>?_
 refine st (.bool true) nb rfl rfl (wanted_g rfl rfl rfl (q.g 165 rfl)) (fun _=>by simp [go_sem,q.g 20 rfl]) q (by decide) rfl fun _ q=>?_
 refine st (.bool true) nb rfl rfl rfl (fun _=>by simp [go_sem,q.g 165 rfl,q.g 166 rfl]) q (by decide) rfl fun _ q=>?_
 refine st (.bool true) nb rfl rfl rfl (fun _=>by simp [go_sem,q.g 167 rfl]) q (by decide) rfl fun _ q=>?_
 refine st (.bool false) nb rfl rfl (wanted_g rfl rfl rfl (q.g 168 rfl)) (fun _=>by simp [go_sem,q.g 23 rfl]) q (by decide) rfl fun _ q=>?_
 refine st (.bool false) nb rfl rfl (wanted_g rfl rfl rfl (q.g 168 rfl)) (fun _=>by simp [go_sem,q.g 26 rfl]) q (by decide) rfl fun _ q=>?_
 refine st (.bool false) nb rfl rfl (wanted_g rfl rfl rfl (q.g 168 rfl)) (fun _=>by simp [go_sem,q.g 170 rfl]) q (by decide) rfl fun _ q=>?_
 refine sk rfl rfl (unwanted_g rfl rfl rfl (q.g 171 rfl)) q (by decide) rfl fun _ q=>?_
 refine sk rfl rfl (unwanted_g rfl rfl rfl (q.g 171 rfl)) q (by decide) rfl fun _ q=>?_
 refine sk rfl rfl (unwanted_g rfl rfl rfl (q.g 171 rfl)) q (by decide) rfl fun _ q=>?_
 refine st (.bool false) nb rfl rfl (wanted_g rfl rfl rfl (q.g 168 rfl)) (fun _=>by simp [go_sem,q.g 171 rfl,q.g 174 rfl]) q (by decide) rfl fun _ q=>?_
 refine st (.bool true) nb rfl rfl (wanted_g rfl rfl rfl (q.g 168 rfl)) (fun _=>by simp [go_sem,q.g 169 rfl,q.g 175 rfl,ev_bools2]) q (by decide) rfl fun _ q=>?_
 refine st (.bool true) nb rfl rfl rfl (fun _=>by simp [go_sem,q.g 168 rfl,q.g 176 rfl]) q (by decide) rfl fun _ q=>?_
 refine st (.bool true) nb rfl rfl rfl (fun _=>by simp [go_sem,q.g 177 rfl]) q (by decide) rfl fun _ q=>?_
 refine sc 14 #[] nb rfl rfl (wanted_g rfl rfl rfl (q.g 178 rfl)) (fun w'=>by simp [go_sem];exact ev_call Tryz.func14 (by kernel_rfl) (by kernel_rfl)) q (by decide) rfl (v:=.bool true) (fun c w' t=>stored_lead2 hK t _ _) fun _ _ ho q=>?_
 replace hK:=ho.kinds hK
 replace hold:=hold.trans ho
 clear ho
 refine st (.bool true) nb rfl rfl rfl (fun _=>by simp [go_sem,q.g 178 rfl,q.g 179 rfl]) q (by decide) rfl fun _ q=>?_
 refine st (.bool true) nb rfl rfl rfl (fun _=>by simp [go_sem,q.g 180 rfl]) q (by decide) rfl fun _ q=>?_
 refine all_end ?_
 refine all_ret ?_
 intro w' t
 exact .done (er_leaves (q.g 8 rfl) q.df (hold.twin0 t))
variable {B lc oc kc ln mn xc yc en:Nat} {b:Bk} {s s2 t v u lt:Int} {fd is was sm:Bool} {vr vg vm vs vc x:Value} {w w0:World} {la oa ka xa ya:Option Addr} {ks ot o:List Int} {l:List Prt} {d:Nat→Value}
theorem er_co {w:World} {b:Bk} {ks:List Int} {ka:Option Addr} {kc:Nat} {s s2:Int} {vr vg vm vs vc:Value} (hR:RawAt w b vr vg vm vs vc) (hK:KindsAt w) (hU:U16sAt w ka ks) (hs0:0≤s) (hs1:s≤65535) (hz0:0≤s2) (hz1:s2≤65535) :
 Leads Tryz.prog (Leaving0 Tryz.prog fun v w'=>v=.bool true∧Old w w') (Frame.enter Tryz.prog 9 #[.agg #[vr,vg,vm,vs,vc],.slice ka ks.length kc,.int .u16 s,.int .u16 s2] .normal) [] w:=by
 have hok:=progOk.code _ _ Tryz.func9 _ erBody_eq
 simp only [codeOk,Bool.and_eq_true] at hok
 obtain ⟨k0,k1,k2,k3,k4,k5,k6,k7,k8,k9,k10,k11,k12,k13,k14,k15,k16,_⟩:=hok
 have k1':=k1
 have k5':=k5
 rw [er1_eq] at k1'
 rw [er5_eq] at k5'
 simp only [codeOk,Bool.and_eq_true] at k1' k5'
 rw [erFrame erBody_eq]
 have nb:(Go.Conc.base 9).kind=.normal:=rfl
 have nd:MarksOnly []:=fun d hd=>by cases hd
 refine piece_step k0 nb nd (Z:=EZ0 b s s2 vr vg vm vs vc ka ks kc) (fun a w1 w2 ht h=>by obtain ⟨B,x,h1,h2⟩:=h;exact ⟨B,x,h1,h2.twin ht⟩) (fun W hW=>er_0 (s:=s) (s2:=s2) (ka:=ka) (ks:=ks) (kc:=kc) (d:=fun _=>undef) (hW.raw hR) (hW.kinds hK)) fun a0 w0 hz ho0=>?_
 obtain ⟨B,x0,⟨d0,rfl⟩,hE⟩:=hz
 have hU:=hU.ol ho0
 obtain ⟨x,hx⟩:∃ x:Bool,(x=true↔¬ (SmallB b∧bookAl b=0)):=by
  by_cases h:SmallB b∧bookAl b=0
  ·exact ⟨false,by simp only [Bool.false_eq_true,false_iff];exact fun h2=>h2 h⟩
  ·exact ⟨true,by simp only [true_iff];exact h⟩
 refine leads_seq fun d=>?_
 rw [er1_eq]
 have hE:=hE.twin (on_at w0 d)
 have hU:=hU.tw (on_at w0 d)
 have ho0:=ho0.at d
 refine piece_step k1'.1 nb nd (Z:=EZ1 B s s2 ka ks kc x) (fun a w1 w2 ht h=>h) (fun W hW=>er_1 (hE.twin hW) hx) fun a1 w1 hz ho=>?_
 obtain ⟨d1,rfl⟩:=hz
 have hE:=hE.old ho
 have hU:=hU.ol ho
 have ho1:=ho0.trans ho
 clear ho
 cases x with
 | true =>
  refine leads_cond (t:=true) (by simp [go_sem,eG]) fun da=>?_
  simp only [if_true]
  exact (er_early2 (ho1.at da) ((on_at w1 da).kinds hE.kd) ⟨rfl,rfl,trivial⟩).here
 | false =>
  obtain ⟨hS,hk⟩:SmallB b∧bookAl b=0:=Classical.byContradiction fun h=>by have:=hx.2 h;cases this
  refine leads_cond (t:=false) (by simp [go_sem,eG]) fun dd=>?_
  simp only [Bool.false_eq_true,if_false]
  refine leads_skip fun dd2=>?_
  have hE:=PkSt.of ((hE.twin (on_at w1 dd)).twin (on_at (w1.at dd) dd2)) hS
  have hU:=(hU.tw (on_at w1 dd)).tw (on_at (w1.at dd) dd2)
  have ho2:=(ho1.at dd).at dd2
  generalize (w1.at dd).at dd2=w2 at hE hU ho2
  clear ho1 ho0
  obtain ⟨t,ht⟩:∃ t,s % 1000=t:=⟨_,rfl⟩
  have ht0:0≤t:=by omega
  have ht1:t≤999:=by omega
  obtain ⟨r,hr⟩:∃ r,s2 % (t+1)=r:=⟨_,rfl⟩
  have hr0:0≤r:=by rw [← hr];exact Int.emod_nonneg _ (by omega)
  have hr1:r < t+1:=by rw [← hr];exact Int.emod_lt_of_pos _ (by omega)
  obtain ⟨l,hl⟩:∃ l,miss b=l:=⟨_,rfl⟩
  obtain ⟨u,hu⟩:∃ u,openAl b 0=u:=⟨_,rfl⟩
  refine pieces_co [er 2,er 3,er 4] (by simp [k2,k3,k4]) nb rfl (Z:=EZA B b vr vg vm vs vc ka ks kc t (t - r) l u) (fun a w1 w2 ht h=>by obtain ⟨la,lc,h1,h2,h3⟩:=h;exact ⟨la,lc,h1,h2.twin ht,ht.parts h3⟩) (fun W hW=>er_A (hE.twin hW) hS hs0 hs1 hz0 hz1 ht ht0 ht1 hr hr0 (by omega) hl hu) fun a3 w3 hz ho=>?_
  obtain ⟨la,lc,⟨d3,rfl⟩,hG,hL⟩:=hz
  have hU:=hU.ol ho
  have ho3:=ho2.trans ho
  clear ho ho2 hE
  obtain ⟨v,hv⟩:∃ v,t - r=v:=⟨_,rfl⟩
  rw [hv]
  have hv0:0≤v:=by omega
  have hv1:v≤999:=by omega
  rcases openAl_two hk with hz | hz
  ·rw [hz] at hu
   subst hu
   have hmi:missI b=l:=by rw [← hl];unfold miss;rw [if_pos hz]
   obtain ⟨ot,hot⟩:∃ ot,planP ks (loadsI b)=ot:=⟨_,rfl⟩
   obtain ⟨o,hpo⟩:=planP_ok ks (loadsI_nn hk)
   rw [hot] at hpo
   have hotl:ot.length=b.ms.length:=by rw [← hot,planP_len,loadsI_len]
   obtain ⟨is,his⟩:∃ is,goodI b ot o t=is:=⟨_,rfl⟩
   obtain ⟨was,hwas⟩:∃ was,goodI b ot o v=was:=⟨_,rfl⟩
   obtain ⟨fd,hfd⟩:∃ fd,(packI b (loadsI b) t).isSome=fd:=⟨_,rfl⟩
   obtain ⟨lt,hlt⟩:∃ lt,(latestI b (loadsI b)).getD 0=lt:=⟨_,rfl⟩
   obtain ⟨sm,hsm⟩:∃ sm,(latestI b (loadsI b)).isSome=sm:=⟨_,rfl⟩
   have hlaw:=latest_law (b:=b) (loads:=loadsI b) ht0 ht1
   rw [hfd,hlt,hsm] at hlaw
   refine pieces_co [er 5,er 6,er 7,er 8,er 9,er 10,er 11,er 12,er 13] (by simp [k5,k6,k7,k8,k9,k10,k11,k12,k13]) nb rfl (Z:=EZB B b vr vg vm vs vc l ot o t v is was fd lt sm) (fun a w1 w2 ht h=>by obtain ⟨la,lc,oa,oc,xa,xc,ya,yc,h1,h2,h3,h4,h5,h6⟩:=h;exact ⟨la,lc,oa,oc,xa,xc,ya,yc,h1,h2.twin ht,ht.parts h3,ht.ints h4,ht.ints h5,ht.ints h6⟩) (fun W hW=>er_B (hG.twin hW) (hW.parts hL) (hU.tw hW) hS hk hz ht0 ht1 hv0 hv1 hmi hot hpo his hwas hfd hlt hsm) fun a5 w5 hz5 ho=>?_
   obtain ⟨la,lc,oa,oc,xa,xc,ya,yc,⟨d5,rfl⟩,hG,hL,hO,hX,hY⟩:=hz5
   have ho5:=ho3.trans ho
   clear ho ho3
   refine pieces_co [er 14,er 15] (by simp [k14,k15]) nb rfl (Z:=fun a' w2=>(∃ d,a'=eD t is was fd lt sm d)∧KindsAt w2) (fun a w1 w2 ht h=>⟨h.1,ht.kinds h.2⟩) (fun W hW=>er_C (hG.twin hW) (hW.parts hL) (hW.ints hO) (hW.ints hX) (hW.ints hY) hS hk hmi hotl hpo ht0 ht1 hv0 hv1) fun a7 w7 hz7 ho=>?_
   obtain ⟨⟨d7,rfl⟩,hK7⟩:=hz7
   have ho7:=ho5.trans ho
   have hmono:is=true→was=true:=fun h=>by rw [← hwas];rw [← his] at h;exact good_early (by omega) h
   cases sm with
   | false =>
    simp only [Bool.false_and] at hlaw
    subst hlaw
    cases is with
    | false=>exact (er_none0 ho7 hK7 ⟨rfl,rfl,rfl,rfl,rfl,rfl,rfl,rfl,trivial⟩).here
    | true =>
     obtain rfl:=hmono rfl
     exact (er_none1 ho7 hK7 ⟨rfl,rfl,rfl,rfl,rfl,rfl,rfl,rfl,trivial⟩).here
   | true =>
    simp only [Bool.true_and] at hlaw
    by_cases h1:t≤lt
    ·obtain rfl:fd=true:=by rw [hlaw];simp [h1]
     cases is with
     | false=>exact (er_lastT0 ho7 hK7 h1 ⟨rfl,rfl,rfl,rfl,rfl,rfl,rfl,rfl,trivial⟩).here
     | true =>
      obtain rfl:=hmono rfl
      exact (er_lastT1 ho7 hK7 h1 ⟨rfl,rfl,rfl,rfl,rfl,rfl,rfl,rfl,trivial⟩).here
    ·obtain rfl:fd=false:=by rw [hlaw];simp [h1]
     cases is with
     | false=>exact (er_lastF0 ho7 hK7 h1 ⟨rfl,rfl,rfl,rfl,rfl,rfl,rfl,rfl,trivial⟩).here
     | true =>
      obtain rfl:=hmono rfl
      exact (er_lastF1 ho7 hK7 h1 ⟨rfl,rfl,rfl,rfl,rfl,rfl,rfl,rfl,trivial⟩).here
  ·rw [hz] at hu
   subst hu
   refine leads_seq fun e1=>?_
   rw [er5_eq]
   have hG:=hG.twin (on_at w3 e1)
   have ho3:=ho3.at e1
   generalize w3.at e1=w4 at hG ho3
   refine piece_step k5'.1 nb nd (Z:=EZ5 B ka ks kc t v la l.length lc) (fun a w1 w2 ht h=>h) (fun W hW=>er_5) fun a5 w5 hz5 ho=>?_
   obtain ⟨h40,d5,rfl⟩:=hz5
   refine leads_cond (t:=true) (by simp [go_sem,h40]) fun e2=>?_
   simp only [if_true]
   exact (er_early7 ((ho3.trans ho).at e2) ((on_at w5 e2).kinds (ho.kinds hG.kd)) ⟨rfl,rfl,rfl,trivial⟩).here
end Go.Proofs.YtgemjjdkjmpmlaaGreatDoor
namespace Go.Proofs.YtgemjjdkjmpmlaaGreatDoor
open Go.ChangeShapes Go.WideShapes Go.ChangeAt Go.RowKit Sp
theorem cellsU16:Tryz.prog.cellsOf 78=1:=by kernel_rfl
theorem u16_bd {n:Int} (h:(Lit.int .u16 n).wf=true):0≤n∧n≤65535:=by
 simp [Lit.wf,IntKind.min,IntKind.max,IntKind.signed,IntKind.bits] at h
 omega
section
variable {H:Type} {enc:TypeId × Value→H} {w:World} {base n:Nat} {held:Bool} {cs:List Value} {y:DataW H × List MemPlace}
theorem open_u16s (h:DataW.trod enc Tryz.prog w base (fun _=>true) held n 27 cs=some y):∃ a l c,cs=[.slice a (List.length l) c]∧U16sAt w a l:=by
 rcases Deep.open_slice1 Tryz.underlying27 cellsU16 h with ⟨hcs,_⟩ | ⟨a,len,cap,m,k,V,D,Pl,hcs,hb,hl,hm,hmm,_,hx⟩
 ·exact ⟨none,[],0,hcs,fun i hi=>absurd hi (Nat.not_lt_zero _)⟩
 ·simp only [if_true] at hmm
  obtain ⟨M,hM⟩:=Deep.choose_lt (α:=Int) (p:=fun i m=>w.cell? (a.add i)=some (.int .u16 m)∧0≤m∧m≤65535) (fun i hi=>by
   obtain ⟨h1,h2⟩:=hx i (show i < m from hi)
   obtain ⟨q,e,_,hw⟩:=DataW.trod_int Tryz.underlying78 h2
   exact ⟨q,h1.trans (congrArg some (List.cons.inj e).1),u16_bd hw⟩)
  refine ⟨some a,(List.range len).map M,cap,by rw [hcs];simp,fun i hi=>?_⟩
  have hi2:i < len:=by simpa using hi
  have hs:a.spot=none:=by simpa [Addr.add] using World.cell?_spot (hM 0 (by omega)).1
  obtain ⟨b,o,spot⟩:=a
  simp only at hs
  subst hs
  obtain ⟨c0,c1,c2⟩:=hM i (by omega)
  simp only [addr_plus] at c0
  refine ⟨b,o,rfl,lt_of_cell c0,?_⟩
  simp only [List.getElem_map,List.getElem_range]
  exact ⟨c0,c1,c2⟩
end
end Go.Proofs.YtgemjjdkjmpmlaaGreatDoor
