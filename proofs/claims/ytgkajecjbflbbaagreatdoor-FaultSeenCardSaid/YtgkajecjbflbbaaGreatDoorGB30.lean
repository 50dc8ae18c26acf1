/- the fault laws -/
import Derived.Test.YtgkajecjbflbbaaGreatDoorGB29
set_option maxHeartbeats 1000000
set_option maxRecDepth 100000
set_option linter.all false
namespace Go.Proofs.YtgkajecjbflbbaaGreatDoor
namespace Mt
open Go Go.RowKit Go.Maps Go.Conc
attribute [local go_sem] Oper.semAt_some
section
variable {a:Act} {o:Oper} {p q:Nat} {n:Nat}
theorem op_rem {t u:TypeId} {k:Nat} (ho:o.op=.binOp .rem t (.tmp p) (.tmp q) u) (hx:a.tmps[p]? = some (.int .i64 (k:Int))) (hy:a.tmps[q]? = some (.int .i64 (n:Int))) (hn:0 < n) (hk:k<=255) :
 ∀ W:World,(execOp a.eval o).run Tryz.prog W=.ok (.value (.int .i64 ((k % n:Nat):Int))) W/\(execOp a.eval o).events Tryz.prog W #[]=#[]:=fun W=>by
 have e:execOp a.eval o=execOp a.eval { o with op:=.binOp .rem t (.tmp p) (.tmp q) u }:=by unfold execOp;rw [ho]
 have h0:n≠0:=by omega
 have h1:Int.tmod (k:Int) (n:Int)=(k:Int) % (n:Int):=Int.tmod_eq_emod_of_nonneg (by omega);rw [e];exact ⟨by simp [go_sem,hx,hy,h0,h1],by simp [go_sem,hx,hy,h0]⟩
end
end Mt
namespace Mt
open Go Go.RowKit Go.Maps
attribute [local go_sem] Oper.semAt_some
def fitI (b:Fbk):Bool:=!greatI b && decide (bookAl b=0)
theorem names_ok {b:Fbk} (h:greatI b=false):∀ m∈b.devs,m.name.size<=1000000:=fun m hm=>Nat.le_trans ((great_no h).2.2.1 m hm) (by decide)
theorem fit_ok {b:Fbk} (h:fitI b=true):greatI b=false/\bookAl b=0:=by
 unfold fitI at h;simpa using h
section
variable {b:Fbk} {vm vd vt:Value} {w:World}
theorem fit_at (hR:FRaw w b vm vd vt):Calls Mz.prog 32 #[.agg #[vm,vd,vt]] w fun e w'=>e=.returned (.bool (fitI b))/\Below w.heap.size w w':=by
 have HR:=Hh hR;obtain ⟨rfl,⟨da,dc,rfl,_⟩,ta,tc,rfl,_⟩:=hR;obtain ⟨g,hg⟩:∃ g,greatI b=g:=⟨_,rfl⟩;have HG:=Hh hg;cases g
 ·have hN:=Hh (names_ok hg);obtain ⟨t,ht⟩:∃ t,bookAl b=t:=⟨_,rfl⟩;have HT:=Hh ht;have hf:fitI b=decide (t=0):=by unfold fitI;rw [hg,ht];rfl
  rw [hf];by_cases h0:t=0
  ·subst h0;clear hg ht hf
   go_enter (mz_func (i:=32) rfl Tryz.func32),Tryz.ntmps32
   go_wp2_with (first
    | (go_at_call 15;(with_reducible refine (great_at (HR.out.alike (Below.alike (bel))) HG.out).mono ?_);rintro e w1 ⟨rfl,hb1⟩;have y0:w1.cell? ⟨w.heap.size,0,none⟩=some (.int .i64 b.most):=(hb1.cell (p:=⟨w.heap.size,0,none⟩) (by simp)).trans (by rw [World.cell?_alloc_at _ _ _ _ rfl];rfl);have y1:w1.cell? ⟨w.heap.size,1,none⟩=some (.slice da b.devs.length dc):=(hb1.cell (p:=⟨w.heap.size,1,none⟩) (by simp)).trans (by rw [World.cell?_alloc_at _ _ _ _ rfl];rfl);have y2:w1.cell? ⟨w.heap.size,2,none⟩=some (.slice ta b.tests.length tc):=(hb1.cell (p:=⟨w.heap.size,2,none⟩) (by simp)).trans (by rw [World.cell?_alloc_at _ _ _ _ rfl];rfl))
    | (go_at_call 81;(with_reducible refine (rCheckBook_at ((HR.out.book HG.out).below (bel)) hN.out HT.out).mono ?_);rintro e w2 ⟨rfl,hb2⟩))
   go_ret;exact ⟨rfl,bel⟩
  ·have hz:(t == 0)=false:=by simpa using h0
   have hd:decide (t=0)=false:=by simp [h0]
   rw [hd];clear hg ht hf h0 hd
   go_enter (mz_func (i:=32) rfl Tryz.func32),Tryz.ntmps32
   go_wp2_with (first
    | (go_at_call 15;(with_reducible refine (great_at (HR.out.alike (Below.alike (bel))) HG.out).mono ?_);rintro e w1 ⟨rfl,hb1⟩;have y0:w1.cell? ⟨w.heap.size,0,none⟩=some (.int .i64 b.most):=(hb1.cell (p:=⟨w.heap.size,0,none⟩) (by simp)).trans (by rw [World.cell?_alloc_at _ _ _ _ rfl];rfl);have y1:w1.cell? ⟨w.heap.size,1,none⟩=some (.slice da b.devs.length dc):=(hb1.cell (p:=⟨w.heap.size,1,none⟩) (by simp)).trans (by rw [World.cell?_alloc_at _ _ _ _ rfl];rfl);have y2:w1.cell? ⟨w.heap.size,2,none⟩=some (.slice ta b.tests.length tc):=(hb1.cell (p:=⟨w.heap.size,2,none⟩) (by simp)).trans (by rw [World.cell?_alloc_at _ _ _ _ rfl];rfl))
    | (go_at_call 81;(with_reducible refine (rCheckBook_at ((HR.out.book HG.out).below (bel)) hN.out HT.out).mono ?_);rintro e w2 ⟨rfl,hb2⟩))
   go_ret;exact ⟨rfl,bel⟩
 ·have hf:fitI b=false:=by unfold fitI;rw [hg];rfl
  rw [hf];clear hg hf
  go_enter (mz_func (i:=32) rfl Tryz.func32),Tryz.ntmps32
  go_wp2_with (go_at_call 15;(with_reducible refine (great_at (HR.out.alike (Below.alike (bel))) HG.out).mono ?_);rintro e w1 ⟨rfl,hb1⟩);go_ret;exact ⟨rfl,bel⟩
end
end Mt
end Go.Proofs.YtgkajecjbflbbaaGreatDoor
