/- Leads to StorePacked of chapter 6: PK0 PK1 PK2 PK3 PK4 PK5. -/
import Derived.Test.YtgemjjdkjmpmlaaGreatDoorPK01
set_option maxHeartbeats 16000000
set_option maxRecDepth 100000
set_option linter.all false
namespace Go.Proofs.YtgemjjdkjmpmlaaGreatDoor
open Go.RowKit Go.Maps Sp Mt Go.Conc
section
variable {w w1:World} {B n:Nat} {b:Bk} {vr vg vm vs vc:Value} {ka:Option Addr} {ks:List Int}
structure PkSt (w:World) (B:Nat) (b:Bk) (vr vg vm vs vc:Value):Prop where
 c0:w.cell? ⟨B,0,none⟩=some vr
 c1:w.cell? ⟨B,1,none⟩=some vg
 c2:w.cell? ⟨B,2,none⟩=some vm
 c3:w.cell? ⟨B,3,none⟩=some vs
 c4:w.cell? ⟨B,4,none⟩=some vc
 bk:BookAt w b vr vg vm vs vc
 kd:KindsAt w
theorem PkSt.of {l:List Int} {la:Option Addr} (h:LawAt w B b l vr vg vm vs vc la) (hs:SmallB b):PkSt w B b vr vg vm vs vc:=⟨h.c0,h.c1,h.c2,h.c3,h.c4,h.raw.book hs,h.kd⟩
theorem PkSt.old (h:PkSt w B b vr vg vm vs vc) (t:Old w w1):PkSt w1 B b vr vg vm vs vc:=⟨t.cell2 h.c0,t.cell2 h.c1,t.cell2 h.c2,t.cell2 h.c3,t.cell2 h.c4,t.book h.bk,t.kinds h.kd⟩
theorem PkSt.twin (h:PkSt w B b vr vg vm vs vc) (t:Twin n w w1):PkSt w1 B b vr vg vm vs vc:=⟨(t.cell _).trans h.c0,(t.cell _).trans h.c1,(t.cell _).trans h.c2,(t.cell _).trans h.c3,(t.cell _).trans h.c4,t.book h.bk,t.kinds h.kd⟩
theorem U16sAt.tw (h:U16sAt w ka ks) (t:Twin n w w1):U16sAt w1 ka ks:=fun i hi=>by
 obtain ⟨b,o,e,hlt,h1,h2⟩:=h i hi
 exact ⟨b,o,e,by rw [t.size];exact hlt,(t.cell _).trans h1,h2⟩
theorem U16sAt.ol (h:U16sAt w ka ks) (t:Old w w1):U16sAt w1 ka ks:=fun i hi=>by
 obtain ⟨b,o,e,hlt,h1,h2⟩:=h i hi
 exact ⟨b,o,e,Nat.lt_of_lt_of_le hlt t.size,t.cell2 h1,h2⟩
theorem stored_lead2 {w':World} (hK:KindsAt w) (t:Twin 0 w w') (c:Frame) (cs:List Frame):Leads Tryz.prog (fun fr' cs' w1=>∃ v,fr'=c.finish v∧cs'=cs∧v=.bool true∧Old w w1) (Frame.enter Tryz.prog 14 #[] .normal) (c::cs) w':=by
 refine (stored_co (t.kinds hK) c cs).mono ?_
 rintro fr' cs' w2 ⟨h1,h2,ho⟩
 exact ⟨_,h1,h2,rfl,t.old0 ho⟩
def packQ (b:Bk) (now:Int):List Int × Bool:=if openAl b 0=0 then (planOf (packI b (loadsI b) now),(packI b (loadsI b) now).isSome) else ([],false)
theorem timed_zero {now:Int} (h0:0≤now) (h1:now≤999):timedAsk now=0:=by unfold timedAsk inB;rw [if_pos (by simp;omega)]
theorem pack2_at (hB:BookAt w b vr vg vm vs vc) (hN:∀ m∈b.ms,m.name.size≤1000000) (hK:KindsAt w) (now:Int) (h0:0≤now) (h1:now≤999) {q:List Int} {f:Bool} {u:Int} (hq:packQ b now=(q,f)) (hu:openAl b 0=u) :
 Calls Tryz.prog 43 #[.agg #[vr,vg,vm,vs,vc],.int .i64 now] w fun e w'=>∃ a c,e=.returned (.tuple #[.slice a q.length c,.bool f,.int .i64 u])∧IntsAt w' a q∧Below w.heap.size w w':=by
 have htz:=timed_zero h0 h1
 unfold packQ at hq
 by_cases hz:u=0
 ·subst hz
  rw [if_pos hu] at hq
  cases hq
  exact pack_ok hB hN hK now ⟨h0,h1⟩ (by rw [htz];exact hu)
 ·rw [if_neg (by rw [hu];exact hz)] at hq
  cases hq
  refine (pack_no hB hN hK now (t:=u) (by rw [htz];exact hu) hz).mono ?_
  rintro e w' ⟨rfl,hb⟩
  exact ⟨none,0,rfl,fun i hi=>absurd hi (Nat.not_lt_zero _),hb⟩
theorem plan_asked {b:Bk} {plan:List Int} {now:Int} (hu:openAl b 0=0) (hl:plan.length=b.ms.length) (h0:0≤now) (h1:now≤999):openAl b (planAsk b.ms.length plan.length now)=0:=by
 have:planAsk b.ms.length plan.length now=0:=by unfold planAsk;rw [timed_zero h0 h1];simp [hl]
 rw [this];exact hu
theorem loadsI_nn {b:Bk} (h:bookAl b=0):∀ x∈loadsI b,0≤x:=fun x hx=>(loadsI_bd h x hx).1
theorem openAl_two {b:Bk} (h:bookAl b=0):openAl b 0=0∨openAl b 0=10:=by
 unfold openAl
 rw [if_neg (by simp [h]),if_neg (by simp)]
 split
 ·exact .inr rfl
 ·exact .inl rfl
end
variable {B lc pc nc oc kc ln pn:Nat} {b:Bk} {s t u kk2 jj2:Int} {fd is:Bool} {vr vg vm vs vc x:Value} {w w0:World} {la pa na oa ka:Option Addr} {ks q ql ot ot2:List Int} {l:List Prt} {d:Nat→Value}
noncomputable def pk (k:Nat):Code:=sql (sqN k (Tryz.f8.body.getD .skip))
theorem pkBody_eq:Tryz.f8.body=some (.seq (pk 0) (.seq (pk 1) (.seq (pk 2) (.seq (pk 3) (.seq (pk 4) (.seq (pk 5) (.seq (pk 6) (.seq (pk 7) (.seq (pk 8) (.seq (pk 9) (.seq (pk 10) (.seq (pk 11) (.seq (pk 12) (.seq (pk 13) (.seq (pk 14) (.seq (pk 15) .ret)))))))))))))))):=by kernel_rfl
theorem pk1_eq:pk 1=.seq (sql (pk 1)) (.cond (.tmp 22) (cnd (sqr (pk 1))) .skip):=by kernel_rfl
theorem pk5_eq:pk 5=.seq (sql (pk 5)) (.cond (.tmp 40) (cnd (sqr (pk 5))) .skip):=by kernel_rfl
theorem pk11_eq:pk 11=.seq (sql (pk 11)) (.cond (.tmp 84) (cnd (sqr (pk 11))) .skip):=by kernel_rfl
def kI (x0 x1 x2:Value) (d:Nat→Value):Act:={ tmps:=#[x0,x1,x2,d 3,d 4,d 5,d 6,d 7,d 8,d 9,d 10,d 11,d 12,d 13,d 14,d 15,d 16,d 17,d 18,d 19,d 20,d 21,d 22,d 23,d 24,d 25,d 26,d 27,d 28,d 29,d 30,d 31,d 32,d 33,d 34,d 35,d 36,d 37,d 38,d 39,d 40,d 41,d 42,d 43,d 44,d 45,d 46,d 47,d 48,d 49,d 50,d 51,d 52,d 53,d 54,d 55,d 56,d 57,d 58,d 59,d 60,d 61,d 62,d 63,d 64,d 65,d 66,d 67,d 68,d 69,d 70,d 71,d 72,d 73,d 74,d 75,d 76,d 77,d 78,d 79,d 80,d 81,d 82,d 83,d 84,d 85,d 86,d 87,d 88,d 89,d 90,d 91,d 92,d 93,d 94,d 95,d 96,d 97,d 98,d 99,d 100,d 101,d 102,d 103,d 104,d 105,d 106,d 107,d 108,d 109,d 110,d 111,d 112,d 113,d 114,d 115,d 116,d 117,d 118,d 119,d 120,d 121,d 122,d 123,d 124,d 125,d 126,d 127,d 128,d 129,d 130,d 131,d 132,d 133,d 134,d 135,d 136,d 137,d 138,d 139,d 140,d 141,d 142,d 143,d 144,d 145,d 146,d 147],defers:=[] }
def kG (B:Nat) (s:Int) (vr vg vm vs vc:Value) (ka:Option Addr) (ks:List Int) (kc:Nat) (x:Value) (d:Nat→Value):Act:={ tmps:=#[d 0,.slice ka ks.length kc,.int .u16 s,.pointer (some ⟨B,0,none⟩),d 4,d 5,.bool false,d 7,d 8,d 9,d 10,d 11,d 12,d 13,d 14,d 15,d 16,d 17,d 18,d 19,d 20,d 21,x,d 23,d 24,d 25,d 26,d 27,d 28,d 29,d 30,d 31,d 32,d 33,d 34,d 35,d 36,d 37,d 38,d 39,d 40,d 41,d 42,d 43,d 44,d 45,d 46,d 47,d 48,d 49,d 50,d 51,d 52,d 53,d 54,d 55,d 56,d 57,d 58,d 59,d 60,d 61,d 62,d 63,d 64,d 65,d 66,d 67,d 68,d 69,d 70,d 71,d 72,d 73,d 74,d 75,d 76,d 77,d 78,d 79,d 80,d 81,d 82,d 83,d 84,d 85,d 86,d 87,d 88,d 89,d 90,d 91,d 92,d 93,d 94,d 95,d 96,d 97,d 98,d 99,d 100,d 101,d 102,d 103,d 104,d 105,d 106,d 107,d 108,d 109,d 110,d 111,d 112,d 113,d 114,d 115,d 116,d 117,d 118,d 119,d 120,d 121,d 122,d 123,d 124,d 125,d 126,d 127,d 128,d 129,d 130,d 131,d 132,d 133,d 134,d 135,d 136,d 137,d 138,d 139,d 140,d 141,d 142,d 143,d 144,d 145,d 146,d 147],defers:=[] }
def kA (B:Nat) (ka:Option Addr) (ks:List Int) (kc:Nat) (t:Int) (la:Option Addr) (ln lc:Nat) (u:Int) (pa:Option Addr) (pn pc:Nat) (fd:Bool) (d:Nat→Value):Act:={ tmps:=#[d 0,.slice ka ks.length kc,d 2,.pointer (some ⟨B,0,none⟩),d 4,d 5,d 6,.int .i64 t,.slice la ln lc,.int .i64 u,.slice pa pn pc,.bool fd,.int .i64 u,d 13,d 14,d 15,d 16,d 17,d 18,d 19,d 20,d 21,d 22,d 23,d 24,d 25,d 26,d 27,d 28,d 29,d 30,d 31,d 32,d 33,d 34,d 35,d 36,d 37,d 38,d 39,d 40,d 41,d 42,d 43,d 44,d 45,d 46,d 47,d 48,d 49,d 50,d 51,d 52,d 53,d 54,d 55,d 56,d 57,d 58,d 59,d 60,d 61,d 62,d 63,d 64,d 65,d 66,d 67,d 68,d 69,d 70,d 71,d 72,d 73,d 74,d 75,d 76,d 77,d 78,d 79,d 80,d 81,d 82,d 83,d 84,d 85,d 86,d 87,d 88,d 89,d 90,d 91,d 92,d 93,d 94,d 95,d 96,d 97,d 98,d 99,d 100,d 101,d 102,d 103,d 104,d 105,d 106,d 107,d 108,d 109,d 110,d 111,d 112,d 113,d 114,d 115,d 116,d 117,d 118,d 119,d 120,d 121,d 122,d 123,d 124,d 125,d 126,d 127,d 128,d 129,d 130,d 131,d 132,d 133,d 134,d 135,d 136,d 137,d 138,d 139,d 140,d 141,d 142,d 143,d 144,d 145,d 146,d 147],defers:=[] }
def kB (B:Nat) (t:Int) (pa:Option Addr) (pn pc:Nat) (fd:Bool) (na oa:Option Addr) (mn nc oc:Nat) (is:Bool) (d:Nat→Value):Act:={ tmps:=#[d 0,d 1,d 2,.pointer (some ⟨B,0,none⟩),d 4,d 5,d 6,.int .i64 t,d 8,d 9,.slice pa pn pc,.bool fd,d 12,.slice na mn nc,.slice oa mn oc,.bool is,.int .i64 0,d 17,d 18,d 19,d 20,d 21,d 22,d 23,d 24,d 25,d 26,d 27,d 28,d 29,d 30,d 31,d 32,d 33,d 34,d 35,d 36,d 37,d 38,d 39,d 40,d 41,d 42,d 43,d 44,d 45,d 46,d 47,d 48,d 49,d 50,d 51,d 52,d 53,d 54,d 55,d 56,d 57,d 58,d 59,d 60,d 61,d 62,d 63,d 64,d 65,d 66,d 67,d 68,d 69,d 70,d 71,d 72,d 73,d 74,d 75,d 76,d 77,d 78,d 79,d 80,d 81,d 82,d 83,d 84,d 85,d 86,d 87,d 88,d 89,d 90,d 91,d 92,d 93,d 94,d 95,d 96,d 97,d 98,d 99,d 100,d 101,d 102,d 103,d 104,d 105,d 106,d 107,d 108,d 109,d 110,d 111,d 112,d 113,d 114,d 115,d 116,d 117,d 118,d 119,d 120,d 121,d 122,d 123,d 124,d 125,d 126,d 127,d 128,d 129,d 130,d 131,d 132,d 133,d 134,d 135,d 136,d 137,d 138,d 139,d 140,d 141,d 142,d 143,d 144,d 145,d 146,d 147],defers:=[] }
def kC (pa:Option Addr) (pn pc:Nat) (oa:Option Addr) (mn oc:Nat) (is:Bool) (kk2 jj2:Int) (d:Nat→Value):Act:={ tmps:=#[d 0,d 1,d 2,d 3,d 4,d 5,d 6,d 7,d 8,d 9,.slice pa pn pc,d 11,d 12,d 13,.slice oa mn oc,.bool is,.int .i64 0,.bool true,.int .i64 kk2,.int .i64 jj2,d 20,d 21,d 22,d 23,d 24,d 25,d 26,d 27,d 28,d 29,d 30,d 31,d 32,d 33,d 34,d 35,d 36,d 37,d 38,d 39,d 40,d 41,d 42,d 43,d 44,d 45,d 46,d 47,d 48,d 49,d 50,d 51,d 52,d 53,d 54,d 55,d 56,d 57,d 58,d 59,d 60,d 61,d 62,d 63,d 64,d 65,d 66,d 67,d 68,d 69,d 70,d 71,d 72,d 73,d 74,d 75,d 76,d 77,d 78,d 79,d 80,d 81,d 82,d 83,d 84,d 85,d 86,d 87,d 88,d 89,d 90,d 91,d 92,d 93,d 94,d 95,d 96,d 97,d 98,d 99,d 100,d 101,d 102,d 103,d 104,d 105,d 106,d 107,d 108,d 109,d 110,d 111,d 112,d 113,d 114,d 115,d 116,d 117,d 118,d 119,d 120,d 121,d 122,d 123,d 124,d 125,d 126,d 127,d 128,d 129,d 130,d 131,d 132,d 133,d 134,d 135,d 136,d 137,d 138,d 139,d 140,d 141,d 142,d 143,d 144,d 145,d 146,d 147],defers:=[] }
def KZ0 (n:Nat) (b:Bk) (s:Int) (vr vg vm vs vc:Value) (ka:Option Addr) (ks:List Int) (kc:Nat) (a':Act) (w2:World):Prop:=∃ B x,(∃ d,a'=kG B s vr vg vm vs vc ka ks kc x d)∧LawAt w2 B b [] vr vg vm vs vc none
theorem pk_0 (hR:RawAt w b vr vg vm vs vc) (hK:KindsAt w):(pk 0).wp Tryz.prog (PZ w (KZ0 w.heap.size b s vr vg vm vs vc ka ks kc)) (kI (.agg #[vr,vg,vm,vs,vc]) (.slice ka ks.length kc) (.int .u16 s) d) w:=by
 simp only [pk,sqN,sql,sqr,cnd,blk,lpc,Tryz.f8,Option.getD_some,kI]
 have HR:=Hh hR
 have HK:=Hh hK
 clear hR hK
 go_wp2
 have hbw:Below w.heap.size w (w.alloc (.cells #[vr,vg,vm,vs,vc] 26)):=bel
 refine ⟨rfl,⟨w.heap.size,d 22,fr_of (by kernel_rfl),⟨?_,?_,?_,?_,?_,HR.out.below hbw,HK.out.below hbw,ints_nil⟩⟩,hbw⟩ <;> (rw [World.cell?_alloc_at _ _ _ _ rfl];rfl)
def KZ1 (B:Nat) (s:Int) (vr vg vm vs vc:Value) (ka:Option Addr) (ks:List Int) (kc:Nat) (x:Bool) (a':Act) (w2:World):Prop:=∃ d,a'=kG B s vr vg vm vs vc ka ks kc (.bool x) d
theorem pk_1 {y:Bool} (hE:LawAt w B b [] vr vg vm vs vc none) (hx:y=true↔¬ (SmallB b∧bookAl b=0)):(sql (pk 1)).wp Tryz.prog (PZ w (KZ1 B s vr vg vm vs vc ka ks kc y)) (kG B s vr vg vm vs vc ka ks kc x d) w:=by
 simp only [pk,sqN,sql,sqr,cnd,blk,lpc,Tryz.f8,Option.getD_some,kG]
 have hrw:=hE.raw
 obtain ⟨x0,x1,x2,x3,x4,_,_,_⟩:=hE
 have HRW:=Hh hrw
 have hB0:=lt_of_cell x0
 simp only at hB0
 by_cases hs:SmallB b∧bookAl b=0
 ·have HG:=Hh (show (true=true↔SmallB b∧bookAl b=0) by simp [hs])
  obtain rfl:y=false:=by
   cases y with
   | false=>rfl
   | true=>exact absurd hs (hx.1 rfl)
  clear hs hx hrw
  go_wp2_with (go_at_call 13;(with_reducible refine (fit_at HRW.out HG.out).mono ?_);rintro e w1 ⟨rfl,hb1⟩)
  exact ⟨rfl,fr_of (by kernel_rfl),hb1⟩
 ·have HG:=Hh (show (false=true↔SmallB b∧bookAl b=0) by simp [hs])
  obtain rfl:y=true:=hx.2 fun h=>hs h
  clear hs hx hrw
  go_wp2_with (go_at_call 13;(with_reducible refine (fit_at HRW.out HG.out).mono ?_);rintro e w1 ⟨rfl,hb1⟩)
  exact ⟨rfl,fr_of (by kernel_rfl),hb1⟩
variable {B lc pc nc oc kc ln pn:Nat} {b:Bk} {s t u kk2 jj2:Int} {fd is:Bool} {vr vg vm vs vc x:Value} {w w0:World} {la pa na oa ka:Option Addr} {ks q ql ot ot2:List Int} {l:List Prt} {d:Nat→Value}
def KZA (B:Nat) (b:Bk) (vr vg vm vs vc:Value) (ka:Option Addr) (ks:List Int) (kc:Nat) (t:Int) (l:List Prt) (u:Int) (q:List Int) (fd:Bool) (a':Act) (w2:World):Prop:=∃ la lc pa pc,(∃ d,a'=kA B ka ks kc t la l.length lc u pa q.length pc fd d)∧PkSt w2 B b vr vg vm vs vc∧PartsAt w2 la l∧IntsAt w2 pa q
theorem pk_A (hE:PkSt w B b vr vg vm vs vc) (hS:SmallB b) (hs0:0≤s) (hs1:s≤65535) (ht:s % 1000=t) (ht0:0≤t) (ht1:t≤999) (hmi:miss b=l) (hu:openAl b 0=u) (hpq:packQ b t=(q,fd)) :
 wps Tryz.prog [pk 2,pk 3,pk 4] (fun a' w2=>KZA B b vr vg vm vs vc ka ks kc t l u q fd a' w2∧Old w w2) (kG B s vr vg vm vs vc ka ks kc x d) w:=by
 unfold kG
 have HNM:=Hh hS.names
 have HMI:=Hh hmi
 have HU:=Hh hu
 have HPQ:=Hh hpq
 have OO0:=Hh (Old.refl w)
 clear hS hmi hu hpq
 refine wps_nq ?_
 obtain ⟨c9,hcc⟩:∃ c,pk 2=c:=⟨_,rfl⟩
 rw [hcc]
 simp only [pk,sqN,sql,sqr,cnd,blk,lpc,Tryz.f8,Option.getD_some] at hcc
 subst hcc
 have E0:=Hh hE
 clear hE
 go_wp2
 have hE:=E0.out
 clear E0
 refine ⟨rfl,fun X1 t1=>?_⟩
 have o1:=Old.twin0 (Old.refl _) t1
 have E1:=hE.old o1
 have OO1:=Hh (OO0.out.trans o1)
 clear hE t1 o1 OO0
 refine wps_nq ?_
 obtain ⟨c9,hcc⟩:∃ c,pk 3=c:=⟨_,rfl⟩
 rw [hcc]
 simp only [pk,sqN,sql,sqr,cnd,blk,lpc,Tryz.f8,Option.getD_some] at hcc
 subst hcc
 obtain ⟨c0,c1,c2,c3,c4,_,_⟩:=id E1
 have HBx:=Hh E1.bk
 have HKx:=Hh E1.kd
 have EE:=Hh E1
 clear E1
 have hB0:=lt_of_cell c0
 simp only at hB0
 go_wp2_with (go_at_call 17;(with_reducible refine (missing2_at HBx.out HNM.out HKx.out HMI.out HU.out).mono ?_);rintro e w1 ⟨qa,qc,rfl,hx1,hb1⟩)
 refine ⟨rfl,fun X2 t1=>?_⟩
 have o1:=Old.twin0 (Old.ofBelow hb1) t1
 have E2:=EE.out.old o1
 have OO2:=Hh (OO1.out.trans o1)
 have LI:=Hh (t1.parts hx1)
 clear c0 c1 c2 c3 c4 HBx HKx EE hB0 t1 o1 hb1 OO1 hx1
 refine wps_nq ?_
 obtain ⟨c9,hcc⟩:∃ c,pk 4=c:=⟨_,rfl⟩
 rw [hcc]
 simp only [pk,sqN,sql,sqr,cnd,blk,lpc,Tryz.f8,Option.getD_some] at hcc
 subst hcc
 obtain ⟨c0,c1,c2,c3,c4,_,_⟩:=id E2
 have HBx:=Hh E2.bk
 have HKx:=Hh E2.kd
 have EE:=Hh E2
 clear E2
 have hB0:=lt_of_cell c0
 simp only at hB0
 go_wp2_with (go_at_call 43;(with_reducible refine (pack2_at HBx.out HNM.out HKx.out t ht0 ht1 HPQ.out HU.out).mono ?_);rintro e w1 ⟨ra,rc,rfl,hx1,hb1⟩)
 refine ⟨rfl,fun X3 t1=>?_⟩
 have o1:=Old.twin0 (Old.ofBelow hb1) t1
 have E3:=EE.out.old o1
 have OO3:=Hh (OO2.out.trans o1)
 replace LI:=Hh (o1.parts LI.out)
 have QI:=Hh (t1.ints hx1)
 clear c0 c1 c2 c3 c4 HBx HKx EE hB0 t1 o1 hb1 OO2 hx1
 exact ⟨⟨qa,qc,ra,rc,fr_of (by kernel_rfl),E3,LI.out,QI.out⟩,OO3.out⟩
def KZ5 (B:Nat) (ka:Option Addr) (ks:List Int) (kc:Nat) (t:Int) (la:Option Addr) (ln lc:Nat) (pa:Option Addr) (pc:Nat) (a':Act) (w2:World):Prop:=a'.tmps[40]? = some (.bool true)∧∃ d,a'=kA B ka ks kc t la ln lc 10 pa 0 pc false d
theorem pk_5:(sql (pk 5)).wp Tryz.prog (PZ w (KZ5 B ka ks kc t la ln lc pa pc)) (kA B ka ks kc t la ln lc 10 pa 0 pc false d) w:=by
 simp only [pk,sqN,sql,sqr,cnd,blk,lpc,Tryz.f8,Option.getD_some,kA]
 go_wp2
 exact ⟨rfl,⟨rfl,fr_of (by kernel_rfl)⟩,bel⟩
variable {B lc pc nc oc kc ln pn:Nat} {b:Bk} {s t u kk2 jj2:Int} {fd is:Bool} {vr vg vm vs vc x:Value} {w w0:World} {la pa na oa ka:Option Addr} {ks q ql ot ot2:List Int} {l:List Prt} {d:Nat→Value}
def KZB (B:Nat) (b:Bk) (vr vg vm vs vc:Value) (t:Int) (pa:Option Addr) (q:List Int) (pc:Nat) (fd:Bool) (ot:List Int) (is:Bool) (a':Act) (w2:World):Prop:=∃ na oa nc oc,(∃ d,a'=kB B t pa q.length pc fd na oa b.ms.length nc oc is d)∧PkSt w2 B b vr vg vm vs vc∧IntsAt w2 pa q∧IntsAt w2 na (loadsI b)∧IntsAt w2 oa ot
theorem pk_B {o:List Int} (hE:PkSt w B b vr vg vm vs vc) (hL:PartsAt w la l) (hQ:IntsAt w pa q) (hUs:U16sAt w ka ks) (hS:SmallB b) (hk:bookAl b=0) (hu:openAl b 0=0) (ht0:0≤t) (ht1:t≤999) (hmi:missI b=l) (hot:planP ks (loadsI b)=ot) (ho:planOk (loadsI b) ot=some o) (his:goodI b ot o t=is) :
 wps Tryz.prog [pk 5,pk 6,pk 7,pk 8,pk 9,pk 10] (fun a' w2=>KZB B b vr vg vm vs vc t pa q pc fd ot is a' w2∧Old w w2) (kA B ka ks kc t la l.length lc 0 pa q.length pc fd d) w:=by
 unfold kA
 have hml:b.ms.length≤20:=hS.1
 have hll:l.length≤20:=by rw [← hmi];exact missI_bd hk
 have hli:loadsI b=loadsOf b.ms.length l:=by rw [← hmi];rfl
 have hlen:(loadsI b).length=b.ms.length:=loadsI_len b
 have hotl:ot.length=b.ms.length:=by rw [← hot,planP_len,hlen]
 have HNM:=Hh hS.names
 have HGR:=Hh (bookAl_ok hk).1.groups
 have HMI:=Hh hmi
 have HP:=Hh (show ∀ p∈l,isPart b p=true from fun p hp=>missI_isPart (by rw [hmi];exact hp))
 have HSO:=Hh (show l.Pairwise LexLt by rw [← hmi];exact missI_sorted b)
 have HLI:=Hh hli
 have HLEN:=Hh hlen
 have HOT:=Hh hot
 have HOL:=Hh hotl
 have HO:=Hh ho
 have HIS:=Hh his
 have HPA:=Hh (plan_asked hu hotl ht0 ht1)
 have LI:=Hh hL
 have QI:=Hh hQ
 have UI:=Hh hUs
 have OO0:=Hh (Old.refl w)
 clear hS hk hu hmi hot ho his hL hQ hUs hli hlen hotl
 refine wps_nq ?_
 obtain ⟨c9,hcc⟩:∃ c,pk 5=c:=⟨_,rfl⟩
 rw [hcc]
 simp only [pk,sqN,sql,sqr,cnd,blk,lpc,Tryz.f8,Option.getD_some] at hcc
 subst hcc
 have E0:=Hh hE
 clear hE
 go_wp2
 have hE:=E0.out
 clear E0
 refine ⟨rfl,fun X1 t1=>?_⟩
 have o1:=Old.twin0 (Old.refl _) t1
 have E1:=hE.old o1
 have OO1:=Hh (OO0.out.trans o1)
 replace LI:=Hh (o1.parts LI.out)
 replace QI:=Hh (o1.ints QI.out)
 replace UI:=Hh (UI.out.ol o1)
 clear hE t1 o1 OO0
 refine wps_nq ?_
 obtain ⟨c9,hcc⟩:∃ c,pk 6=c:=⟨_,rfl⟩
 rw [hcc]
 simp only [pk,sqN,sql,sqr,cnd,blk,lpc,Tryz.f8,Option.getD_some] at hcc
 subst hcc
 obtain ⟨c0,c1,c2,c3,c4,_,_⟩:=id E1
 have HBx:=Hh E1.bk
 have HKx:=Hh E1.kd
 have EE:=Hh E1
 clear E1
 have hB0:=lt_of_cell c0
 simp only at hB0
 go_wp2_with (go_at_call 18;(with_reducible refine (ordered_at HBx.out HGR.out LI.out rfl (by omega) HP.out HSO.out).mono ?_);rintro e w1 ⟨rfl,hb1⟩)
 refine ⟨rfl,fun X2 t1=>?_⟩
 have o1:=Old.twin0 (Old.ofBelow hb1) t1
 have E2:=EE.out.old o1
 have OO2:=Hh (OO1.out.trans o1)
 replace LI:=Hh (o1.parts LI.out)
 replace QI:=Hh (o1.ints QI.out)
 replace UI:=Hh (UI.out.ol o1)
 clear c0 c1 c2 c3 c4 HBx HKx EE hB0 t1 o1 hb1 OO1
 refine wps_nq ?_
 obtain ⟨c9,hcc⟩:∃ c,pk 7=c:=⟨_,rfl⟩
 rw [hcc]
 simp only [pk,sqN,sql,sqr,cnd,blk,lpc,Tryz.f8,Option.getD_some] at hcc
 subst hcc
 obtain ⟨c0,c1,c2,c3,c4,_,_⟩:=id E2
 have HBx:=Hh E2.bk
 have HKx:=Hh E2.kd
 have EE:=Hh E2
 clear E2
 have hB0:=lt_of_cell c0
 simp only at hB0
 go_wp2_with (go_at_call 32;(with_reducible refine (loads_at HBx.out hml LI.out rfl (by omega) HP.out).mono ?_);rintro e w1 ⟨na,nc,rfl,hx1,hb1⟩)
 rw [← HLI.out] at hx1 ⊢
 rw [HLEN.out]
 refine ⟨rfl,fun X3 t1=>?_⟩
 have o1:=Old.twin0 (Old.ofBelow hb1) t1
 have E3:=EE.out.old o1
 have OO3:=Hh (OO2.out.trans o1)
 replace QI:=Hh (o1.ints QI.out)
 replace UI:=Hh (UI.out.ol o1)
 have NI:=Hh (t1.ints hx1)
 clear c0 c1 c2 c3 c4 HBx HKx EE hB0 t1 o1 hb1 OO2 hx1
 refine wps_nq ?_
 obtain ⟨c9,hcc⟩:∃ c,pk 8=c:=⟨_,rfl⟩
 rw [hcc]
 simp only [pk,sqN,sql,sqr,cnd,blk,lpc,Tryz.f8,Option.getD_some] at hcc
 subst hcc
 obtain ⟨c0,c1,c2,c3,c4,_,_⟩:=id E3
 have HBx:=Hh E3.bk
 have HKx:=Hh E3.kd
 have EE:=Hh E3
 clear E3
 have hB0:=lt_of_cell c0
 simp only at hB0
 go_wp2_with (go_at_call 33;(with_reducible refine (plan_at NI.out HLEN.out.symm (by rw [HLEN.out];omega) UI.out rfl).mono ?_);rintro e w1 ⟨oa,oc,rfl,hx1,hb1⟩)
 rw [HOT.out] at hx1 ⊢
 rw [HOL.out]
 refine ⟨rfl,fun X4 t1=>?_⟩
 have o1:=Old.twin0 (Old.ofBelow hb1) t1
 have E4:=EE.out.old o1
 have OO4:=Hh (OO3.out.trans o1)
 replace QI:=Hh (o1.ints QI.out)
 replace NI:=Hh (o1.ints NI.out)
 have OI:=Hh (t1.ints hx1)
 clear c0 c1 c2 c3 c4 HBx HKx EE hB0 t1 o1 hb1 OO3 hx1
 refine wps_nq ?_
 obtain ⟨c9,hcc⟩:∃ c,pk 9=c:=⟨_,rfl⟩
 rw [hcc]
 simp only [pk,sqN,sql,sqr,cnd,blk,lpc,Tryz.f8,Option.getD_some] at hcc
 subst hcc
 obtain ⟨c0,c1,c2,c3,c4,_,_⟩:=id E4
 have HBx:=Hh E4.bk
 have HKx:=Hh E4.kd
 have EE:=Hh E4
 clear E4
 have hB0:=lt_of_cell c0
 simp only at hB0
 go_wp2_with (go_at_call 44;(with_reducible refine (goodApi_ok HBx.out HNM.out HKx.out HOL.out.symm OI.out t HPA.out HO.out).mono ?_);rintro e w1 ⟨rfl,hb1⟩)
 rw [HIS.out]
 refine ⟨rfl,fun X5 t1=>?_⟩
 have o1:=Old.twin0 (Old.ofBelow hb1) t1
 have E5:=EE.out.old o1
 have OO5:=Hh (OO4.out.trans o1)
 replace QI:=Hh (o1.ints QI.out)
 replace NI:=Hh (o1.ints NI.out)
 replace OI:=Hh (o1.ints OI.out)
 clear c0 c1 c2 c3 c4 HBx HKx EE hB0 t1 o1 hb1 OO4
 refine wps_nq ?_
 obtain ⟨c9,hcc⟩:∃ c,pk 10=c:=⟨_,rfl⟩
 rw [hcc]
 simp only [pk,sqN,sql,sqr,cnd,blk,lpc,Tryz.f8,Option.getD_some] at hcc
 subst hcc
 have E5':=Hh E5
 clear E5
 go_wp2
 have E5:=E5'.out
 clear E5'
 refine ⟨rfl,fun X6 t1=>?_⟩
 have o1:=Old.twin0 (Old.refl _) t1
 have E6:=E5.old o1
 have OO6:=Hh (OO5.out.trans o1)
 replace QI:=Hh (o1.ints QI.out)
 replace NI:=Hh (o1.ints NI.out)
 replace OI:=Hh (o1.ints OI.out)
 clear t1 o1 OO5
 exact ⟨⟨na,oa,nc,oc,fr_of (by kernel_rfl),E6,QI.out,NI.out,OI.out⟩,OO6.out⟩
def KZ11 (B:Nat) (t:Int) (pa:Option Addr) (pn pc:Nat) (fd:Bool) (na oa:Option Addr) (mn nc oc:Nat) (is:Bool) (a':Act) (w2:World):Prop:=a'.tmps[84]? = some (.bool (!fd))∧∃ d,a'=kB B t pa pn pc fd na oa mn nc oc is d
theorem pk_11 {mn:Nat}:(sql (pk 11)).wp Tryz.prog (PZ w (KZ11 B t pa pn pc fd na oa mn nc oc is)) (kB B t pa pn pc fd na oa mn nc oc is d) w:=by
 simp only [pk,sqN,sql,sqr,cnd,blk,lpc,Tryz.f8,Option.getD_some,kB]
 go_wp2
 exact ⟨rfl,⟨rfl,fr_of (by kernel_rfl)⟩,bel⟩
variable {B lc pc nc oc kc ln pn:Nat} {b:Bk} {s t u kk2 jj2:Int} {fd is:Bool} {vr vg vm vs vc x:Value} {w w0:World} {la pa na oa ka:Option Addr} {ks q ql ot ot2:List Int} {l:List Prt} {d:Nat→Value}
def KZC (pa:Option Addr) (q:List Int) (pc:Nat) (ot:List Int) (is:Bool) (kk2 jj2:Int) (a':Act) (w2:World):Prop:=∃ oa oc,(∃ d,a'=kC pa q.length pc oa ot.length oc is kk2 jj2 d)∧KindsAt w2∧IntsAt w2 pa q∧IntsAt w2 oa ot
theorem pk_C {o o2:List Int} (hE:PkSt w B b vr vg vm vs vc) (hQ:IntsAt w pa q) (hN:IntsAt w na (loadsI b)) (hO:IntsAt w oa ot) (hS:SmallB b) (hu:openAl b 0=0) (ht0:0≤t) (ht1:t≤999) (hotl:ot.length=b.ms.length) (hql:q.length=b.ms.length) (ho:planOk (loadsI b) ot=some o) (ho2:planOk (loadsI b) q=some o2) (hg:goodI b q o2 t=true) :
 wps Tryz.prog [pk 12,pk 13,pk 14] (fun a' w2=>KZC pa q pc ot is (o.length:Int) (o2.length:Int) a' w2∧Old w w2) (kB B t pa q.length pc true na oa b.ms.length nc oc is d) w:=by
 unfold kB
 have hml:b.ms.length≤20:=hS.1
 have hlen:(loadsI b).length=b.ms.length:=loadsI_len b
 have HNM:=Hh hS.names
 have HLEN:=Hh hlen
 have HOL:=Hh hotl
 have HQL:=Hh hql
 have HO:=Hh ho
 have HO2:=Hh ho2
 have HG:=Hh hg
 have HPA:=Hh (plan_asked hu hql ht0 ht1)
 have QI:=Hh hQ
 have NI:=Hh hN
 have OI:=Hh hO
 have OO0:=Hh (Old.refl w)
 have hq2:((q.length:Int) != (b.ms.length:Int))=false:=by simp [hql]
 have hlz:decide ((o2.length:Int) < 0)=false:=by rw [decide_eq_false_iff_not];omega
 obtain ⟨-,-,⟨ma,mc,rfl,-,-⟩,-⟩:=id hE.bk
 clear hS hu hotl hql ho ho2 hg hQ hN hO hlen
 refine wps_nq ?_
 obtain ⟨c9,hcc⟩:∃ c,pk 12=c:=⟨_,rfl⟩
 rw [hcc]
 simp only [pk,sqN,sql,sqr,cnd,blk,lpc,Tryz.f8,Option.getD_some] at hcc
 subst hcc
 obtain ⟨c0,c1,c2,c3,c4,_,_⟩:=id hE
 have HBx:=Hh hE.bk
 have HKx:=Hh hE.kd
 have EE:=Hh hE
 clear hE
 have hB0:=lt_of_cell c0
 simp only at hB0
 go_wp2_with (go_at_call 34;(with_reducible refine (tapesOf_at NI.out QI.out HLEN.out.symm rfl (by rw [HLEN.out,HQL.out]) (by rw [HQL.out];omega) HO2.out).mono ?_);rintro e w1 ⟨rfl,hb1⟩)
 refine ⟨rfl,fun X1 t1=>?_⟩
 have o1:=Old.twin0 (Old.ofBelow hb1) t1
 have E1:=EE.out.old o1
 have OO1:=Hh (OO0.out.trans o1)
 replace QI:=Hh (o1.ints QI.out)
 replace NI:=Hh (o1.ints NI.out)
 replace OI:=Hh (o1.ints OI.out)
 clear c0 c1 c2 c3 c4 HBx HKx EE hB0 t1 o1 hb1 OO0
 refine wps_nq ?_
 obtain ⟨c9,hcc⟩:∃ c,pk 13=c:=⟨_,rfl⟩
 rw [hcc]
 simp only [pk,sqN,sql,sqr,cnd,blk,lpc,Tryz.f8,Option.getD_some] at hcc
 subst hcc
 obtain ⟨c0,c1,c2,c3,c4,_,_⟩:=id E1
 have HBx:=Hh E1.bk
 have HKx:=Hh E1.kd
 have EE:=Hh E1
 clear E1
 have hB0:=lt_of_cell c0
 simp only at hB0
 go_wp2_with (go_at_call 44;(with_reducible refine (goodApi_ok HBx.out HNM.out HKx.out rfl QI.out t HPA.out HO2.out).mono ?_);rintro e w1 ⟨rfl,hb1⟩)
 rw [HG.out]
 refine ⟨rfl,fun X2 t1=>?_⟩
 have o1:=Old.twin0 (Old.ofBelow hb1) t1
 have E2:=EE.out.old o1
 have OO2:=Hh (OO1.out.trans o1)
 replace QI:=Hh (o1.ints QI.out)
 replace NI:=Hh (o1.ints NI.out)
 replace OI:=Hh (o1.ints OI.out)
 clear c0 c1 c2 c3 c4 HBx HKx EE hB0 t1 o1 hb1 OO1
 refine wps_nq ?_
 obtain ⟨c9,hcc⟩:∃ c,pk 14=c:=⟨_,rfl⟩
 rw [hcc]
 simp only [pk,sqN,sql,sqr,cnd,blk,lpc,Tryz.f8,Option.getD_some] at hcc
 subst hcc
 obtain ⟨c0,c1,c2,c3,c4,_,_⟩:=id E2
 have HBx:=Hh E2.bk
 have HKx:=Hh E2.kd
 have EE:=Hh E2
 clear E2
 have hB0:=lt_of_cell c0
 simp only at hB0
 go_wp2_with (first
  | (go_at_call 34;(with_reducible refine (tapesOf_at NI.out OI.out HLEN.out.symm HOL.out.symm (by rw [HLEN.out,HOL.out]) (by rw [HOL.out];omega) HO.out).mono ?_);rintro e w1 ⟨rfl,hbA⟩)
  | (go_at_call 34;(with_reducible refine (tapesOf_at (NI.out.below hbA) (QI.out.below hbA) HLEN.out.symm rfl (by rw [HLEN.out,HQL.out]) (by rw [HQL.out];omega) HO2.out).mono ?_);rintro e w2 ⟨rfl,hbB⟩))
 have hb1:=Below.next hbA hbB
 refine ⟨rfl,fun X3 t1=>?_⟩
 have o1:=Old.twin0 (Old.ofBelow hb1) t1
 have E3:=EE.out.old o1
 have OO3:=Hh (OO2.out.trans o1)
 replace QI:=Hh (o1.ints QI.out)
 replace OI:=Hh (o1.ints OI.out)
 clear c0 c1 c2 c3 c4 HBx HKx EE hB0 t1 o1 hb1 OO2 hbA hbB
 exact ⟨⟨oa,oc,by rw [HOL.out];exact fr_of (by kernel_rfl),E3.kd,QI.out,OI.out⟩,OO3.out⟩
variable {B lc pc nc oc kc ln pn:Nat} {b:Bk} {s t u kk2 jj2:Int} {fd is:Bool} {vr vg vm vs vc x:Value} {w w0:World} {la pa na oa ka:Option Addr} {ks q ql ot ot2:List Int} {l:List Prt} {d:Nat→Value}
theorem pk_leaves {a:Act} {k:List Item} (g6:a.tmps[6]? = some (.bool true)) (df:a.defers=[]) (h:Old w0 w) :
 Leaving0 Tryz.prog (fun v w'=>v=.bool true∧Old w0 w') { (Go.Conc.base 8).at a k with mode:=.returning } [] w:=by
 refine ⟨rfl,rfl,rfl,df,by kernel_rfl,.bool true,_,Tryz.func8,fun d=>⟨⟨rfl,h.at d⟩,#[],?_,by simp⟩⟩
 rw [Sem.runT_eq]
 refine Prod.ext ?_ ?_ <;> simp [results,Tryz.results8,go_sem,Frame.at,Go.Conc.base,g6]
theorem pkFrame {c:Code} {x0 x1 x2:Value} (hc:Tryz.f8.body=some c):Frame.enter Tryz.prog 8 #[x0,x1,x2] .normal=(Go.Conc.base 8).at (kI x0 x1 x2 fun _=>undef) [.code c]:=by
 rw [Go.Conc.enter_at #[x0,x1,x2] Tryz.func8 hc]
 simp only [Tryz.ntmps8,kI,List.size_toArray,List.length_cons,List.length_nil,Nat.reduceAdd,Nat.reduceSub,Array.replicate_succ,Array.replicate_zero,List.push_toArray,List.append_toArray,List.nil_append,List.cons_append]
theorem pk_early2 (hold:Old w0 w) (hK:KindsAt w)  {a:Act} (q:Kn a 148 []) {kk:List Item} :
 LeadsA Tryz.prog (Leaving0 Tryz.prog fun v w'=>v=.bool true∧Old w0 w') ((Go.Conc.base 8).at a (.code (cnd (sqr (pk 1)))::kk)) [] w:=by
 have nb:(Go.Conc.base 8).kind=.normal:=rfl
 simp only [pk,sqN,sql,sqr,cnd,blk,lpc,Tryz.f8,Option.getD_some]
 refine all_seq ?_
 refine all_region ?_
 simp only [List.size_toArray,List.length_cons,List.length_nil,Nat.reduceAdd,Nat.zero_add,List.range,List.range.loop]
 refine sc 14 #[] nb rfl rfl rfl (fun w'=>by simp [go_sem];exact ev_call Tryz.func14 (by kernel_rfl) (by kernel_rfl)) q (by decide) rfl (v:=.bool true) (fun c w' t=>stored_lead2 hK t _ _) fun _ _ ho q=>?_
 replace hK:=ho.kinds hK
 replace hold:=hold.trans ho
 clear ho
 refine st (.bool true) nb rfl rfl rfl (fun _=>by simp [go_sem,q.g 23 rfl]) q (by decide) rfl fun _ q=>?_
 refine all_end ?_
 refine all_ret ?_
 intro w' t
 exact .done (pk_leaves (q.g 6 rfl) q.df (hold.twin0 t))
theorem pk_early7 (hold:Old w0 w) (hK:KindsAt w)  {a:Act} (q:Kn a 148 [(9,.int .i64 10),(10,.slice pa 0 pc),(11,.bool false),(12,.int .i64 10)]) {kk:List Item} :
 LeadsA Tryz.prog (Leaving0 Tryz.prog fun v w'=>v=.bool true∧Old w0 w') ((Go.Conc.base 8).at a (.code (cnd (sqr (pk 5)))::kk)) [] w:=by
 have nb:(Go.Conc.base 8).kind=.normal:=rfl
 simp only [pk,sqN,sql,sqr,cnd,blk,lpc,Tryz.f8,Option.getD_some]
 refine all_seq ?_
 refine all_region ?_
 simp only [List.size_toArray,List.length_cons,List.length_nil,Nat.reduceAdd,Nat.zero_add,List.range,List.range.loop]
 refine st (.int .i64 10) nb rfl rfl rfl (fun _=>by simp [go_sem,q.g 9 rfl]) q (by decide) rfl fun _ q=>?_
 refine st (.bool true) nb rfl rfl rfl (fun _=>by simp [go_sem,q.g 41 rfl]) q (by decide) rfl fun _ q=>?_
 refine st (.bool true) nb rfl rfl rfl (fun _=>by simp [go_sem,q.g 42 rfl]) q (by decide) rfl fun _ q=>?_
 refine st (.int .i64 10) nb rfl rfl (wanted_g rfl rfl rfl (q.g 43 rfl)) (fun _=>by simp [go_sem,q.g 12 rfl]) q (by decide) rfl fun _ q=>?_
 refine st (.int .i64 10) nb rfl rfl (wanted_g rfl rfl rfl (q.g 43 rfl)) (fun _=>by simp [go_sem,q.g 9 rfl]) q (by decide) rfl fun _ q=>?_
 refine st (.bool true) nb rfl rfl (wanted_g rfl rfl rfl (q.g 43 rfl)) (fun _=>by simp [go_sem,q.g 44 rfl,q.g 45 rfl]) q (by decide) rfl fun _ q=>?_
 refine st (.bool true) nb rfl rfl rfl (fun _=>by simp [go_sem,q.g 43 rfl,q.g 46 rfl]) q (by decide) rfl fun _ q=>?_
 refine st (.bool true) nb rfl rfl rfl (fun _=>by simp [go_sem,q.g 47 rfl]) q (by decide) rfl fun _ q=>?_
 refine st (.bool false) nb rfl rfl (wanted_g rfl rfl rfl (q.g 48 rfl)) (fun _=>by simp [go_sem,q.g 11 rfl]) q (by decide) rfl fun _ q=>?_
 refine st (.bool true) nb rfl rfl (wanted_g rfl rfl rfl (q.g 48 rfl)) (fun _=>by simp [go_sem,q.g 49 rfl]) q (by decide) rfl fun _ q=>?_
 refine st (.bool true) nb rfl rfl rfl (fun _=>by simp [go_sem,q.g 48 rfl,q.g 50 rfl]) q (by decide) rfl fun _ q=>?_
 refine st (.bool true) nb rfl rfl rfl (fun _=>by simp [go_sem,q.g 51 rfl]) q (by decide) rfl fun _ q=>?_
 refine st (.slice pa 0 pc) nb rfl rfl (wanted_g rfl rfl rfl (q.g 52 rfl)) (fun _=>by simp [go_sem,q.g 10 rfl]) q (by decide) rfl fun _ q=>?_
 refine st (.int .i64 0) nb rfl rfl (wanted_g rfl rfl rfl (q.g 52 rfl)) (fun _=>by simp [go_sem,q.g 53 rfl]) q (by decide) rfl fun _ q=>?_
 refine st (.bool true) nb rfl rfl (wanted_g rfl rfl rfl (q.g 52 rfl)) (fun _=>by simp [go_sem,q.g 54 rfl]) q (by decide) rfl fun _ q=>?_
 refine st (.bool true) nb rfl rfl rfl (fun _=>by simp [go_sem,q.g 52 rfl,q.g 55 rfl]) q (by decide) rfl fun _ q=>?_
 refine st (.bool true) nb rfl rfl rfl (fun _=>by simp [go_sem,q.g 56 rfl]) q (by decide) rfl fun _ q=>?_
 refine sc 14 #[] nb rfl rfl (wanted_g rfl rfl rfl (q.g 57 rfl)) (fun w'=>by simp [go_sem];exact ev_call Tryz.func14 (by kernel_rfl) (by kernel_rfl)) q (by decide) rfl (v:=.bool true) (fun c w' t=>stored_lead2 hK t _ _) fun _ _ ho q=>?_
 replace hK:=ho.kinds hK
 replace hold:=hold.trans ho
 clear ho
 refine st (.bool true) nb rfl rfl rfl (fun _=>by simp [go_sem,q.g 57 rfl,q.g 58 rfl]) q (by decide) rfl fun _ q=>?_
 refine st (.bool true) nb rfl rfl rfl (fun _=>by simp [go_sem,q.g 59 rfl]) q (by decide) rfl fun _ q=>?_
 refine all_end ?_
 refine all_ret ?_
 intro w' t
 exact .done (pk_leaves (q.g 6 rfl) q.df (hold.twin0 t))
theorem pk_early16 (hold:Old w0 w) (hK:KindsAt w)  {a:Act} (q:Kn a 148 [(10,.slice pa 0 pc),(15,.bool false)]) {kk:List Item} :
 LeadsA Tryz.prog (Leaving0 Tryz.prog fun v w'=>v=.bool true∧Old w0 w') ((Go.Conc.base 8).at a (.code (cnd (sqr (pk 11)))::kk)) [] w:=by
 have nb:(Go.Conc.base 8).kind=.normal:=rfl
 simp only [pk,sqN,sql,sqr,cnd,blk,lpc,Tryz.f8,Option.getD_some]
 refine all_seq ?_
 refine all_region ?_
 simp only [List.size_toArray,List.length_cons,List.length_nil,Nat.reduceAdd,Nat.zero_add,List.range,List.range.loop]
 refine st (.slice pa 0 pc) nb rfl rfl rfl (fun _=>by simp [go_sem,q.g 10 rfl]) q (by decide) rfl fun _ q=>?_
 refine st (.int .i64 0) nb rfl rfl rfl (fun _=>by simp [go_sem,q.g 85 rfl]) q (by decide) rfl fun _ q=>?_
 refine st (.bool true) nb rfl rfl rfl (fun _=>by simp [go_sem,q.g 86 rfl]) q (by decide) rfl fun _ q=>?_
 refine st (.bool true) nb rfl rfl rfl (fun _=>by simp [go_sem,q.g 87 rfl]) q (by decide) rfl fun _ q=>?_
 refine st (.bool false) nb rfl rfl (wanted_g rfl rfl rfl (q.g 88 rfl)) (fun _=>by simp [go_sem,q.g 15 rfl]) q (by decide) rfl fun _ q=>?_
 refine st (.bool true) nb rfl rfl (wanted_g rfl rfl rfl (q.g 88 rfl)) (fun _=>by simp [go_sem,q.g 89 rfl]) q (by decide) rfl fun _ q=>?_
 refine st (.bool true) nb rfl rfl rfl (fun _=>by simp [go_sem,q.g 88 rfl,q.g 90 rfl]) q (by decide) rfl fun _ q=>?_
 refine st (.bool true) nb rfl rfl rfl (fun _=>by simp [go_sem,q.g 91 rfl]) q (by decide) rfl fun _ q=>?_
 refine sc 14 #[] nb rfl rfl (wanted_g rfl rfl rfl (q.g 92 rfl)) (fun w'=>by simp [go_sem];exact ev_call Tryz.func14 (by kernel_rfl) (by kernel_rfl)) q (by decide) rfl (v:=.bool true) (fun c w' t=>stored_lead2 hK t _ _) fun _ _ ho q=>?_
 replace hK:=ho.kinds hK
 replace hold:=hold.trans ho
 clear ho
 refine st (.bool true) nb rfl rfl rfl (fun _=>by simp [go_sem,q.g 92 rfl,q.g 93 rfl]) q (by decide) rfl fun _ q=>?_
 refine st (.bool true) nb rfl rfl rfl (fun _=>by simp [go_sem,q.g 94 rfl]) q (by decide) rfl fun _ q=>?_
 refine all_end ?_
 refine all_ret ?_
 intro w' t
 exact .done (pk_leaves (q.g 6 rfl) q.df (hold.twin0 t))
theorem pk_last0 (hold:Old w0 w) (hK:KindsAt w)  {a:Act} (q:Kn a 148 [(10,.slice pa ql.length pc),(14,.slice oa ot.length oc),(15,.bool false),(16,.int .i64 0),(17,.bool true),(18,.int .i64 kk2),(19,.int .i64 jj2)]) :
 LeadsA Tryz.prog (Leaving0 Tryz.prog fun v w'=>v=.bool true∧Old w0 w') ((Go.Conc.base 8).at a [.code (.seq (pk 15) .ret)]) [] w:=by
 have nb:(Go.Conc.base 8).kind=.normal:=rfl
 simp only [pk,sqN,sql,sqr,cnd,blk,lpc,Tryz.f8,Option.getD_some]
 refine all_seq ?_
 refine all_region ?_
 simp only [List.size_toArray,List.length_cons,List.length_nil,Nat.reduceAdd,Nat.zero_add,List.range,List.range.loop]
 refine st (.int .i64 0) nb rfl rfl rfl (fun _=>by simp [go_sem,q.g 16 rfl]) q (by decide) rfl fun _ q=>?_
 refine st (.bool true) nb rfl rfl rfl (fun _=>by simp [go_sem,q.g 120 rfl]) q (by decide) rfl fun _ q=>?_
 refine st (.bool true) nb rfl rfl rfl (fun _=>by simp [go_sem,q.g 121 rfl]) q (by decide) rfl fun _ q=>?_
 refine st (.bool true) nb rfl rfl (wanted_g rfl rfl rfl (q.g 122 rfl)) (fun _=>by simp [go_sem,q.g 17 rfl]) q (by decide) rfl fun _ q=>?_
 refine st (.bool true) nb rfl rfl rfl (fun _=>by simp [go_sem,q.g 122 rfl,q.g 123 rfl]) q (by decide) rfl fun _ q=>?_
 refine st (.bool true) nb rfl rfl rfl (fun _=>by simp [go_sem,q.g 124 rfl]) q (by decide) rfl fun _ q=>?_
 refine st (.bool false) nb rfl rfl (wanted_g rfl rfl rfl (q.g 125 rfl)) (fun _=>by simp [go_sem,q.g 15 rfl]) q (by decide) rfl fun _ q=>?_
 refine st (.bool true) nb rfl rfl (wanted_g rfl rfl rfl (q.g 125 rfl)) (fun _=>by simp [go_sem,q.g 126 rfl]) q (by decide) rfl fun _ q=>?_
 refine st (.bool true) nb rfl rfl (wanted_g rfl rfl rfl (q.g 125 rfl)) (fun _=>by simp [go_sem,q.g 127 rfl]) q (by decide) rfl fun _ q=>?_
 refine sk rfl rfl (unwanted_g rfl rfl rfl (q.g 128 rfl)) q (by decide) rfl fun _ q=>?_
 refine sk rfl rfl (unwanted_g rfl rfl rfl (q.g 128 rfl)) q (by decide) rfl fun _ q=>?_
 refine sk rfl rfl (unwanted_g rfl rfl rfl (q.g 128 rfl)) q (by decide) rfl fun _ q=>?_
 refine st (.bool true) nb rfl rfl (wanted_g rfl rfl rfl (q.g 125 rfl)) (fun _=>by simp [go_sem,q.g 128 rfl,q.g 131 rfl]) q (by decide) rfl fun _ q=>?_
 refine st (.bool true) nb rfl rfl (wanted_g rfl rfl rfl (q.g 125 rfl)) (fun _=>by simp [go_sem,q.g 132 rfl]) q (by decide) rfl fun _ q=>?_
 refine sk rfl rfl (unwanted_g rfl rfl rfl (q.g 133 rfl)) q (by decide) rfl fun _ q=>?_
 refine sk rfl rfl (unwanted_g rfl rfl rfl (q.g 133 rfl)) q (by decide) rfl fun _ q=>?_
 refine sk rfl rfl (unwanted_g rfl rfl rfl (q.g 133 rfl)) q (by decide) rfl fun _ q=>?_
 refine sk rfl rfl (unwanted_g rfl rfl rfl (q.g 133 rfl)) q (by decide) rfl fun _ q=>?_
 refine sk rfl rfl (unwanted_u rfl rfl rfl (q.g 137 rfl)) q (by decide) rfl fun _ q=>?_
 refine sk rfl rfl (unwanted_u rfl rfl rfl (q.g 137 rfl)) q (by decide) rfl fun _ q=>?_
 refine sk rfl rfl (unwanted_u rfl rfl rfl (q.g 137 rfl)) q (by decide) rfl fun _ q=>?_
 refine sk rfl rfl (unwanted_u rfl rfl rfl (q.g 137 rfl)) q (by decide) rfl fun _ q=>?_
 refine sk rfl rfl (unwanted_g rfl rfl rfl (q.g 133 rfl)) q (by decide) rfl fun _ q=>?_
 refine st (.bool true) nb rfl rfl (wanted_g rfl rfl rfl (q.g 125 rfl)) (fun _=>by simp [go_sem,q.g 133 rfl,q.g 142 rfl]) q (by decide) rfl fun _ q=>?_
 refine st (.bool true) nb rfl rfl rfl (fun _=>by simp [go_sem,q.g 125 rfl,q.g 143 rfl]) q (by decide) rfl fun _ q=>?_
 refine st (.bool true) nb rfl rfl rfl (fun _=>by simp [go_sem,q.g 144 rfl]) q (by decide) rfl fun _ q=>?_
 refine sc 14 #[] nb rfl rfl (wanted_g rfl rfl rfl (q.g 145 rfl)) (fun w'=>by simp [go_sem];exact ev_call Tryz.func14 (by kernel_rfl) (by kernel_rfl)) q (by decide) rfl (v:=.bool true) (fun c w' t=>stored_lead2 hK t _ _) fun _ _ ho q=>?_
 replace hK:=ho.kinds hK
 replace hold:=hold.trans ho
 clear ho
 refine st (.bool true) nb rfl rfl rfl (fun _=>by simp [go_sem,q.g 145 rfl,q.g 146 rfl]) q (by decide) rfl fun _ q=>?_
 refine st (.bool true) nb rfl rfl rfl (fun _=>by simp [go_sem,q.g 147 rfl]) q (by decide) rfl fun _ q=>?_
 refine all_end ?_
 refine all_ret ?_
 intro w' t
 exact .done (pk_leaves (q.g 6 rfl) q.df (hold.twin0 t))
theorem pk_last1 (hold:Old w0 w) (hK:KindsAt w) (h1:jj2 < kk2) {a:Act} (q:Kn a 148 [(10,.slice pa ql.length pc),(14,.slice oa ot.length oc),(15,.bool true),(16,.int .i64 0),(17,.bool true),(18,.int .i64 kk2),(19,.int .i64 jj2)]) :
 LeadsA Tryz.prog (Leaving0 Tryz.prog fun v w'=>v=.bool true∧Old w0 w') ((Go.Conc.base 8).at a [.code (.seq (pk 15) .ret)]) [] w:=by
 have nb:(Go.Conc.base 8).kind=.normal:=rfl
 simp only [pk,sqN,sql,sqr,cnd,blk,lpc,Tryz.f8,Option.getD_some]
 refine all_seq ?_
 refine all_region ?_
 simp only [List.size_toArray,List.length_cons,List.length_nil,Nat.reduceAdd,Nat.zero_add,List.range,List.range.loop]
 refine st (.int .i64 0) nb rfl rfl rfl (fun _=>by simp [go_sem,q.g 16 rfl]) q (by decide) rfl fun _ q=>?_
 refine st (.bool true) nb rfl rfl rfl (fun _=>by simp [go_sem,q.g 120 rfl]) q (by decide) rfl fun _ q=>?_
 refine st (.bool true) nb rfl rfl rfl (fun _=>by simp [go_sem,q.g 121 rfl]) q (by decide) rfl fun _ q=>?_
 refine st (.bool true) nb rfl rfl (wanted_g rfl rfl rfl (q.g 122 rfl)) (fun _=>by simp [go_sem,q.g 17 rfl]) q (by decide) rfl fun _ q=>?_
 refine st (.bool true) nb rfl rfl rfl (fun _=>by simp [go_sem,q.g 122 rfl,q.g 123 rfl]) q (by decide) rfl fun _ q=>?_
 refine st (.bool true) nb rfl rfl rfl (fun _=>by simp [go_sem,q.g 124 rfl]) q (by decide) rfl fun _ q=>?_
 refine st (.bool true) nb rfl rfl (wanted_g rfl rfl rfl (q.g 125 rfl)) (fun _=>by simp [go_sem,q.g 15 rfl]) q (by decide) rfl fun _ q=>?_
 refine st (.bool false) nb rfl rfl (wanted_g rfl rfl rfl (q.g 125 rfl)) (fun _=>by simp [go_sem,q.g 126 rfl]) q (by decide) rfl fun _ q=>?_
 refine st (.bool false) nb rfl rfl (wanted_g rfl rfl rfl (q.g 125 rfl)) (fun _=>by simp [go_sem,q.g 127 rfl]) q (by decide) rfl fun _ q=>?_
 refine st (.int .i64 kk2) nb rfl rfl (wanted_g rfl rfl rfl (q.g 128 rfl)) (fun _=>by simp [go_sem,q.g 18 rfl]) q (by decide) rfl fun _ q=>?_
 refine st (.int .i64 jj2) nb rfl rfl (wanted_g rfl rfl rfl (q.g 128 rfl)) (fun _=>by simp [go_sem,q.g 19 rfl]) q (by decide) rfl fun _ q=>?_
 refine st (.bool true) nb rfl rfl (wanted_g rfl rfl rfl (q.g 128 rfl)) (fun _=>by simp [go_sem,q.g 129 rfl,q.g 130 rfl,h1]) q (by decide) rfl fun _ q=>?_
 refine st (.bool true) nb rfl rfl (wanted_g rfl rfl rfl (q.g 125 rfl)) (fun _=>by simp [go_sem,q.g 128 rfl,q.g 131 rfl]) q (by decide) rfl fun _ q=>?_
 refine st (.bool true) nb rfl rfl (wanted_g rfl rfl rfl (q.g 125 rfl)) (fun _=>by simp [go_sem,q.g 132 rfl]) q (by decide) rfl fun _ q=>?_
 refine sk rfl rfl (unwanted_g rfl rfl rfl (q.g 133 rfl)) q (by decide) rfl fun _ q=>?_
 refine sk rfl rfl (unwanted_g rfl rfl rfl (q.g 133 rfl)) q (by decide) rfl fun _ q=>?_
 refine sk rfl rfl (unwanted_g rfl rfl rfl (q.g 133 rfl)) q (by decide) rfl fun _ q=>?_
 refine sk rfl rfl (unwanted_g rfl rfl rfl (q.g 133 rfl)) q (by decide) rfl fun _ q=>?_
 refine sk rfl rfl (unwanted_u rfl rfl rfl (q.g 137 rfl)) q (by decide) rfl fun _ q=>?_
 refine sk rfl rfl (unwanted_u rfl rfl rfl (q.g 137 rfl)) q (by decide) rfl fun _ q=>?_
 refine sk rfl rfl (unwanted_u rfl rfl rfl (q.g 137 rfl)) q (by decide) rfl fun _ q=>?_
 refine sk rfl rfl (unwanted_u rfl rfl rfl (q.g 137 rfl)) q (by decide) rfl fun _ q=>?_
 refine sk rfl rfl (unwanted_g rfl rfl rfl (q.g 133 rfl)) q (by decide) rfl fun _ q=>?_
 refine st (.bool true) nb rfl rfl (wanted_g rfl rfl rfl (q.g 125 rfl)) (fun _=>by simp [go_sem,q.g 133 rfl,q.g 142 rfl]) q (by decide) rfl fun _ q=>?_
 refine st (.bool true) nb rfl rfl rfl (fun _=>by simp [go_sem,q.g 125 rfl,q.g 143 rfl]) q (by decide) rfl fun _ q=>?_
 refine st (.bool true) nb rfl rfl rfl (fun _=>by simp [go_sem,q.g 144 rfl]) q (by decide) rfl fun _ q=>?_
 refine sc 14 #[] nb rfl rfl (wanted_g rfl rfl rfl (q.g 145 rfl)) (fun w'=>by simp [go_sem];exact ev_call Tryz.func14 (by kernel_rfl) (by kernel_rfl)) q (by decide) rfl (v:=.bool true) (fun c w' t=>stored_lead2 hK t _ _) fun _ _ ho q=>?_
 replace hK:=ho.kinds hK
 replace hold:=hold.trans ho
 clear ho
 refine st (.bool true) nb rfl rfl rfl (fun _=>by simp [go_sem,q.g 145 rfl,q.g 146 rfl]) q (by decide) rfl fun _ q=>?_
 refine st (.bool true) nb rfl rfl rfl (fun _=>by simp [go_sem,q.g 147 rfl]) q (by decide) rfl fun _ q=>?_
 refine all_end ?_
 refine all_ret ?_
 intro w' t
 exact .done (pk_leaves (q.g 6 rfl) q.df (hold.twin0 t))
theorem pk_last2 (hold:Old w0 w) (hK:KindsAt w) (hx:IntsAt w pa ql) (hy:IntsAt w oa ot) (hql:ql.length≤1000000) (hml:ot.length≤1000000) (hf:lesserI ot ql=false) {a:Act} (q:Kn a 148 [(10,.slice pa ql.length pc),(14,.slice oa ot.length oc),(15,.bool true),(16,.int .i64 0),(17,.bool true),(18,.int .i64 kk2),(19,.int .i64 kk2)]) :
 LeadsA Tryz.prog (Leaving0 Tryz.prog fun v w'=>v=.bool true∧Old w0 w') ((Go.Conc.base 8).at a [.code (.seq (pk 15) .ret)]) [] w:=by
 have nb:(Go.Conc.base 8).kind=.normal:=rfl
 simp only [pk,sqN,sql,sqr,cnd,blk,lpc,Tryz.f8,Option.getD_some]
 refine all_seq ?_
 refine all_region ?_
 simp only [List.size_toArray,List.length_cons,List.length_nil,Nat.reduceAdd,Nat.zero_add,List.range,List.range.loop]
 refine st (.int .i64 0) nb rfl rfl rfl (fun _=>by simp [go_sem,q.g 16 rfl]) q (by decide) rfl fun _ q=>?_
 refine st (.bool true) nb rfl rfl rfl (fun _=>by simp [go_sem,q.g 120 rfl]) q (by decide) rfl fun _ q=>?_
 refine st (.bool true) nb rfl rfl rfl (fun _=>by simp [go_sem,q.g 121 rfl]) q (by decide) rfl fun _ q=>?_
 refine st (.bool true) nb rfl rfl (wanted_g rfl rfl rfl (q.g 122 rfl)) (fun _=>by simp [go_sem,q.g 17 rfl]) q (by decide) rfl fun _ q=>?_
 refine st (.bool true) nb rfl rfl rfl (fun _=>by simp [go_sem,q.g 122 rfl,q.g 123 rfl]) q (by decide) rfl fun _ q=>?_
 refine st (.bool true) nb rfl rfl rfl (fun _=>by simp [go_sem,q.g 124 rfl]) q (by decide) rfl fun _ q=>?_
 refine st (.bool true) nb rfl rfl (wanted_g rfl rfl rfl (q.g 125 rfl)) (fun _=>by simp [go_sem,q.g 15 rfl]) q (by decide) rfl fun _ q=>?_
 refine st (.bool false) nb rfl rfl (wanted_g rfl rfl rfl (q.g 125 rfl)) (fun _=>by simp [go_sem,q.g 126 rfl]) q (by decide) rfl fun _ q=>?_
 refine st (.bool false) nb rfl rfl (wanted_g rfl rfl rfl (q.g 125 rfl)) (fun _=>by simp [go_sem,q.g 127 rfl]) q (by decide) rfl fun _ q=>?_
 refine st (.int .i64 kk2) nb rfl rfl (wanted_g rfl rfl rfl (q.g 128 rfl)) (fun _=>by simp [go_sem,q.g 18 rfl]) q (by decide) rfl fun _ q=>?_
 refine st (.int .i64 kk2) nb rfl rfl (wanted_g rfl rfl rfl (q.g 128 rfl)) (fun _=>by simp [go_sem,q.g 19 rfl]) q (by decide) rfl fun _ q=>?_
 refine st (.bool false) nb rfl rfl (wanted_g rfl rfl rfl (q.g 128 rfl)) (fun _=>by simp [go_sem,q.g 129 rfl,q.g 130 rfl]) q (by decide) rfl fun _ q=>?_
 refine st (.bool false) nb rfl rfl (wanted_g rfl rfl rfl (q.g 125 rfl)) (fun _=>by simp [go_sem,q.g 128 rfl,q.g 131 rfl]) q (by decide) rfl fun _ q=>?_
 refine st (.bool false) nb rfl rfl (wanted_g rfl rfl rfl (q.g 125 rfl)) (fun _=>by simp [go_sem,q.g 132 rfl]) q (by decide) rfl fun _ q=>?_
 refine st (.int .i64 kk2) nb rfl rfl (wanted_g rfl rfl rfl (q.g 133 rfl)) (fun _=>by simp [go_sem,q.g 18 rfl]) q (by decide) rfl fun _ q=>?_
 refine st (.int .i64 kk2) nb rfl rfl (wanted_g rfl rfl rfl (q.g 133 rfl)) (fun _=>by simp [go_sem,q.g 19 rfl]) q (by decide) rfl fun _ q=>?_
 refine st (.bool true) nb rfl rfl (wanted_g rfl rfl rfl (q.g 133 rfl)) (fun _=>by simp [go_sem,q.g 134 rfl,q.g 135 rfl]) q (by decide) rfl fun _ q=>?_
 refine st (.bool true) nb rfl rfl (wanted_g rfl rfl rfl (q.g 133 rfl)) (fun _=>by simp [go_sem,q.g 136 rfl]) q (by decide) rfl fun _ q=>?_
 refine st (.slice oa ot.length oc) nb rfl rfl (wanted_g rfl rfl rfl (q.g 137 rfl)) (fun _=>by simp [go_sem,q.g 14 rfl]) q (by decide) rfl fun _ q=>?_
 refine st (.slice pa ql.length pc) nb rfl rfl (wanted_g rfl rfl rfl (q.g 137 rfl)) (fun _=>by simp [go_sem,q.g 10 rfl]) q (by decide) rfl fun _ q=>?_
 refine sc 45 #[.slice oa ot.length oc,.slice pa ql.length pc] nb rfl rfl (wanted_g rfl rfl rfl (q.g 137 rfl)) (fun w'=>by simp [go_sem,q.g 138 rfl,q.g 139 rfl];exact ev_call Tryz.func45 (by kernel_rfl) (by kernel_rfl)) q (by decide) rfl (v:=.bool false) (fun c w' t=>lone_call (v:=.bool false) t fun W hW=>(lesser_at (hW.ints hy) (hW.ints hx) rfl rfl hml hql hf).mono (by rintro e w2 ⟨rfl,hb⟩;exact ⟨rfl,hb⟩)) fun _ _ ho q=>?_
 replace hK:=ho.kinds hK
 replace hx:=ho.ints hx
 replace hy:=ho.ints hy
 replace hold:=hold.trans ho
 clear ho
 refine st (.bool true) nb rfl rfl (wanted_g rfl rfl rfl (q.g 137 rfl)) (fun _=>by simp [go_sem,q.g 140 rfl]) q (by decide) rfl fun _ q=>?_
 refine st (.bool true) nb rfl rfl (wanted_g rfl rfl rfl (q.g 133 rfl)) (fun _=>by simp [go_sem,q.g 137 rfl,q.g 141 rfl]) q (by decide) rfl fun _ q=>?_
 refine st (.bool true) nb rfl rfl (wanted_g rfl rfl rfl (q.g 125 rfl)) (fun _=>by simp [go_sem,q.g 133 rfl,q.g 142 rfl]) q (by decide) rfl fun _ q=>?_
 refine st (.bool true) nb rfl rfl rfl (fun _=>by simp [go_sem,q.g 125 rfl,q.g 143 rfl]) q (by decide) rfl fun _ q=>?_
 refine st (.bool true) nb rfl rfl rfl (fun _=>by simp [go_sem,q.g 144 rfl]) q (by decide) rfl fun _ q=>?_
 refine sc 14 #[] nb rfl rfl (wanted_g rfl rfl rfl (q.g 145 rfl)) (fun w'=>by simp [go_sem];exact ev_call Tryz.func14 (by kernel_rfl) (by kernel_rfl)) q (by decide) rfl (v:=.bool true) (fun c w' t=>stored_lead2 hK t _ _) fun _ _ ho q=>?_
 replace hK:=ho.kinds hK
 replace hx:=ho.ints hx
 replace hy:=ho.ints hy
 replace hold:=hold.trans ho
 clear ho
 refine st (.bool true) nb rfl rfl rfl (fun _=>by simp [go_sem,q.g 145 rfl,q.g 146 rfl]) q (by decide) rfl fun _ q=>?_
 refine st (.bool true) nb rfl rfl rfl (fun _=>by simp [go_sem,q.g 147 rfl]) q (by decide) rfl fun _ q=>?_
 refine all_end ?_
 refine all_ret ?_
 intro w' t
 exact .done (pk_leaves (q.g 6 rfl) q.df (hold.twin0 t))
end Go.Proofs.YtgemjjdkjmpmlaaGreatDoor
