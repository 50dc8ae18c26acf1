/- Leads to StoreReal of chapter 6: U14 AG1 AG2 AG3 AG4 AG5 RF1 RF2 RF3 RF4 RF5 RF6 RF7 RL1. -/
import Derived.Test.YtjdmplhdebgbjaaGreatDoorJ45
set_option maxHeartbeats 4000000
set_option maxRecDepth 100000
set_option linter.all false
namespace Go.Proofs.YtjdmplhdebgbjaaGreatDoor
open Go.ChangeShapes Go.WideShapes Go.ChangeAt Go.RowKit Sp
theorem cellsU16:Tryz.prog.cellsOf 127=1:=by kernel_rfl
theorem u16_bd {n:Int} (h:(Lit.int .u16 n).wf=true):0<=n/\n<=65535:=by
 simp [Lit.wf,IntKind.min,IntKind.max,IntKind.signed,IntKind.bits] at h;omega
section
variable {H:Type} {enc:TypeId × Value->H} {w:World} {base n:Nat} {held:Bool} {cs:List Value} {y:DataW H × List MemPlace}
theorem open_u16s (h:DataW.trod enc Tryz.prog w base (fun _=>true) held n 27 cs=some y):∃ a l c,cs=[.slice a (List.length l) c]/\U16sAt w a l:=by
 rcases Deep.open_slice1 Tryz.underlying27 cellsU16 h with ⟨hcs,_⟩ | ⟨a,len,cap,m,k,V,D,Pl,hcs,hb,hl,hm,hmm,_,hx⟩
 ·exact ⟨none,[],0,hcs,fun i hi=>absurd hi (Nat.not_lt_zero _)⟩
 ·simp only [if_true] at hmm;obtain ⟨M,hM⟩:=Deep.choose_lt (α:=Int) (p:=fun i m=>w.cell? (a.add i)=some (.int .u16 m)/\0<=m/\m<=65535) (fun i hi=>by
   obtain ⟨h1,h2⟩:=hx i (show i < m from hi)
   obtain ⟨q,e,_,hw⟩:=DataW.trod_int Tryz.underlying127 h2
   exact ⟨q,h1.trans (congrArg some (List.cons.inj e).1),u16_bd hw⟩)
  refine ⟨some a,(List.range len).map M,cap,by rw [hcs];simp,fun i hi=>?_⟩;have hi2:i < len:=by simpa using hi
  have hs:a.spot=none:=by simpa [Addr.add] using World.cell?_spot (hM 0 (by omega)).1
  obtain ⟨b,o,spot⟩:=a;simp only at hs;subst hs;obtain ⟨c0,c1,c2⟩:=hM i (by omega);simp only [addr_plus] at c0;refine ⟨b,o,rfl,lt_of_cell c0,?_⟩;simp only [List.getElem_map,List.getElem_range];exact ⟨c0,c1,c2⟩
end
end Go.Proofs.YtjdmplhdebgbjaaGreatDoor
namespace Go.Proofs.YtjdmplhdebgbjaaGreatDoor
open Go.RowKit Go.Maps Sp Mt Go.Conc
variable {B cn cc ln lc pn pc kc P qn qc k:Nat} {b:Bk} {s t:Int} {vr vg vm vs vc x:Value} {w w0:World} {ca la pa ka qa:Option Addr} {cl ks:List Int} {l ps:List Prt} {p:Prt} {d:Nat->Value}
structure AgSt (w:World) (B:Nat) (b:Bk) (vr vg vm vs vc:Value) (ca:Option Addr) (cl:List Int):Prop where
 c0:w.cell? ⟨B,0,none⟩=some vr
 c1:w.cell? ⟨B,1,none⟩=some vg
 c2:w.cell? ⟨B,2,none⟩=some vm
 c3:w.cell? ⟨B,3,none⟩=some vs
 c4:w.cell? ⟨B,4,none⟩=some vc
 bk:BookAt w b vr vg vm vs vc
 kd:KindsAt w
 cm:IntsAt w ca cl
theorem AgSt.old {w1:World} (h:AgSt w B b vr vg vm vs vc ca cl) (t:Old w w1):AgSt w1 B b vr vg vm vs vc ca cl:=⟨t.cell2 h.c0,t.cell2 h.c1,t.cell2 h.c2,t.cell2 h.c3,t.cell2 h.c4,t.book h.bk,t.kinds h.kd,t.ints h.cm⟩
theorem AgSt.twin {w1:World} {n:Nat} (h:AgSt w B b vr vg vm vs vc ca cl) (t:Twin n w w1):AgSt w1 B b vr vg vm vs vc ca cl:=⟨(t.cell _).trans h.c0,(t.cell _).trans h.c1,(t.cell _).trans h.c2,(t.cell _).trans h.c3,(t.cell _).trans h.c4,t.book h.bk,t.kinds h.kd,t.ints h.cm⟩
theorem put_book {v0 v1 v2 v3 v4:Value} (h0:w.cell? ⟨B,0,none⟩=some vr) (h1:w.cell? ⟨B,1,none⟩=some vg) (h2:w.cell? ⟨B,2,none⟩=some vm) (h3:w.cell? ⟨B,3,none⟩=some vs) (h4:w.cell? ⟨B,4,none⟩=some vc) :
 Five (((((w.setCell ⟨B,0,none⟩ v0).setCell ⟨B,1,none⟩ v1).setCell ⟨B,2,none⟩ v2).setCell ⟨B,3,none⟩ v3).setCell ⟨B,4,none⟩ v4) B v0 v1 v2 v3 v4/\KS (fun k=>k≠B) w (((((w.setCell ⟨B,0,none⟩ v0).setCell ⟨B,1,none⟩ v1).setCell ⟨B,2,none⟩ v2).setCell ⟨B,3,none⟩ v3).setCell ⟨B,4,none⟩ v4) :=
 ⟨Five.put (by rw [h0];rfl) (by rw [h1];rfl) (by rw [h2];rfl) (by rw [h3];rfl) (by rw [h4];rfl) (lt_of_cell h0),((((KS.setCell (by simp) _ _).trans (KS.setCell (by simp) _ _)).trans (KS.setCell (by simp) _ _)).trans (KS.setCell (by simp) _ _)).trans (KS.setCell (by simp) _ _)⟩
variable {B cn cc ln lc pn pc kc P qn qc k:Nat} {b:Bk} {s t:Int} {vr vg vm vs vc x:Value} {w w0:World} {ca la pa ka qa:Option Addr} {cl ks:List Int} {l ps:List Prt} {p:Prt} {d:Nat->Value}
variable {B cn cc ln lc pn pc kc P qn qc k:Nat} {b:Bk} {s t:Int} {vr vg vm vs vc x:Value} {w w0:World} {ca la pa ka qa:Option Addr} {cl ks:List Int} {l ps:List Prt} {p:Prt} {d:Nat->Value}
structure CE (w0 w:World):Prop where
 size:w0.heap.size<=w.heap.size
 cell:∀ b o,b < w0.heap.size->w.cell? ⟨b,o,none⟩=w0.cell? ⟨b,o,none⟩
section
variable {X:World}
theorem CE.cell2 (h:CE w0 X) {b o:Nat} {v:Value} (hc:w0.cell? ⟨b,o,none⟩=some v):X.cell? ⟨b,o,none⟩=some v:=(h.cell b o (lt_of_cell hc)).trans hc
theorem CE.onN (h:CE w0 w) (k:OldN w0.heap.size w X):CE w0 X:=⟨Nat.le_trans h.size k.size,fun b o hb=>(World.cell?_of_block (k.block b hb)).trans (h.cell b o hb)⟩
theorem CE.msgs (h:CE w0 X) {a:Option Addr} {l:List Msg} (k:MsgsAt w0 a l):MsgsAt X a l:=fun i hi=>by
 obtain ⟨b,o,e,hlt,h1,h2,h3⟩:=k i hi;exact ⟨b,o,e,Nat.lt_of_lt_of_le hlt h.size,h.cell2 h1,h.cell2 h2,h.cell2 h3⟩
theorem CE.parts (h:CE w0 X) {a:Option Addr} {l:List Prt} (k:PartsAt w0 a l):PartsAt X a l:=fun i hi=>by
 obtain ⟨b,o,e,hlt,h1,h2⟩:=k i hi;exact ⟨b,o,e,Nat.lt_of_lt_of_le hlt h.size,h.cell2 h1,h.cell2 h2⟩
theorem CE.sess (h:CE w0 X) {a:Option Addr} {l:List (List Prt)} (k:SesRaw w0 a l):SesRaw X a l:=fun i hi=>by
 obtain ⟨b,o,e,hlt,pa,pc,h1,h2,h3⟩:=k i hi;exact ⟨b,o,e,Nat.lt_of_lt_of_le hlt h.size,pa,pc,h.cell2 h1,h2,h.parts h3⟩
theorem CE.recs (h:CE w0 X) {a:Option Addr} {l:List Rec} (k:RecsAt w0 a l):RecsAt X a l:=fun i hi=>by
 obtain ⟨b,o,e,hlt,h0,h1,h2,h3⟩:=k i hi;exact ⟨b,o,e,Nat.lt_of_lt_of_le hlt h.size,h.cell2 h0,h.cell2 h1,h.cell2 h2,h.cell2 h3⟩
theorem CE.raw (h:CE w0 X) (k:RawAt w0 b vr vg vm vs vc):RawAt X b vr vg vm vs vc:=by
 obtain ⟨h1,h2,⟨a1,c1,e1,h3⟩,⟨a2,c2,e2,h4⟩,a3,c3,e3,h5⟩:=k;exact ⟨h1,h2,⟨a1,c1,e1,h.msgs h3⟩,⟨a2,c2,e2,h.sess h4⟩,a3,c3,e3,h.recs h5⟩
theorem CE.kinds (h:CE w0 X) (k:KindsAt w0):KindsAt X:=⟨Nat.lt_of_lt_of_le k.1 h.size,fun i hi=>by
 obtain ⟨⟨q,e,h0⟩,h1,h2,h3,h4⟩:=k.2 i hi
 exact ⟨⟨q,e,h.cell2 h0⟩,h.cell2 h1,h.cell2 h2,h.cell2 h3,h.cell2 h4⟩⟩
end
variable {B cn cc ln lc pn pc kc P qn qc k:Nat} {b:Bk} {s t:Int} {vr vg vm vs vc x:Value} {w w0:World} {ca la pa ka qa:Option Addr} {cl ks:List Int} {l ps:List Prt} {p:Prt} {d:Nat->Value}
section
variable {ct:Int}
end
variable {B cn cc ln lc pn pc kc P qn qc k:Nat} {b:Bk} {s t:Int} {vr vg vm vs vc x:Value} {w w0:World} {ca la pa ka qa:Option Addr} {cl ks:List Int} {l ps:List Prt} {p:Prt} {d:Nat->Value}
theorem stored_leads {w':World} (hK:KindsAt w) (t:Twin 0 w w') (c:Frame) (cs:List Frame):Leads Tryz.prog (fun fr' cs' w1=>∃ v,fr'=c.finish v/\cs'=cs/\v=.bool true/\Old w w1) (Frame.enter Tryz.prog 5 #[] .normal) (c::cs) w':=by
 refine (stored_co (t.kinds hK) c cs).mono ?_;rintro fr' cs' w2 ⟨h1,h2,ho⟩;exact ⟨_,h1,h2,rfl,t.old0 ho⟩
theorem U16sAt.twin {w1:World} {n:Nat} (h:U16sAt w ka ks) (t:Twin n w w1):U16sAt w1 ka ks:=fun i hi=>by
 obtain ⟨b,o,e,hlt,h1,h2⟩:=h i hi;exact ⟨b,o,e,by rw [t.size];exact hlt,(t.cell _).trans h1,h2⟩
theorem U16sAt.old {w1:World} (h:U16sAt w ka ks) (t:Old w w1):U16sAt w1 ka ks:=fun i hi=>by
 obtain ⟨b,o,e,hlt,h1,h2⟩:=h i hi;exact ⟨b,o,e,Nat.lt_of_lt_of_le hlt t.size,t.cell2 h1,h2⟩
variable {B pl iN mN pc xc dc P Q C ec wn:Nat} {b:Bk} {s s2 s3 g u c lo hi gr:Int} {vr vg vm vs vc x:Value} {w w0:World} {pa xa da ea:Option Addr} {q dq sn:List Int} {d:Nat->Value}
section
variable {w1:World} {m:Int}
end
variable {B pl iN mN pc xc dc P Q C ec wn:Nat} {b:Bk} {s s2 s3 g u c lo hi gr:Int} {vr vg vm vs vc x:Value} {w w0:World} {pa xa da ea:Option Addr} {q dq sn:List Int} {d:Nat->Value}
variable {B pl iN mN pc xc dc P Q C ec wn:Nat} {b:Bk} {s s2 s3 g u c lo hi gr:Int} {vr vg vm vs vc x:Value} {w w0:World} {pa xa da ea:Option Addr} {q dq sn:List Int} {d:Nat->Value}
variable {B pl iN mN pc xc dc P Q C ec wn:Nat} {b:Bk} {s s2 s3 g u c lo hi gr:Int} {vr vg vm vs vc x:Value} {w w0:World} {pa xa da ea:Option Addr} {q dq sn:List Int} {d:Nat->Value}
variable {B pl iN mN pc xc dc P Q C ec wn:Nat} {b:Bk} {s s2 s3 g u c lo hi gr:Int} {vr vg vm vs vc x:Value} {w w0:World} {pa xa da ea:Option Addr} {q dq sn:List Int} {d:Nat->Value}
variable {B pl iN mN pc xc dc P Q C ec wn:Nat} {b:Bk} {s s2 s3 g u c lo hi gr:Int} {vr vg vm vs vc x:Value} {w w0:World} {pa xa da ea:Option Addr} {q dq sn:List Int} {d:Nat->Value}
variable {B pl iN mN pc xc dc P Q C ec wn:Nat} {b:Bk} {s s2 s3 g u c lo hi gr:Int} {vr vg vm vs vc x:Value} {w w0:World} {pa xa da ea:Option Addr} {q dq sn:List Int} {d:Nat->Value}
theorem groupAl_part {b:Bk} {mN:Nat} {g gr:Int} (hm:mN < b.ms.length) (hgr:b.ms[mN].groups=gr) (h0:0<=g) (h1:g < gr):groupAl b ((mN:Int),g)=openAl b 0:=by
 have hp:isPart b ((mN:Int),g)=true:=by
  unfold isPart;simp only [Int.toNat_natCast,List.getElem?_eq_getElem hm,Option.elim,hgr];simp [inB];omega
 unfold groupAl;rw [if_pos hp]
theorem throughAl_in {b:Bk} {iN:Nat} (h:iN < b.ss.length):throughAl b (iN:Int)=openAl b 0:=by
 unfold throughAl throughAsk;rw [if_pos (by simp [inB];omega)]
variable {B P Q iN mN cc xc dc uc yc nc zc kc:Nat} {b:Bk} {s s2 s3 g gr c ct lo hi:Int} {vr vg vm vs vc x:Value} {w w0:World} {ca xa da ua ya na za ka:Option Addr} {cl q dq ks:List Int} {ul su cn:List Prt} {d:Nat->Value}
noncomputable def rl (k:Nat):Code:=sql (sqN k (Tryz.f3.body.getD .skip))
theorem rlBody_eq:Tryz.f3.body=some (.seq (rl 0) (.seq (rl 1) (.seq (rl 2) (.seq (rl 3) (.seq (rl 4) (.seq (rl 5) (.seq (rl 6) (.seq (rl 7) (.seq (rl 8) (.seq (rl 9) (.seq (rl 10) (.seq (rl 11) (.seq (rl 12) (.seq (rl 13) (.seq (rl 14) (.seq (rl 15) (.seq (rl 16) (.seq (rl 17) .ret)))))))))))))))))):=by kernel_rfl
theorem rl1_eq:rl 1=.seq (sql (rl 1)) (.cond (.tmp 47) (cnd (sqr (rl 1))) .skip):=by kernel_rfl
theorem rl14_eq:rl 14=.seq (sql (rl 14)) (.cond (.tmp 173) (cnd (sqr (rl 14))) .skip):=by kernel_rfl
theorem rl16_eq:rl 16=.seq (sql (rl 16)) (.cond (.tmp 227) (cnd (sqr (rl 16))) .skip):=by kernel_rfl
def flI (x0 x1 x2 x3 x4:Value) (d:Nat->Value):Act:={ tmps:=#[x0,x1,x2,x3,x4,d 5,d 6,d 7,d 8,d 9,d 10,d 11,d 12,d 13,d 14,d 15,d 16,d 17,d 18,d 19,d 20,d 21,d 22,d 23,d 24,d 25,d 26,d 27,d 28,d 29,d 30,d 31,d 32,d 33,d 34,d 35,d 36,d 37,d 38,d 39,d 40,d 41,d 42,d 43,d 44,d 45,d 46,d 47,d 48,d 49,d 50,d 51,d 52,d 53,d 54,d 55,d 56,d 57,d 58,d 59,d 60,d 61,d 62,d 63,d 64,d 65,d 66,d 67,d 68,d 69,d 70,d 71,d 72,d 73,d 74,d 75,d 76,d 77,d 78,d 79,d 80,d 81,d 82,d 83,d 84,d 85,d 86,d 87,d 88,d 89,d 90,d 91,d 92,d 93,d 94,d 95,d 96,d 97,d 98,d 99,d 100,d 101,d 102,d 103,d 104,d 105,d 106,d 107,d 108,d 109,d 110,d 111,d 112,d 113,d 114,d 115,d 116,d 117,d 118,d 119,d 120,d 121,d 122,d 123,d 124,d 125,d 126,d 127,d 128,d 129,d 130,d 131,d 132,d 133,d 134,d 135,d 136,d 137,d 138,d 139,d 140,d 141,d 142,d 143,d 144,d 145,d 146,d 147,d 148,d 149,d 150,d 151,d 152,d 153,d 154,d 155,d 156,d 157,d 158,d 159,d 160,d 161,d 162,d 163,d 164,d 165,d 166,d 167,d 168,d 169,d 170,d 171,d 172,d 173,d 174,d 175,d 176,d 177,d 178,d 179,d 180,d 181,d 182,d 183,d 184,d 185,d 186,d 187,d 188,d 189,d 190,d 191,d 192,d 193,d 194,d 195,d 196,d 197,d 198,d 199,d 200,d 201,d 202,d 203,d 204,d 205,d 206,d 207,d 208,d 209,d 210,d 211,d 212,d 213,d 214,d 215,d 216,d 217,d 218,d 219,d 220,d 221,d 222,d 223,d 224,d 225,d 226,d 227,d 228,d 229,d 230,d 231,d 232,d 233,d 234,d 235,d 236,d 237,d 238,d 239,d 240,d 241,d 242,d 243,d 244,d 245,d 246],defers:=[] }
def flG (B:Nat) (s s2 s3:Int) (vr vg vm vs vc:Value) (ka:Option Addr) (ks:List Int) (kc:Nat) (x:Value) (d:Nat->Value):Act:={ tmps:=#[d 0,.slice ka ks.length kc,.int .u8 s,.int .u8 s2,.int .u8 s3,.pointer (some ⟨B,0,none⟩),d 6,d 7,d 8,d 9,.bool false,d 11,d 12,d 13,d 14,d 15,d 16,d 17,d 18,d 19,d 20,d 21,d 22,d 23,d 24,d 25,d 26,d 27,d 28,d 29,d 30,d 31,d 32,d 33,d 34,d 35,d 36,d 37,d 38,d 39,d 40,d 41,d 42,d 43,d 44,d 45,d 46,x,d 48,d 49,d 50,d 51,d 52,d 53,d 54,d 55,d 56,d 57,d 58,d 59,d 60,d 61,d 62,d 63,d 64,d 65,d 66,d 67,d 68,d 69,d 70,d 71,d 72,d 73,d 74,d 75,d 76,d 77,d 78,d 79,d 80,d 81,d 82,d 83,d 84,d 85,d 86,d 87,d 88,d 89,d 90,d 91,d 92,d 93,d 94,d 95,d 96,d 97,d 98,d 99,d 100,d 101,d 102,d 103,d 104,d 105,d 106,d 107,d 108,d 109,d 110,d 111,d 112,d 113,d 114,d 115,d 116,d 117,d 118,d 119,d 120,d 121,d 122,d 123,d 124,d 125,d 126,d 127,d 128,d 129,d 130,d 131,d 132,d 133,d 134,d 135,d 136,d 137,d 138,d 139,d 140,d 141,d 142,d 143,d 144,d 145,d 146,d 147,d 148,d 149,d 150,d 151,d 152,d 153,d 154,d 155,d 156,d 157,d 158,d 159,d 160,d 161,d 162,d 163,d 164,d 165,d 166,d 167,d 168,d 169,d 170,d 171,d 172,d 173,d 174,d 175,d 176,d 177,d 178,d 179,d 180,d 181,d 182,d 183,d 184,d 185,d 186,d 187,d 188,d 189,d 190,d 191,d 192,d 193,d 194,d 195,d 196,d 197,d 198,d 199,d 200,d 201,d 202,d 203,d 204,d 205,d 206,d 207,d 208,d 209,d 210,d 211,d 212,d 213,d 214,d 215,d 216,d 217,d 218,d 219,d 220,d 221,d 222,d 223,d 224,d 225,d 226,d 227,d 228,d 229,d 230,d 231,d 232,d 233,d 234,d 235,d 236,d 237,d 238,d 239,d 240,d 241,d 242,d 243,d 244,d 245,d 246],defers:=[] }
def flA (B P Q iN mN cc xc dc uc yc nc zc:Nat) (ca xa da ua ya na za:Option Addr) (c:Int) (cl q dq:List Int) (ul su cn:List Prt) (d:Nat->Value):Act:={ tmps:=#[d 0,d 1,d 2,d 3,d 4,.pointer (some ⟨B,0,none⟩),d 6,d 7,d 8,d 9,d 10,.slice ca cl.length cc,.int .i64 (iN:Int),.int .i64 (mN:Int),.pointer (some ⟨P,0,none⟩),.bool true,.int .i64 0,.slice xa q.length xc,.int .i64 0,.int .i64 c,.int .i64 0,.pointer (some ⟨Q,0,none⟩),.int .i64 0,.slice da dq.length dc,.int .i64 0,.slice ua ul.length uc,.int .i64 0,.slice ya su.length yc,.slice na cn.length nc,.int .i64 0,.slice za 0 zc,.int .i64 0,d 32,d 33,d 34,d 35,d 36,d 37,d 38,d 39,d 40,d 41,d 42,d 43,d 44,d 45,d 46,d 47,d 48,d 49,d 50,d 51,d 52,d 53,d 54,d 55,d 56,d 57,d 58,d 59,d 60,d 61,d 62,d 63,d 64,d 65,d 66,d 67,d 68,d 69,d 70,d 71,d 72,d 73,d 74,d 75,d 76,d 77,d 78,d 79,d 80,d 81,d 82,d 83,d 84,d 85,d 86,d 87,d 88,d 89,d 90,d 91,d 92,d 93,d 94,d 95,d 96,d 97,d 98,d 99,d 100,d 101,d 102,d 103,d 104,d 105,d 106,d 107,d 108,d 109,d 110,d 111,d 112,d 113,d 114,d 115,d 116,d 117,d 118,d 119,d 120,d 121,d 122,d 123,d 124,d 125,d 126,d 127,d 128,d 129,d 130,d 131,d 132,d 133,d 134,d 135,d 136,d 137,d 138,d 139,d 140,d 141,d 142,d 143,d 144,d 145,d 146,d 147,d 148,d 149,d 150,d 151,d 152,d 153,d 154,d 155,d 156,d 157,d 158,d 159,d 160,d 161,d 162,d 163,d 164,d 165,d 166,d 167,d 168,d 169,d 170,d 171,d 172,d 173,d 174,d 175,d 176,d 177,d 178,d 179,d 180,d 181,d 182,d 183,d 184,d 185,d 186,d 187,d 188,d 189,d 190,d 191,d 192,d 193,d 194,d 195,d 196,d 197,d 198,d 199,d 200,d 201,d 202,d 203,d 204,d 205,d 206,d 207,d 208,d 209,d 210,d 211,d 212,d 213,d 214,d 215,d 216,d 217,d 218,d 219,d 220,d 221,d 222,d 223,d 224,d 225,d 226,d 227,d 228,d 229,d 230,d 231,d 232,d 233,d 234,d 235,d 236,d 237,d 238,d 239,d 240,d 241,d 242,d 243,d 244,d 245,d 246],defers:=[] }
def flB (B P Q iN mN cc xc dc uc yc nc zc:Nat) (ca xa da ua ya na za:Option Addr) (c:Int) (cl q dq:List Int) (ul su cn:List Prt) (ct:Int) (d:Nat->Value):Act:={ tmps:=#[d 0,d 1,d 2,d 3,d 4,.pointer (some ⟨B,0,none⟩),d 6,d 7,d 8,d 9,d 10,.slice ca cl.length cc,.int .i64 (iN:Int),.int .i64 (mN:Int),.pointer (some ⟨P,0,none⟩),.bool true,.int .i64 0,.slice xa q.length xc,.int .i64 0,.int .i64 c,.int .i64 0,.pointer (some ⟨Q,0,none⟩),.int .i64 0,.slice da dq.length dc,.int .i64 0,.slice ua ul.length uc,.int .i64 0,.slice ya su.length yc,.slice na cn.length nc,.int .i64 0,.slice za 0 zc,.int .i64 0,.int .i64 ct,d 33,d 34,d 35,d 36,d 37,d 38,d 39,d 40,d 41,d 42,d 43,d 44,d 45,d 46,d 47,d 48,d 49,d 50,d 51,d 52,d 53,d 54,d 55,d 56,d 57,d 58,d 59,d 60,d 61,d 62,d 63,d 64,d 65,d 66,d 67,d 68,d 69,d 70,d 71,d 72,d 73,d 74,d 75,d 76,d 77,d 78,d 79,d 80,d 81,d 82,d 83,d 84,d 85,d 86,d 87,d 88,d 89,d 90,d 91,d 92,d 93,d 94,d 95,d 96,d 97,d 98,d 99,d 100,d 101,d 102,d 103,d 104,d 105,d 106,d 107,d 108,d 109,d 110,d 111,d 112,d 113,d 114,d 115,d 116,d 117,d 118,d 119,d 120,d 121,d 122,d 123,d 124,d 125,d 126,d 127,d 128,d 129,d 130,d 131,d 132,d 133,d 134,d 135,d 136,d 137,d 138,d 139,d 140,d 141,d 142,d 143,d 144,d 145,d 146,d 147,d 148,d 149,d 150,d 151,d 152,d 153,d 154,d 155,d 156,d 157,d 158,d 159,d 160,d 161,d 162,d 163,d 164,d 165,d 166,d 167,d 168,d 169,d 170,d 171,d 172,d 173,d 174,d 175,d 176,d 177,d 178,d 179,d 180,d 181,d 182,d 183,d 184,d 185,d 186,d 187,d 188,d 189,d 190,d 191,d 192,d 193,d 194,d 195,d 196,d 197,d 198,d 199,d 200,d 201,d 202,d 203,d 204,d 205,d 206,d 207,d 208,d 209,d 210,d 211,d 212,d 213,d 214,d 215,d 216,d 217,d 218,d 219,d 220,d 221,d 222,d 223,d 224,d 225,d 226,d 227,d 228,d 229,d 230,d 231,d 232,d 233,d 234,d 235,d 236,d 237,d 238,d 239,d 240,d 241,d 242,d 243,d 244,d 245,d 246],defers:=[] }
def RLZ0 (n:Nat) (b:Bk) (s s2 s3:Int) (vr vg vm vs vc:Value) (ka:Option Addr) (ks:List Int) (kc:Nat) (a':Act) (w2:World):Prop:=∃ B x,(∃ d,a'=flG B s s2 s3 vr vg vm vs vc ka ks kc x d)/\LawAt w2 B b [] vr vg vm vs vc none/\n<=B/\∀ i,w2.frozen? ⟨B,i,none⟩=false
theorem rl_0 (hR:RawAt w b vr vg vm vs vc) (hK:KindsAt w):(rl 0).wp Tryz.prog (PZ w (RLZ0 w.heap.size b s s2 s3 vr vg vm vs vc ka ks kc)) (flI (.agg #[vr,vg,vm,vs,vc]) (.slice ka ks.length kc) (.int .u8 s) (.int .u8 s2) (.int .u8 s3) d) w:=by
 simp only [rl,sqN,sql,sqr,cnd,Tryz.f3,Option.getD_some,flI];have HR:=Hh hR;have HK:=Hh hK;clear hR hK;go_wp2;have hbw:Below w.heap.size w (w.alloc (.cells #[vr,vg,vm,vs,vc] 26)):=bel;refine ⟨rfl,⟨w.heap.size,d 47,fr_of (by kernel_rfl),⟨?_,?_,?_,?_,?_,HR.out.below hbw,HK.out.below hbw,ints_nil⟩,Nat.le_refl _,fun i=>by rw [World.frozen?_alloc_at _ _ _ _ rfl]⟩,hbw⟩ <;> (rw [World.cell?_alloc_at _ _ _ _ rfl];rfl)
def RLZ1 (B:Nat) (s s2 s3:Int) (vr vg vm vs vc:Value) (ka:Option Addr) (ks:List Int) (kc:Nat) (x:Bool) (a':Act) (w2:World):Prop:=∃ d,a'=flG B s s2 s3 vr vg vm vs vc ka ks kc (.bool x) d
theorem rl_1 {y:Bool} (hE:LawAt w B b [] vr vg vm vs vc none) (hx:y=true↔¬ ((SmallB b/\bookAl b=0)/\b.ss≠[]/\b.ms≠[])):(sql (rl 1)).wp Tryz.prog (PZ w (RLZ1 B s s2 s3 vr vg vm vs vc ka ks kc y)) (flG B s s2 s3 vr vg vm vs vc ka ks kc x d) w:=by
 simp only [rl,sqN,sql,sqr,cnd,Tryz.f3,Option.getD_some,flG];have hrw:=hE.raw;obtain ⟨x0,x1,x2,x3,x4,_,_,_⟩:=hE;have HRW:=Hh hrw;have hB0:=lt_of_cell x0;simp only at hB0;obtain ⟨rfl,rfl,⟨ma,mc,rfl,_⟩,⟨sa,sc,rfl,_⟩,ra,rc,rfl,_⟩:=hrw;by_cases hs:SmallB b/\bookAl b=0
 ·have HG:=Hh (show (true=true↔SmallB b/\bookAl b=0) by simp [hs]);by_cases hl:b.ss=[]
  ·obtain rfl:y=true:=hx.2 fun h=>h.2.1 hl;have e0:((b.ss.length:Int) == 0)=true:=by simp [hl]
   clear hs hx hl;go_wp2_with (go_at_call 4;(with_reducible refine (fit_at HRW.out HG.out).mono ?_);rintro e w1 ⟨rfl,hb1⟩;obtain ⟨hc1,hf1⟩:=bcell hb1;have hz1:=hb1.size);exact ⟨rfl,fr_of (by kernel_rfl),bel⟩
  ·have e0:((b.ss.length:Int) == 0)=false:=by simp [hl]
   by_cases hm:b.ms=[]
   ·obtain rfl:y=true:=hx.2 fun h=>h.2.2 hm;have e1:((b.ms.length:Int) == 0)=true:=by simp [hm]
    clear hs hx hl hm;go_wp2_with (go_at_call 4;(with_reducible refine (fit_at HRW.out HG.out).mono ?_);rintro e w1 ⟨rfl,hb1⟩;obtain ⟨hc1,hf1⟩:=bcell hb1;have hz1:=hb1.size);exact ⟨rfl,fr_of (by kernel_rfl),bel⟩
   ·obtain rfl:y=false:=by
     cases y with
     | false=>rfl
     | true=>exact absurd ⟨hs,hl,hm⟩ (hx.1 rfl)
    have e1:((b.ms.length:Int) == 0)=false:=by simp [hm]
    clear hs hx hl hm;go_wp2_with (go_at_call 4;(with_reducible refine (fit_at HRW.out HG.out).mono ?_);rintro e w1 ⟨rfl,hb1⟩;obtain ⟨hc1,hf1⟩:=bcell hb1;have hz1:=hb1.size);exact ⟨rfl,fr_of (by kernel_rfl),bel⟩
 ·have HG:=Hh (show (false=true↔SmallB b/\bookAl b=0) by simp [hs]);obtain rfl:y=true:=hx.2 fun h=>hs h.1;clear hs hx;go_wp2_with (go_at_call 4;(with_reducible refine (fit_at HRW.out HG.out).mono ?_);rintro e w1 ⟨rfl,hb1⟩;obtain ⟨hc1,hf1⟩:=bcell hb1;have hz1:=hb1.size);exact ⟨rfl,fr_of (by kernel_rfl),bel⟩
structure RlSt (w:World) (B P Q:Nat) (b:Bk) (vr vg vm vs vc:Value) (ca xa da ua ya na:Option Addr) (m g lo hi:Int) (cl q dq:List Int) (ul su cn:List Prt):Prop where
 ag:AgSt w B b vr vg vm vs vc ca cl
 p0:w.cell? ⟨P,0,none⟩=some (.int .i64 m)
 p1:w.cell? ⟨P,1,none⟩=some (.int .i64 g)
 q0:w.cell? ⟨Q,0,none⟩=some (.int .i64 lo)
 q1:w.cell? ⟨Q,1,none⟩=some (.int .i64 hi)
 xs:IntsAt w xa q
 ds:IntsAt w da dq
 us:PartsAt w ua ul
 ss:PartsAt w ya su
 ns:PartsAt w na cn
section
variable {w1:World} {m:Int}
theorem RlSt.old (h:RlSt w B P Q b vr vg vm vs vc ca xa da ua ya na m g lo hi cl q dq ul su cn) (t:Old w w1):RlSt w1 B P Q b vr vg vm vs vc ca xa da ua ya na m g lo hi cl q dq ul su cn:=⟨h.ag.old t,t.cell2 h.p0,t.cell2 h.p1,t.cell2 h.q0,t.cell2 h.q1,t.ints h.xs,t.ints h.ds,t.parts h.us,t.parts h.ss,t.parts h.ns⟩
theorem RlSt.twin {n:Nat} (h:RlSt w B P Q b vr vg vm vs vc ca xa da ua ya na m g lo hi cl q dq ul su cn) (t:Twin n w w1):RlSt w1 B P Q b vr vg vm vs vc ca xa da ua ya na m g lo hi cl q dq ul su cn:=⟨h.ag.twin t,(t.cell _).trans h.p0,(t.cell _).trans h.p1,(t.cell _).trans h.q0,(t.cell _).trans h.q1,t.ints h.xs,t.ints h.ds,t.parts h.us,t.parts h.ss,t.parts h.ns⟩
end
end Go.Proofs.YtjdmplhdebgbjaaGreatDoor

