/- Leads to the Store laws of chapter 6: G3. -/
import Derived.Test.YtfggbepickdokaaGreatDoorT40
set_option maxHeartbeats 200000
set_option maxRecDepth 100000
set_option linter.all false
namespace Go.Proofs.YtfggbepickdokaaGreatDoor
open Go.RowKit Sp
def Really (b:Bk) (c:List Int):Prop:=c.length=b.ss.length∧∀ i (h:i < c.length),0≤c[i]∧∃ h2:i < b.ss.length,c[i]≤(b.ss[i].length:Int)
theorem Really.at {b:Bk} {c:List Int} (h:Really b c) {a:Int} (h0:0≤a) (h1:a≤(b.ss.length:Int) - 1):∃ s,b.ss[a.toNat]? = some s∧0≤c.getD a.toNat 0∧c.getD a.toNat 0≤(s.length:Int):=by
 have hl:a.toNat < c.length:=by rw [h.1];omega
 obtain ⟨k1,k2,k3⟩:=h.2 _ hl
 refine ⟨b.ss[a.toNat],List.getElem?_eq_getElem k2,?_,?_⟩ <;> simp only [List.getD_eq_getElem?_getD,List.getElem?_eq_getElem hl,Option.getD_some] <;> assumption
end Go.Proofs.YtfggbepickdokaaGreatDoor
