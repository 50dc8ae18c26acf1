/- StoreLoaded -/
import Derived.Test.YtdjnkplgllakcaaGreatDoorSL03
set_option maxHeartbeats 200000
set_option maxRecDepth 100000
set_option linter.all false
namespace Go.Proofs.YtdjnkplgllakcaaGreatDoor
namespace Sp
def cntI (l:List (List Int)) (i v:Nat):Int:=((l.countP fun x=>decide ((pad x).getD i 0=(v:Int)):Nat):Int)
def mostI (l:List (List Int)) (i:Nat):Int:=((List.range 6).map (cntI l i)).foldl max 0
theorem cntI_snoc (l:List (List Int)) (x:List Int) (i v:Nat):cntI (l ++ [x]) i v=cntI l i v+if (pad x).getD i 0=(v:Int) then 1 else 0:=by
 unfold cntI;rw [List.countP_append,List.countP_cons,List.countP_nil];split <;> simp_all
theorem cntI_bd (l:List (List Int)) (i v:Nat):0<=cntI l i v/\cntI l i v<=l.length:=by
 unfold cntI;have:=List.countP_le_length (p:=fun x:List Int=>decide ((pad x).getD i 0=(v:Int))) (l:=l);omega
theorem mostI_eq (l:List (List Int)) (i:Nat):mostI l i=max (max (max (max (max (max 0 (cntI l i 0)) (cntI l i 1)) (cntI l i 2)) (cntI l i 3)) (cntI l i 4)) (cntI l i 5):=rfl
theorem mostI_snoc (l:List (List Int)) (x:List Int) (i v:Nat) (hv:(pad x).getD i 0=(v:Int)) (h5:v<=5):mostI (l ++ [x]) i=max (mostI l i) (cntI l i v+1):=by
 rw [mostI_eq,mostI_eq];have b:=fun v=>cntI_bd l i v;have b0:=b 0;have b1:=b 1;have b2:=b 2;have b3:=b 3;have b4:=b 4;have b5:=b 5;simp only [cntI_snoc,hv];rcases (show v=0\/v=1\/v=2\/v=3\/v=4\/v=5 by omega) with rfl | rfl | rfl | rfl | rfl | rfl <;> simp <;> omega
theorem mostI_bd (l:List (List Int)) (i:Nat):0<=mostI l i/\mostI l i<=l.length:=by
 rw [mostI_eq];have b:=fun v=>cntI_bd l i v;have b0:=b 0;have b1:=b 1;have b2:=b 2;have b3:=b 3;have b4:=b 4;have b5:=b 5;omega
def askStep (st:Int × Int) (x:Nat × Int):Int × Int:=if x.2 < st.2 then ((x.1:Int),x.2) else st
def askI (l:List (List Int)) (n:Nat):Int × Int:=((List.range n).map fun i=>(i,mostI l i)).foldl askStep (-1,(l.length:Int))
end Sp
open Sp
def cntCells (l:List (List Int)) (i:Nat):Array Value:=#[.int .i64 (cntI l i 0),.int .i64 (cntI l i 1),.int .i64 (cntI l i 2),.int .i64 (cntI l i 3),.int .i64 (cntI l i 4),.int .i64 (cntI l i 5)]
theorem cntCells_at (l:List (List Int)) (i:Nat) {v:Nat} (h:v<=5):(cntCells l i)[v]? = some (.int .i64 (cntI l i v)):=by
 rcases (show v=0\/v=1\/v=2\/v=3\/v=4\/v=5 by omega) with rfl | rfl | rfl | rfl | rfl | rfl <;> rfl
theorem cntCells_set (l:List (List Int)) (x:List Int) (i v:Nat) (hv:(pad x).getD i 0=(v:Int)) (h5:v<=5):(cntCells l i).setIfInBounds v (.int .i64 (cntI l i v+1))=cntCells (l ++ [x]) i:=by
 unfold cntCells;simp only [cntI_snoc,hv];rcases (show v=0\/v=1\/v=2\/v=3\/v=4\/v=5 by omega) with rfl | rfl | rfl | rfl | rfl | rfl <;> simp
end Go.Proofs.YtdjnkplgllakcaaGreatDoor
