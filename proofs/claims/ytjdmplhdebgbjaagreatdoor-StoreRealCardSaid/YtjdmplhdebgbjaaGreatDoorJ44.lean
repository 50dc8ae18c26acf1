/- Leads to StoreReal of chapter 6: U13. -/
import Derived.Test.YtjdmplhdebgbjaaGreatDoorJ43
set_option maxHeartbeats 200000
set_option maxRecDepth 100000
set_option linter.all false
namespace Go.Proofs.YtjdmplhdebgbjaaGreatDoor
open Go.RowKit Go.Maps Sp
section
variable {b:Bk} {vr vg vm vs vc:Value} {w:World}
end
end Go.Proofs.YtjdmplhdebgbjaaGreatDoor

