/- Leads to the Store laws of chapter 6: Base. -/
import Derived.Test.YtgemjjdkjmpmlaaGreatDoorC41
set_option maxHeartbeats 200000
set_option maxRecDepth 100000
set_option linter.all false
namespace Go.Proofs.YtgemjjdkjmpmlaaGreatDoor
open Go.RowKit Go.Maps Sp Mt Go.Conc
end Go.Proofs.YtgemjjdkjmpmlaaGreatDoor

