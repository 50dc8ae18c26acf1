/- Leads to the Store laws of chapter 6: G3. -/
import Derived.Test.YtgemjjdkjmpmlaaGreatDoorC40
set_option maxHeartbeats 200000
set_option maxRecDepth 100000
set_option linter.all false
namespace Go.Proofs.YtgemjjdkjmpmlaaGreatDoor
open Go.RowKit Sp
end Go.Proofs.YtgemjjdkjmpmlaaGreatDoor

