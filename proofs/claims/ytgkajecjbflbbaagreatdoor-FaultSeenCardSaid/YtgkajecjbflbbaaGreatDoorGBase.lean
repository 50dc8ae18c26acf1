/- the fault laws -/
import Derived.Test.YtgkajecjbflbbaaGreatDoorGB30
set_option maxHeartbeats 200000
set_option maxRecDepth 100000
set_option linter.all false
namespace Go.Proofs.YtgkajecjbflbbaaGreatDoor
section
theorem fbase_root:True:=trivial
end
end Go.Proofs.YtgkajecjbflbbaaGreatDoor
