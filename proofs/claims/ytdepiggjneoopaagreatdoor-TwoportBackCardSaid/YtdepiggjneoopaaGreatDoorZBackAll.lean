/- What TwoportBack imports. -/
import Derived.Test.YtdepiggjneoopaaGreatDoorZBk4
import Derived.Test.YtdepiggjneoopaaGreatDoorZOpenW
namespace Go.Proofs.YtdepiggjneoopaaGreatDoor
set_option linter.all false
set_option maxHeartbeats 4000000
set_option maxRecDepth 100000
end Go.Proofs.YtdepiggjneoopaaGreatDoor
