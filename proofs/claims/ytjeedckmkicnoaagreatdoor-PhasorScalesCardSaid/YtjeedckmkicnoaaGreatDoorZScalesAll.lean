/- PhasorScales: all that its row needs. -/
import Derived.Test.YtjeedckmkicnoaaGreatDoorZScL
import Derived.Test.YtjeedckmkicnoaaGreatDoorZMOpenEls
namespace Go.Proofs.YtjeedckmkicnoaaGreatDoor
set_option linter.all false
set_option maxHeartbeats 4000000
set_option maxRecDepth 100000
end Go.Proofs.YtjeedckmkicnoaaGreatDoor
