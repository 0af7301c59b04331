/- PhasorAsks: all that its row needs. -/
import Derived.Test.YtjeedckmkicnoaaGreatDoorAskL
import Derived.Test.YtjeedckmkicnoaaGreatDoorMOpenAsk
namespace Go.Proofs.YtjeedckmkicnoaaGreatDoor
end Go.Proofs.YtjeedckmkicnoaaGreatDoor
