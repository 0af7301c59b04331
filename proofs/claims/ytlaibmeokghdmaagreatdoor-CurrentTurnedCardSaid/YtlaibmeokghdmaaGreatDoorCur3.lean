/- Walk of gridworkref21.flows. -/
import Derived.Test.YtlaibmeokghdmaaGreatDoorCur2
namespace Go.Proofs.YtlaibmeokghdmaaGreatDoor
open Go.RowKit
end Go.Proofs.YtlaibmeokghdmaaGreatDoor
