/- CurrentTurned: all texts. -/
import Derived.Test.YtlaibmeokghdmaaGreatDoorTrn
import Derived.Test.YtlaibmeokghdmaaGreatDoorMOpenSol
namespace Go.Proofs.YtlaibmeokghdmaaGreatDoor
end Go.Proofs.YtlaibmeokghdmaaGreatDoor
