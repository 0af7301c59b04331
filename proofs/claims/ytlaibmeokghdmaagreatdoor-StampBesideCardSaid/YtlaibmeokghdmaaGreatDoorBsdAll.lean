/- StampBeside: all texts. -/
import Derived.Test.YtlaibmeokghdmaaGreatDoorBsd
import Derived.Test.YtlaibmeokghdmaaGreatDoorMOpenEl
namespace Go.Proofs.YtlaibmeokghdmaaGreatDoor
end Go.Proofs.YtlaibmeokghdmaaGreatDoor
