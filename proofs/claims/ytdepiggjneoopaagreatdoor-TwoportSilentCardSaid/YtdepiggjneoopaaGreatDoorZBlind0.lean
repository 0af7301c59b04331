/- a part of the proof of the last text -/
import Derived.Test.YtdepiggjneoopaaGreatDoorZMSc0
namespace Go.Proofs.YtdepiggjneoopaaGreatDoor
set_option linter.all false
set_option maxHeartbeats 4000000
set_option maxRecDepth 100000
open Go.RowKit
theorem uniq_good {l:List El} (h:(ofL l).1=true):Uniq l:=by
 unfold ofL at h
 split at h
 · cases h
 · split at h
   · cases h
   · rename_i hf;intro k x hk;have h0:=zFr hf k x hk;rw [Nat.zero_add] at h0;unfold bad1 at h0
     split at h0
     · split at h0
       · cases h0
       · rename_i h2;simpa using h2
     · rename_i h1;exact absurd h0 h1
end Go.Proofs.YtdepiggjneoopaaGreatDoor
