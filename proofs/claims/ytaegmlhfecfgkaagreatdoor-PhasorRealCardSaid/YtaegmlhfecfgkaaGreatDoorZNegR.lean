/- a part of the proof of the last text -/
import Derived.Test.YtaegmlhfecfgkaaGreatDoorZMGrP1
namespace Go.Proofs.YtaegmlhfecfgkaaGreatDoor
set_option linter.all false
set_option maxHeartbeats 4000000
set_option maxRecDepth 100000
open FV
theorem signed_opp (s:Bool) (m k:Nat):Ieee.signed (!s) m k=-Ieee.signed s m k:=by
 unfold Ieee.signed;cases s <;> simp
def isNum:Ieee.Datum→Bool
 | .number _ _ _=> true
 | _=> false
theorem ffin_num (x:Nat):ffin x=isNum (dbl.read x):=by
 cases hx:dbl.read x with
 | nan s t=>
  have h:ffin x=false:=by
   unfold ffin fsub fop floatBits;show (ford (((dbl.sub x x)).getD qnan) 0==some .eq)=false;unfold Ieee.Format.sub;rw [hx];exact (by decide+kernel:(ford qnan 0==some .eq)=false)
  rw [h];rfl
 | infinity s=>
  have h:ffin x=false:=by
   unfold ffin fsub fop floatBits;show (ford (((dbl.sub x x)).getD qnan) 0==some .eq)=false;unfold Ieee.Format.sub;rw [hx];simp only [Ieee.Datum.opposite,Ieee.Datum.sum];rw [if_neg (by cases s <;> simp)];exact (by decide+kernel:(ford qnan 0==some .eq)=false)
  rw [h];rfl
 | number s m i=>
  have h:ffin x=true:=by
   unfold ffin fsub fop floatBits;show (ford (((dbl.sub x x)).getD qnan) 0==some .eq)=true;unfold Ieee.Format.sub;rw [hx];simp only [Ieee.Datum.opposite,Ieee.Datum.sum,signed_opp];rw [show Ieee.signed s m (i - min i i).toNat+-Ieee.signed s m (i - min i i).toNat=0 by omega];rw [if_pos rfl];have h2:∀b:Bool,(ford (dbl.nearest b 0 (min i i)) 0==some .eq)=true:=by
    intro b;unfold Ieee.Format.nearest;rw [if_pos rfl];cases b <;> decide+kernel
   exact h2 _
  rw [h];rfl
theorem sw_pow:dbl.signWeight=9223372036854775808:=by decide
theorem read_eq (x:Nat):dbl.read x=if x % 2 ^ 63 < 2 ^ 52 then Ieee.Datum.number (sgn x) (x % 2 ^ 63) dbl.leastPlace else if x % 2 ^ 63 < dbl.infRung then Ieee.Datum.number (sgn x) (2 ^ 52+x % 2 ^ 63 % 2 ^ 52) (dbl.leastPlace+(x % 2 ^ 63 / 2 ^ 52 - 1:Nat)) else if x % 2 ^ 63=dbl.infRung then .infinity (sgn x) else .nan (sgn x) (x % 2 ^ 63 - dbl.infRung):=rfl
theorem bits_of {r z:Nat} (h:fc r=z) (hf:ffin z=true):r=z:=by
 by_cases hn:fnan r=true
 · rw [fc_of_nan hn] at h;rw [←h] at hf;exact absurd hf (by decide+kernel)
 · rw [fc_of_not (by simpa using hn)] at h;exact h
end Go.Proofs.YtaegmlhfecfgkaaGreatDoor
