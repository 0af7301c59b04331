/- a part of the proof of the last text -/
import Derived.Test.YtdepiggjneoopaaGreatDoorZMNegR
namespace Go.Proofs.YtdepiggjneoopaaGreatDoor
set_option linter.all false
set_option maxHeartbeats 4000000
set_option maxRecDepth 100000
open FV
def fz (x:Nat):Bool:=x==0 || x==9223372036854775808
theorem fz_ways {x:Nat} (h:fz x=true):x=0∨x=9223372036854775808:=by
 unfold fz at h
 simpa using h
theorem fz_read {x:Nat} (h:fz x=true):∃s,dbl.read x=.number s 0 dbl.leastPlace:=by
 rcases fz_ways h with rfl | rfl
 · exact ⟨false,by decide+kernel⟩
 · exact ⟨true,by decide+kernel⟩
theorem fz_write (s:Bool) (e:Int):fz (dbl.write (.number s 0 e))=true:=by
 show fz (dbl.nearest s 0 e)=true;unfold Ieee.Format.nearest;rw [if_pos rfl];cases s <;> decide+kernel
theorem fz_fin {x:Nat} (h:fz x=true):ffin x=true:=by
 rcases fz_ways h with rfl | rfl <;> decide+kernel
theorem fz_ord {x:Nat} (h:fz x=true):ford x 0=some .eq:=by
 rcases fz_ways h with rfl | rfl <;> decide+kernel
theorem fz_fc {x:Nat} (h:fz (fc x)=true):fz x=true:=by
 have:=bits_of (r:=x) rfl (fz_fin h);rw [this];exact h
theorem fadd_z {x y:Nat} (h:fz x=true) (k:fz y=true):fz (fadd x y)=true:=by
 rcases fz_ways h with rfl | rfl <;> rcases fz_ways k with rfl | rfl <;> decide+kernel
theorem fsub_z {x y:Nat} (h:fz x=true) (k:fz y=true):fz (fsub x y)=true:=by
 rcases fz_ways h with rfl | rfl <;> rcases fz_ways k with rfl | rfl <;> decide+kernel
theorem fin_read {x:Nat} (h:ffin x=true):∃s m i,dbl.read x=.number s m i:=by
 rw [ffin_num] at h;cases hx:dbl.read x with
 | nan=> rw [hx] at h;cases h
 | infinity=> rw [hx] at h;cases h
 | number s m i=> exact ⟨s,m,i,rfl⟩
theorem fmul_zr {x y:Nat} (h:ffin x=true) (k:fz y=true):fz (fmul x y)=true:=by
 obtain ⟨s,m,i,hx⟩:=fin_read h;obtain ⟨t,hy⟩:=fz_read k;have e:fmul x y=dbl.write (.number (s ^^ t) 0 (i+dbl.leastPlace)):=by
  show (dbl.mul x y).getD qnan=_;unfold Ieee.Format.mul;rw [hx,hy]
  rfl
 rw [e];exact fz_write _ _
theorem fmul_zl {x y:Nat} (h:fz x=true) (k:ffin y=true):fz (fmul x y)=true:=by
 obtain ⟨s,m,i,hx⟩:=fin_read k;obtain ⟨t,hy⟩:=fz_read h;have e:fmul x y=dbl.write (.number (t ^^ s) (0 * m) (dbl.leastPlace+i)):=by
  show (dbl.mul x y).getD qnan=_;unfold Ieee.Format.mul;rw [hx,hy]
  rfl
 rw [e,Nat.zero_mul];exact fz_write _ _
theorem fdiv_z {x:Nat} (y:Nat) (h:fz x=true):fz (fdiv x y)=true∨fdiv x y=qnan:=by
 obtain ⟨t,hx⟩:=fz_read h;have e:fdiv x y=(((dbl.read x).quotient (dbl.fractionBits+2) (dbl.read y)).map dbl.write).getD qnan:=rfl;rw [e,hx];cases hy:dbl.read y with
 | nan=> exact .inr rfl
 | infinity s=> exact .inl (fz_write _ _)
 | number s n j=>
  by_cases hn:n=0
  · subst hn;exact .inr rfl
  · refine .inl ?_;simp only [Ieee.Datum.quotient,if_neg hn,Nat.zero_shiftLeft,Nat.zero_div,Nat.zero_mod];exact fz_write _ _
theorem qnan_not:ffin qnan=false:=by decide+kernel
theorem fop_qr (op:BinOp) (x:Nat):fop op x qnan=qnan:=by unfold fop;rw [zFc fnan_qnan];rfl
theorem fop_ql (op:BinOp) (x:Nat):fop op qnan x=qnan:=by unfold fop;rw [zEa fnan_qnan];rfl
theorem sz_zero {y:Nat} (h:fz y=true):zBc y=0:=by
 rcases fz_ways h with rfl | rfl <;> decide+kernel
theorem ge_zero {x y:Nat} (h:ffin x=true) (k:fz y=true):isGe (fordz x y)=true:=by
 unfold fordz;rw [sz_zero k];have hm:dbl.signWeight=9223372036854775808:=sw_pow;obtain ⟨s,m,i,hx⟩:=fin_read h;have h2:∃m2 i2,dbl.read (zBc x)=.number false m2 i2:=by
  have hf:ffin (zBc x)=true:=by
   have dV:=ffin_fin h;rw [ffin_num];rw [read_eq];have:zBc x % 2 ^ 63=x % 2 ^ 63:=by unfold zBc;omega
   rw [this];rw [read_eq] at hx
   split at hx
   · rename_i h1;rw [if_pos h1];rfl
   · rename_i h1;rw [if_neg h1]
     split at hx
     · rename_i h2;rw [if_pos h2];rfl
     · split at hx <;> cases hx
  obtain ⟨s2,m2,i2,h3⟩:=fin_read hf;have hs:s2=false:=by
   rw [read_eq,sgn_lo (fsz_lt x)] at h3
   split at h3
   · cases h3;rfl
   · split at h3
     · cases h3;rfl
     · split at h3 <;> cases h3
  subst hs;exact ⟨m2,i2,h3⟩
 obtain ⟨m2,i2,h3⟩:=h2;have h0:dbl.read 0=.number false 0 dbl.leastPlace:=by decide+kernel
 have e:ford (zBc x) 0=some (compare (Ieee.signed false m2 (i2 - min i2 dbl.leastPlace).toNat) (Ieee.signed false 0 (dbl.leastPlace - min i2 dbl.leastPlace).toNat)):=by
  show (dbl.read (zBc x)).order (dbl.read 0)=_;rw [h3,h0];rfl
 rw [e];have h1:(Ieee.signed false 0 (dbl.leastPlace - min i2 dbl.leastPlace).toNat)=0:=by simp [Ieee.signed]
 have h4:0≤Ieee.signed false m2 (i2 - min i2 dbl.leastPlace).toNat:=by unfold Ieee.signed;rw [if_neg (by simp)];exact Int.natCast_nonneg _
 rw [h1];generalize Ieee.signed false m2 (i2 - min i2 dbl.leastPlace).toNat=q at *;rcases Int.lt_or_eq_of_le h4 with h5 | h5
 · rw [show compare q 0=Ordering.gt from Int.compare_eq_gt.2 h5];rfl
 · rw [←h5];rfl
def cre (z:Cx):Bool:=ffin z.1 && fz z.2
theorem cre_of {z:Cx} (h:cfin z=true) (k:fz z.2=true):cre z=true:=by
 unfold cfin at h;rw [Bool.and_eq_true] at h;unfold cre;rw [h.1,k];rfl
theorem cmul_z {a b:Cx} (h:cre a=true) (k:cre b=true):fz (cmul a b).2=true:=by
 unfold cre at h k;rw [Bool.and_eq_true] at h k;exact fadd_z (fmul_zr h.1 k.2) (fmul_zl h.2 k.1)
theorem csub_z {a b:Cx} (h:fz a.2=true) (k:fz b.2=true):fz (csub a b).2=true:=fsub_z h k
theorem cadd_z {a b:Cx} (h:fz a.2=true) (k:fz b.2=true):fz (cadd a b).2=true:=fadd_z h k
theorem cdiv_z {a b:Cx} (h:cre a=true) (k:cre b=true) (hf:cfin (cdiv a b)=true):cre (cdiv a b)=true:=by
 refine cre_of hf ?_;unfold cre at h k;rw [Bool.and_eq_true] at h k;have hg:=ge_zero k.1 k.2;unfold cdiv at hf⊢;rw [if_pos hg] at hf⊢;dsimp only at hf⊢;unfold cfin at hf;rw [Bool.and_eq_true] at hf;have pB:=hf.2;dsimp only at pB;rcases fdiv_z b.1 k.2 with hr | hr
 · have hn:=fsub_z h.2 (fmul_zr h.1 hr);rcases fdiv_z (fadd b.1 (fmul b.2 (fdiv b.2 b.1))) hn with h9 | h9
   · exact h9
   · rw [h9,qnan_not] at pB;cases pB
 · have e1:fmul a.1 (fdiv b.2 b.1)=qnan:=by rw [hr];exact fop_qr _ _
   have e2:fsub a.2 (fmul a.1 (fdiv b.2 b.1))=qnan:=by rw [e1];exact fop_qr _ _
   rw [e2] at pB;have e3:∀t,fdiv qnan t=qnan:=fun t=> fop_ql _ _
   rw [e3,qnan_not] at pB;cases pB
end Go.Proofs.YtdepiggjneoopaaGreatDoor
