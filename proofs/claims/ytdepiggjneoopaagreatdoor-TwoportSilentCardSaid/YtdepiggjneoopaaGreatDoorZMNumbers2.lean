/- a part of the proof of the last text -/
import Derived.Test.YtdepiggjneoopaaGreatDoorZMKinds2
import Ieee.Arith
namespace Go.Proofs.YtdepiggjneoopaaGreatDoor
set_option linter.all false
set_option maxHeartbeats 4000000
set_option maxRecDepth 100000
section
open Go.RowKit
theorem nameK_cases (s:ByteArray):(zDf s=0∧(s.size < 2∨(2≤s.size∧16 < s.size)∨(2≤s.size∧s.size≤16∧zEu (s.extract 1 s.size)=false)))∨(∃h:2≤s.size,s.size≤16∧zEu (s.extract 1 s.size)=true∧zDf s=kindOf (s[0]'(by omega)).toNat):=by
 by_cases h1:2≤s.size
 · by_cases h2:s.size≤16
   · cases h3:zEu (s.extract 1 s.size)
     · left;refine ⟨?_,.inr (.inr ⟨h1,h2,rfl⟩)⟩
       unfold zDf;rw [dif_neg (by rw [h3];simp)]
     · right;refine ⟨h1,h2,rfl,?_⟩
       unfold zDf;rw [dif_pos ⟨h1,h2,h3⟩]
   · left;refine ⟨?_,.inr (.inl ⟨h1,by omega⟩)⟩
     unfold zDf;rw [dif_neg (fun h=> h2 h.2.1)]
 · left;refine ⟨?_,.inl (by omega)⟩
   unfold zDf;rw [dif_neg (fun h=> h1 h.1)]
theorem ext_le (s:ByteArray) (hs:s.size≤maxLen):(s.extract 1 s.size).size≤maxLen:=by
 rw [ByteArray.size_extract];omega
theorem vname_any (s:ByteArray) (w:World) (hs:s.size≤maxLen):Calls Tryz.prog 58 #[.string s] w (RetK (zDf s) w):=by
 have he:=hid (ext_le s hs);unfold maxLen at hs;rcases nameK_cases s with ⟨h0,h1 | ⟨h1,h2⟩ | ⟨h1,h2,h3⟩⟩ | ⟨h1,h2,h3,h0⟩
 all_goals
  have H0:=hid h0;clear h0;go_enter Tryz.func58,Tryz.ntmps58;go_wp2_with (first | (go_at_call 94;refine (vsmall_any _ _ he.out).mono ?_;rintro e w' ⟨rfl,hb⟩) | (go_at_call 95;refine (vof_any _ _).mono ?_;rintro e w2 ⟨rfl,aV⟩))
  (try rw [Exit.noGoto_ret])
  go_ret2
  first
   | exact ⟨by rw [H0.out];rfl,Below.refl _ _⟩
   | exact ⟨by rw [H0.out];rfl,zBh hb aV⟩
   | exact ⟨by rw [H0.out];rfl,hb⟩
theorem rname_any (s:ByteArray) (w:World) (hs:s.size≤maxLen):Calls Tryz.prog 87 #[.string s] w (RetK (zDf s) w):=by
 have he:=hid (ext_le s hs);unfold maxLen at hs;rcases nameK_cases s with ⟨h0,h1 | ⟨h1,h2⟩ | ⟨h1,h2,h3⟩⟩ | ⟨h1,h2,h3,h0⟩
 all_goals
  have H0:=hid h0;clear h0;go_enter Tryz.func87,Tryz.ntmps87;go_wp2_with (first | (go_at_call 110;refine (rbytes_any _ _ he.out).mono ?_;rintro e w' ⟨rfl,rfl⟩) | (go_at_call 111;refine (rof_any _ _).mono ?_;rintro e w2 ⟨rfl,aV⟩))
  (try rw [Exit.noGoto_ret])
  go_ret2
  first
   | exact ⟨by rw [H0.out];rfl,Below.refl _ _⟩
   | exact ⟨by rw [H0.out];rfl,aV⟩
end
section
open Go.RowKit
theorem zDt (n:Int) (w:World):(callFunc 7 #[.int .u64 n]).run Tryz.prog w=.ok (.value (.float .f64 n.toNat)) w:=by
 rw [run_callFunc_extern Tryz.func7 (by kernel_rfl) (by kernel_rfl) (by kernel_rfl) (e:=Extern.MathFloatBits.float64frombits) (by kernel_rfl)]
 rfl
theorem bits_law (b:Nat) (w:World):(callFunc 96 #[.float .f64 b]).run Tryz.prog w=.ok (.value (.int .u64 b)) w:=by
 rw [run_callFunc_extern Tryz.func96 (by kernel_rfl) (by kernel_rfl) (by kernel_rfl) (e:=Extern.MathFloatBits.float64bits) (by kernel_rfl)]
 rfl
theorem psize_any (x:Nat) (w:World):
 Calls Tryz.prog 108 #[.float .f64 x] w fun e w'=> e=.returned (.float .f64 (zBc x))∧w=w':=by
 have b1:=bits_law;have b2:=zDt;go_enter Tryz.func108,Tryz.ntmps108;go_wp2;go_ret;exact ⟨congrArg (fun y=> Ending.returned (.float .f64 y)) (fsize_walk x),rfl⟩
theorem padd_any (a b c d:Nat) (w:World):
 Calls Tryz.prog 66 #[.complex .f64 a b,.complex .f64 c d] w (Ret (IsC (cadd (fc a,fc b) (fc c,fc d))) w):=by
 go_enter Tryz.func66,Tryz.ntmps66;go_wp2_with (refine zAo rfl _ _ _ _ _ rfl rfl _ _ rfl rfl ?_;intro _ _ _);go_ret;exact ⟨_,_,rfl,rfl,_,_,rfl,Prod.ext (by assumption) (by assumption)⟩
theorem psub_any (a b c d:Nat) (w:World):
 Calls Tryz.prog 45 #[.complex .f64 a b,.complex .f64 c d] w (Ret (IsC (csub (fc a,fc b) (fc c,fc d))) w):=by
 go_enter Tryz.func45,Tryz.ntmps45;go_wp2_with (first | (refine zAo rfl _ _ _ _ _ rfl rfl _ _ rfl rfl ?_;intro _ _ _) | (fail));go_ret;exact ⟨_,_,rfl,rfl,_,_,rfl,Prod.ext (by first | assumption | (simp only [*];rfl)) (by first | assumption | (simp only [*];rfl))⟩
theorem pmul_any (a b c d:Nat) (w:World):
 Calls Tryz.prog 80 #[.complex .f64 a b,.complex .f64 c d] w (Ret (IsC (cmul (fc a,fc b) (fc c,fc d))) w):=by
 go_enter Tryz.func80,Tryz.ntmps80;go_wp2_with (first | (refine zAo rfl _ _ _ _ _ rfl rfl _ _ rfl rfl ?_;intro _ _ _) | (fail));go_ret;exact ⟨_,_,rfl,rfl,_,_,rfl,Prod.ext (by first | assumption | (simp only [*];rfl)) (by first | assumption | (simp only [*];rfl))⟩
theorem pdiv_any (a b c d:Nat) (w:World):
 Calls Tryz.prog 79 #[.complex .f64 a b,.complex .f64 c d] w (Ret (IsC (cdiv (fc a,fc b) (fc c,fc d))) w):=by
 have hs:isGe (fordz (fc c) (fc d))=(FloatKind.f64.format.order (zBc c) (zBc d)==some .gt || FloatKind.f64.format.order (zBc c) (zBc d)==some .eq):=by rw [fordz_fc];rfl
 have HS:=hid hs;clear hs
 by_cases hg:(FloatKind.f64.format.order (zBc c) (zBc d)==some .gt || FloatKind.f64.format.order (zBc c) (zBc d)==some .eq)=true
 · have hc:cdiv (fc a,fc b) (fc c,fc d)=_:=if_pos (by rw [HS.out];exact hg);have HC:=hid hc;clear hc;rw [HC.out];go_enter Tryz.func79,Tryz.ntmps79;go_wp2_with (first | (refine zAo rfl _ _ _ _ _ rfl rfl _ _ rfl rfl ?_;intro _ _ _) | (fail) | (go_at_call 108;refine (psize_any _ _).mono ?_;rintro e w' ⟨rfl,rfl⟩));go_ret;exact ⟨_,_,rfl,rfl,_,_,rfl,Prod.ext (by first | assumption | (simp only [*];rfl)) (by first | assumption | (simp only [*];rfl))⟩
 · have hc:cdiv (fc a,fc b) (fc c,fc d)=_:=if_neg (by rw [HS.out];exact hg);have HC:=hid hc;clear hc;have hg':=Bool.eq_false_iff.2 hg;clear hg;rw [HC.out];go_enter Tryz.func79,Tryz.ntmps79;go_wp2_with (first | (refine zAo rfl _ _ _ _ _ rfl rfl _ _ rfl rfl ?_;intro _ _ _) | (fail) | (go_at_call 108;refine (psize_any _ _).mono ?_;rintro e w' ⟨rfl,rfl⟩));go_ret;exact ⟨_,_,rfl,rfl,_,_,rfl,Prod.ext (by first | assumption | (simp only [*];rfl)) (by first | assumption | (simp only [*];rfl))⟩
end
section
open Go.RowKit
theorem wpList_rem {P:Program} {ops:Array Oper} {Q:Exit→Act→World→Prop} {a:Act} {w:World} {rest:List Oper} {o:Oper}
 (hw:Region.wanted o (yielded ops a.tmps)=true) (t:TypeId) (x' y':Operand) (t':TypeId) (ho:o.op=.binOp .rem t x' y' t') (x y z:Int) (qJ:¬y=0) (hz:x.tmod y=z)
 (hx:a.eval x'=.int .u64 x) (hy:a.eval y'=.int .u64 y)
 (h:wpList P ops Q rest (a.put o.dst (.int .u64 z)) w):wpList P ops Q (o::rest) a w:=by
 refine wpList_step fun K hK=> ?_
 rw [if_pos hw];have hr:(binOp .rem t (.int .u64 x) (.int .u64 y)).run P w=.ok (.int .u64 z) w:=by
  rw [binOp_rem];unfold Op.intDiv;rw [if_neg qJ,hz];rfl
 have:=hK _ _ h
 simpa [Oper.wp,Oper.upon,execOp,eqGuard,ho,hx,hy,hr] using this
theorem tmod63 (x:Nat):Int.tmod (x:Int) 9223372036854775808=((zBc x:Nat):Int):=by
 rw [Int.tmod_eq_emod_of_nonneg (by omega)];unfold zBc;omega
def zFp (z:Int):Int:=if z=0 then 0 else if z < 4503599627370496 then 1 else if z < 9218868437227405312 then 2 else if z=9218868437227405312 then 3 else 4
def kindF (x:Nat):Int:=zFp (zBc x)
theorem zDj (z:Int):(z=0∧zFp z=0)∨(¬z=0∧z < 4503599627370496∧zFp z=1)∨(¬z=0∧¬z < 4503599627370496∧z < 9218868437227405312∧zFp z=2)∨
 (¬z=0∧¬z < 4503599627370496∧¬z < 9218868437227405312∧z=9218868437227405312∧zFp z=3)∨(¬z=0∧¬z < 4503599627370496∧¬z < 9218868437227405312∧¬z=9218868437227405312∧zFp z=4):=by
 unfold zFp
 split
 · omega
 · split
   · omega
   · split
     · omega
     · split <;> omega
theorem zBw {k:IntKind} {a b:Int} (h:a=b):Ending.returned (.int k a)=.returned (.int k b):=by rw [h]
theorem kz0 {z:Int} (h:(z==0)=true):zFp z=0:=by have:=eq_of_beq h;simp [zFp,this]
theorem kz1 {z:Int} (h:(z==0)=false) (h1:z < 4503599627370496):zFp z=1:=by have:=beq_eq_false_iff_ne.1 h;rcases zDj z with c | c | c | c | c <;> omega
theorem kz2 {z:Int} (h:(z==0)=false) (h1:4503599627370496≤z) (h2:z < 9218868437227405312):zFp z=2:=by have:=beq_eq_false_iff_ne.1 h;rcases zDj z with c | c | c | c | c <;> omega
theorem kz3 {z:Int} (h:(z==9218868437227405312)=true):zFp z=3:=by have:=eq_of_beq h;rcases zDj z with c | c | c | c | c <;> omega
theorem kz4 {z:Int} (h:(z==0)=false) (_:4503599627370496≤z) (h2:9218868437227405312≤z) (h3:(z==9218868437227405312)=false):zFp z=4:=by have:=beq_eq_false_iff_ne.1 h;have:=beq_eq_false_iff_ne.1 h3;rcases zDj z with c | c | c | c | c <;> omega
theorem kind01_any (x:Nat) (w:World):Calls Tryz.prog 89 #[.float .f64 x] w fun e w'=> e=.returned (.int .i64 (kindF x))∧w=w':=by
 have b1:=bits_law;obtain ⟨z,hz⟩:∃z:Int,((zBc x:Nat):Int)=z:=⟨_,rfl⟩;have HZ:=hid (show Int.tmod (x:Int) 9223372036854775808=z by rw [tmod63,hz]);unfold kindF;rw [hz];clear hz;go_enter Tryz.func89,Tryz.ntmps89;go_wp2_with (refine wpList_rem rfl _ _ _ _ rfl _ _ z (by decide) (HZ.out) rfl rfl ?_)
 all_goals (try rw [Exit.noGoto_ret])
 all_goals go_ret
 · exact ⟨zBw (kz0 ‹_›).symm,rfl⟩
 · exact ⟨zBw (kz1 ‹_› ‹_›).symm,rfl⟩
 · exact ⟨zBw (kz2 ‹_› ‹_› ‹_›).symm,rfl⟩
 · exact ⟨zBw (kz3 ‹_›).symm,rfl⟩
 · exact ⟨zBw (kz4 ‹_› ‹_› ‹_› ‹_›).symm,rfl⟩
theorem kind_exp (x:Nat) (hx:x < 18446744073709551616):bits .and .u64 ((x:Int) / 4503599627370496) 2047=((zBc x:Nat):Int) / 4503599627370496:=by
 have h1:(x:Int) / 4503599627370496=((x / 4503599627370496:Nat):Int):=by omega
 rw [h1,show (2047:Int)=((2047:Nat):Int) from rfl,u64_and_nat _ _ (by omega) (by decide),show (2047:Nat)=2 ^ 11 - 1 from rfl,Nat.and_two_pow_sub_one_eq_mod];unfold zBc;omega
theorem kind_rest (x:Nat):IntKind.u64.wrap ((x:Int) * 4096)=(((zBc x:Nat):Int) % 4503599627370496) * 4096:=by
 rw [IntKind.wrap_u64];unfold zBc;omega
theorem kz_exp {z ex rs:Int} (h0:0≤z) (h9:z < 9223372036854775808) (h:z / 4503599627370496=ex) (hr:z % 4503599627370496 * 4096=rs):
 ((ex==0)=true∧(rs==0)=true∧zFp z=0)∨((ex==0)=true∧(rs==0)=false∧zFp z=1)∨((ex==0)=false∧ex < 2047∧zFp z=2)∨((ex==0)=false∧¬ex < 2047∧(rs==0)=true∧zFp z=3)∨((ex==0)=false∧¬ex < 2047∧(rs==0)=false∧zFp z=4):=by
 have hc:=zDj z;cases e1:(ex==0)
 · have g1:=beq_eq_false_iff_ne.1 e1
   by_cases e2:ex < 2047
   · exact .inr (.inr (.inl ⟨rfl,e2,by omega⟩))
   · cases e3:(rs==0)
     · have g3:=beq_eq_false_iff_ne.1 e3;exact .inr (.inr (.inr (.inr ⟨rfl,e2,rfl,by omega⟩)))
     · have g3:=eq_of_beq e3;exact .inr (.inr (.inr (.inl ⟨rfl,e2,rfl,by omega⟩)))
 · have g1:=eq_of_beq e1;cases e3:(rs==0)
   · have g3:=beq_eq_false_iff_ne.1 e3;exact .inr (.inl ⟨rfl,rfl,by omega⟩)
   · have g3:=eq_of_beq e3;exact .inl ⟨rfl,rfl,by omega⟩
theorem kind_any (x:Nat) (w:World) (hx:x < 18446744073709551616):Calls Tryz.prog 60 #[.float .f64 x] w fun e w'=> e=.returned (.int .i64 (kindF x))∧w=w':=by
 have b1:=bits_law;obtain ⟨ex,hex⟩:∃e,((zBc x:Nat):Int) / 4503599627370496=e:=⟨_,rfl⟩;obtain ⟨rs,hrs⟩:∃e,((zBc x:Nat):Int) % 4503599627370496 * 4096=e:=⟨_,rfl⟩;have aI:bits .and .u64 ((x:Int) / 4503599627370496) 2047=ex:=by rw [kind_exp x hx,hex]
 have aV:IntKind.u64.wrap ((x:Int) * 4096)=rs:=by rw [kind_rest,hrs]
 have hk:=kz_exp (z:=((zBc x:Nat):Int)) (by omega) (by have:zBc x < 9223372036854775808:=Nat.mod_lt _ (by decide);omega) hex hrs;clear hx hex hrs;rcases hk with ⟨h1,h2,h0⟩ | ⟨h1,h2,h0⟩ | ⟨h1,h2,h0⟩ | ⟨h1,h2,h3,h0⟩ | ⟨h1,h2,h3,h0⟩
 all_goals
  have H0:=hid h0;clear h0;go_enter Tryz.func60,Tryz.ntmps60;go_wp2
  (try rw [Exit.noGoto_ret])
  go_ret;exact ⟨zBw H0.out.symm,rfl⟩
end
section
open Go.RowKit
structure El where
 kind:Int
 name:ByteArray
 a:ByteArray
 b:ByteArray
 c:ByteArray
 d:ByteArray
 val:Nat
 ph:Int
structure El.Ok (e:El):Prop where
 name:e.name.size≤maxLen
 a:e.a.size≤maxLen
 b:e.b.size≤maxLen
 c:e.c.size≤maxLen
 d:e.d.size≤maxLen
 val:e.val < 18446744073709551616
def ez (e:El):List Value:= [.int .u8 e.kind,.string e.name,.string e.a,.string e.b,.string e.c,.string e.d,.int .u64 e.val,.int .i64 e.ph]
def ea (e:El):List Value:= [.int .u8 e.kind,.string e.name,.string e.a,.string e.b,.string e.c,.string e.d,.float .f64 e.val,.int .i64 e.ph]
theorem ea_one (e:El):∀u∈ea e,u.oneCell'=true:=by intro u hu;simp [ea] at hu;rcases hu with rfl | rfl | rfl | rfl | rfl | rfl | rfl | rfl <;> rfl
def zCc (e:El):Bool:=decide (zDf e.name=0) || (zDf e.name !=e.kind) || !zCw e.a || !zCw e.b || (kFo e.kind && (!zCw e.c || !zCw e.d))
def zCv (e:El):Bool:=decide (e.a.toList=e.b.toList) || (!kFo e.kind && (!decide (e.c.toList= []) || !decide (e.d.toList= []))) || (!kPh e.kind && !decide (e.ph=0))
def zDp (x:Nat):Bool:=!(ford x 0==some .gt)
def zAv (e:El):Int:=
 if isK e.kind then if zCc e then 8 else if zCv e then 2 else if 2 < kindF e.val then 5 else if kAb e.kind && zDp e.val then 2 else 0 else 2
theorem name_ways (e:El):(zDf e.name=0∧zCc e=true)∨(¬zDf e.name=0∧(zDf e.name !=e.kind)=true∧zCc e=true)∨
 (¬zDf e.name=0∧(zDf e.name !=e.kind)=false∧zCw e.a=false∧zCc e=true)∨(¬zDf e.name=0∧(zDf e.name !=e.kind)=false∧zCw e.a=true∧zCw e.b=false∧zCc e=true)∨
 (¬zDf e.name=0∧(zDf e.name !=e.kind)=false∧zCw e.a=true∧zCw e.b=true∧kFo e.kind=false∧zCc e=false)∨
 (¬zDf e.name=0∧(zDf e.name !=e.kind)=false∧zCw e.a=true∧zCw e.b=true∧kFo e.kind=true∧zCw e.c=false∧zCc e=true)∨
 (¬zDf e.name=0∧(zDf e.name !=e.kind)=false∧zCw e.a=true∧zCw e.b=true∧kFo e.kind=true∧zCw e.c=true∧zCw e.d=false∧zCc e=true)∨
 (¬zDf e.name=0∧(zDf e.name !=e.kind)=false∧zCw e.a=true∧zCw e.b=true∧kFo e.kind=true∧zCw e.c=true∧zCw e.d=true∧zCc e=false):=by
 unfold zCc
 by_cases h0:zDf e.name=0
 · simp [h0]
 · cases (zDf e.name !=e.kind) <;> cases zCw e.a <;> cases zCw e.b <;> cases kFo e.kind <;> cases zCw e.c <;> cases zCw e.d <;> simp [h0]
theorem arg_ways (e:El):(e.a.toList=e.b.toList∧zCv e=true)∨(¬e.a.toList=e.b.toList∧(e.a.toList==e.b.toList)=false∧kFo e.kind=false∧¬e.c.toList= []∧zCv e=true)∨
 (¬e.a.toList=e.b.toList∧(e.a.toList==e.b.toList)=false∧kFo e.kind=false∧e.c.toList= []∧¬e.d.toList= []∧zCv e=true)∨
 (¬e.a.toList=e.b.toList∧(e.a.toList==e.b.toList)=false∧kFo e.kind=false∧e.c.toList= []∧e.d.toList= []∧kPh e.kind=true∧zCv e=false)∨
 (¬e.a.toList=e.b.toList∧(e.a.toList==e.b.toList)=false∧kFo e.kind=false∧e.c.toList= []∧e.d.toList= []∧kPh e.kind=false∧(e.ph !=0)=true∧zCv e=true)∨
 (¬e.a.toList=e.b.toList∧(e.a.toList==e.b.toList)=false∧kFo e.kind=false∧e.c.toList= []∧e.d.toList= []∧kPh e.kind=false∧(e.ph !=0)=false∧zCv e=false)∨
 (¬e.a.toList=e.b.toList∧(e.a.toList==e.b.toList)=false∧kFo e.kind=true∧kPh e.kind=true∧zCv e=false)∨(¬e.a.toList=e.b.toList∧(e.a.toList==e.b.toList)=false∧kFo e.kind=true∧kPh e.kind=false∧(e.ph !=0)=true∧zCv e=true)∨
 (¬e.a.toList=e.b.toList∧(e.a.toList==e.b.toList)=false∧kFo e.kind=true∧kPh e.kind=false∧(e.ph !=0)=false∧zCv e=false):=by
 unfold zCv
 by_cases h1:e.a.toList=e.b.toList <;> by_cases h2:e.c.toList= [] <;> by_cases h3:e.d.toList= [] <;> by_cases h4:e.ph=0 <;> cases kFo e.kind <;> cases kPh e.kind <;> simp [h1,h2,h3,h4]
def RetI (k:Int) (w:World) (en:Ending) (w':World):Prop:=en=.returned (.int .i64 k)∧Below w.heap.size w w'
end
section
namespace FV
def mag (r:Nat):Nat:=if r < 2 ^ 52 then r else (2 ^ 52+r % 2 ^ 52) * 2 ^ (r / 2 ^ 52 - 1)
theorem mag_rung (k c:Nat) (h:c≤2 ^ 53) (hk:2 ^ 52≤c∨k=0):mag (k * 2 ^ 52+c)=c * 2 ^ k:=by
 unfold mag
 by_cases h1:c < 2 ^ 52
 · obtain rfl:k=0:=by rcases hk with hk | hk <;> omega
   rw [if_pos (by omega)];simp
 · rw [if_neg (by have:=Nat.zero_le (k * 2 ^ 52);omega)]
   by_cases h2:c=2 ^ 53
   · subst h2;rw [show k * 2 ^ 52+2 ^ 53=(k+2) * 2 ^ 52 by omega,Nat.mul_mod_left,Nat.mul_div_cancel _ (by decide),show k+2 - 1=k+1 by omega,Nat.add_zero,Nat.pow_add 2 k 1]
     omega
   · obtain ⟨d,rfl⟩:∃d,c=2 ^ 52+d:=⟨c - 2 ^ 52,by omega⟩;rw [show k * 2 ^ 52+(2 ^ 52+d)=d+(k+1) * 2 ^ 52 by omega,Nat.add_mul_mod_self_right,Nat.mod_eq_of_lt (by omega),Nat.add_mul_div_right _ _ (by decide),Nat.div_eq_of_lt (by omega)]
     simp
abbrev dbl:Ieee.Format:=Ieee.double
theorem lp_eq:dbl.leastPlace=-1074:=by decide
theorem bin_eq:dbl.binade=2 ^ 52:=rfl
def fin (x:Nat):Bool:=decide (x % 2 ^ 63 < 2047 * 2 ^ 52)
def sgn (x:Nat):Bool:=x / 2 ^ 63 % 2==1
def sg (s:Bool) (n:Nat):Int:=if s then -(n:Int) else n
def val (x:Nat):Int:=sg (sgn x) (mag (x % 2 ^ 63))
def plc (x:Nat):Int:=if x % 2 ^ 63 < 2 ^ 52 then -1074 else ((x % 2 ^ 63 / 2 ^ 52 - 1:Nat):Int) - 1074
def sig (x:Nat):Nat:=if x % 2 ^ 63 < 2 ^ 52 then x % 2 ^ 63 else 2 ^ 52+x % 2 ^ 63 % 2 ^ 52
theorem sw_eq:dbl.signWeight=2 ^ 63:=rfl
theorem inf_eq:dbl.infRung=2047 * 2 ^ 52:=by decide
theorem read_fin {x:Nat} (h:fin x=true):dbl.read x=.number (sgn x) (sig x) (plc x):=by
 have h':x % 2 ^ 63 < 2047 * 2 ^ 52:=by simpa [fin] using h
 unfold Ieee.Format.read sgn sig plc;simp only [sw_eq,inf_eq,bin_eq,lp_eq]
 split
 · rfl
 · congr 1
theorem plc_ge (x:Nat):-1074≤plc x:=by unfold plc;split <;> omega
theorem sig_mag (x:Nat):sig x * 2 ^ (plc x+1074).toNat=mag (x % 2 ^ 63):=by
 unfold sig plc mag
 split
 · simp
 · rw [show ((x % 2 ^ 63 / 2 ^ 52 - 1:Nat):Int) - 1074+1074=((x % 2 ^ 63 / 2 ^ 52 - 1:Nat):Int) by omega,Int.toNat_natCast]
theorem signed_eq (s:Bool) (m u:Nat):Ieee.signed s m u=sg s (m * 2 ^ u):=by
 unfold Ieee.signed sg;rw [Nat.shiftLeft_eq]
theorem sg_mul (s:Bool) (m c:Nat):sg s (m * c)=sg s m * c:=by
 unfold sg;cases s <;> simp [Int.neg_mul]
theorem compare_mul (a b:Int) (c:Nat) (h:0 < c):compare (a * c) (b * c)=compare a b:=by
 have hc:(0:Int) < c:=by omega
 rcases Int.lt_trichotomy a b with hl | he | hl
 · have:=Int.mul_lt_mul_of_pos_right hl hc
   simp [compare,compareOfLessAndEq,hl,this]
 · subst he;simp [compare,compareOfLessAndEq]
 · have:=Int.mul_lt_mul_of_pos_right hl hc;have h1:¬a < b:=by omega
   have h2:¬a=b:=by omega
   have h3:¬a * c < b * c:=by omega
   have h4:¬a * c=b * c:=by omega
   simp [compare,compareOfLessAndEq,h1,h2,h3,h4]
theorem order_fin {x y:Nat} (hx:fin x=true) (hy:fin y=true):dbl.order x y=some (compare (val x) (val y)):=by
 have px:=plc_ge x;have py:=plc_ge y;obtain ⟨b,hb⟩:∃b,min (plc x) (plc y)=b:=⟨_,rfl⟩;have bK:b≤plc x:=by omega
 have mW:b≤plc y:=by omega
 have rH:-1074≤b:=by omega
 have ex:sg (sgn x) (sig x * 2 ^ (plc x - b).toNat) * ((2 ^ (b+1074).toNat:Nat):Int)=val x:=by
  rw [←sg_mul,Nat.mul_assoc,←Nat.pow_add,show (plc x - b).toNat+(b+1074).toNat=(plc x+1074).toNat by omega,sig_mag];rfl
 have ey:sg (sgn y) (sig y * 2 ^ (plc y - b).toNat) * ((2 ^ (b+1074).toNat:Nat):Int)=val y:=by
  rw [←sg_mul,Nat.mul_assoc,←Nat.pow_add,show (plc y - b).toNat+(b+1074).toNat=(plc y+1074).toNat by omega,sig_mag];rfl
 unfold Ieee.Format.order;rw [read_fin hx,read_fin hy];simp only [Ieee.Datum.order,hb,signed_eq];rw [←ex,←ey,compare_mul _ _ _ (Nat.two_pow_pos _)]
theorem order_eq {x y:Nat} (hx:fin x=true) (hy:fin y=true) (h:val x=val y):dbl.order x y=some .eq:=by
 rw [order_fin hx hy,h];simp [compare,compareOfLessAndEq]
theorem xor_mod (x:Nat):(x ^^^ 2 ^ 63) % 2 ^ 63=x % 2 ^ 63:=by
 rw [Nat.xor_mod_two_pow,Nat.mod_self,Nat.xor_zero]
end FV
end
section
open Go.RowKit
theorem zAc {w:World} {g t:Nat} {cs:Array Value} (h:w.heap[g]? =some (.cells cs t (0,0))):(∀ (o:Nat) (x:Value),cs[o]? =some x→w.cell? ⟨g,o,none⟩=some x)∧∀o,w.frozen? ⟨g,o,none⟩=false:=
 ⟨fun o x hx=> (cell_of_row _ _ _ _ _ _ h).trans hx,fun o=> by simp [World.frozen?,h]⟩
theorem zCg {w:World} {g:Nat} {o o':Obj} (h:w.heap[g]? =some o):(w.alloc o').heap[g]? =some o:=(heap_alloc_old w o' (Array.getElem?_eq_some_iff.1 h).1).trans h
theorem zAa {w w':World} {g:Nat} {o:Obj} (hb:Below w.heap.size w w') (h:w.heap[g]? =some o):w'.heap[g]? =some o:=(hb.block g (Array.getElem?_eq_some_iff.1 h).1).trans h
theorem zAd {w w1 w2:World} (h:Below w.heap.size w w1) (h2:Below w1.heap.size w1 w2):Below w.heap.size w w2:=h.trans (h2.mono h.size)
theorem zAb {w:World} {g t:Nat} {cs:Array Value} (h:w.heap[g]? =some (.cells cs t (0,0))):(∀ (o:Nat) (x:Value),cs[o]? =some x→w.cell? ⟨g,o,none⟩=some x)∧∀o,w.frozen? ⟨g,o,none⟩=false:=
 ⟨fun o x hx=> (cell_of_row _ _ _ _ _ _ h).trans hx,fun o=> by simp [World.frozen?,h]⟩
end
section
open Go.RowKit
theorem order_zero {x:Nat} (h:kindF x≤2):FloatKind.f64.format.order x 0=some .lt∨FloatKind.f64.format.order x 0=some .eq∨FloatKind.f64.format.order x 0=some .gt:=by
 have hx:FV.fin x=true:=by
  have hz:((zBc x:Nat):Int) < 9218868437227405312:=by
   unfold kindF at h;rcases zDj ((zBc x:Nat):Int) with c | c | c | c | c <;> omega
  have hf:zBc x=x % 9223372036854775808:=rfl;have e1:(2:Nat) ^ 63=9223372036854775808:=by decide
  have e2:2047 * (2:Nat) ^ 52=9218868437227405312:=by decide
  unfold FV.fin;rw [e1,e2,←hf];exact decide_eq_true (by omega)
 have h0:FV.fin 0=true:=by decide+kernel
 have ho:FloatKind.f64.format.order x 0=some (compare (FV.val x) (FV.val 0)):=FV.order_fin hx h0;rw [ho];cases compare (FV.val x) (FV.val 0) <;> simp
theorem above_no {x:Nat} (h:(FloatKind.f64.format.order x 0==some Ordering.lt)=true∨(FloatKind.f64.format.order x 0==some Ordering.eq)=true):zDp x=true:=by
 have:ford x 0=FloatKind.f64.format.order x 0:=rfl;unfold zDp;rw [this];rcases h with h | h <;> rw [eq_of_beq h] <;> rfl
theorem above_yes {x:Nat} (hk:kindF x≤2) (h:(FloatKind.f64.format.order x 0==some Ordering.lt)=false∧(FloatKind.f64.format.order x 0==some Ordering.eq)=false):zDp x=false:=by
 have e:ford x 0=FloatKind.f64.format.order x 0:=rfl;unfold zDp;rw [e];rcases order_zero hk with c | c | c
 · rw [c] at h;exact absurd h.1 (by decide)
 · rw [c] at h;exact absurd h.2 (by decide)
 · rw [c];rfl
theorem zFi {e:El} {b:Bool} (hk:isK e.kind=true) (hn:zCc e=false) (hg:zCv e=false) (h2:kindF e.val≤2) (ha:(kAb e.kind && zDp e.val)=b):zAv e=if b=true then 2 else 0:=by
 unfold zAv;rw [hk,hn,hg,ha,if_neg (show¬2 < kindF e.val by omega)]
 rfl
theorem vcheck_any (e:El) (w:World) (he:e.Ok):
 Calls Tryz.prog 32 #[.agg #[.int .u8 e.kind,.string e.name,.string e.a,.string e.b,.string e.c,.string e.d,.float .f64 e.val,.int .i64 e.ph]] w (RetI (zAv e) w):=by
 have HE:=hid he;clear he;cases hk:isK e.kind
 · have HK:=hid hk;clear hk;go_enter Tryz.func32,Tryz.ntmps32;go_wp2_with (go_at_call 57;refine (rowof_agg _ _).mono ?_;rintro e1 w1 ⟨rfl,aI⟩;rw [HK.out])
   (try rw [Exit.noGoto_ret])
   go_ret;have hb:=((Below.refl _ w).alloc (Nat.le_refl _) _).trans (aI.mono (by simp));exact ⟨zBw (by unfold zAv;rw [HK.out];rfl),hb.alloc hb.size _⟩
 · have HK:=hid hk;clear hk;go_enter Tryz.func32,Tryz.ntmps32;go_upto_region 2 with (go_at_call 57;refine (rowof_agg _ _).mono ?_;rintro e1 w1 ⟨rfl,aI⟩;rw [HK.out];have aL:=hid aI;clear aI);have hA0:=(aL.out.block w.heap.size (by simp)).trans (heap_alloc_new w _);have kF:w.heap.size < w1.heap.size:=by have:=aL.out.size;simp at this;omega
   have oA:=hid ((((Below.refl _ w).alloc (Nat.le_refl _) _).trans (aL.out.mono (by simp))).alloc (Nat.le_of_lt kF) (.cells #[.int .u8 (kLet e.kind),.string (kUnit e.kind),.bool (kAb e.kind),.bool (kFo e.kind),.bool (kPh e.kind)] 109));have hA1:=zCg (o':=.cells #[.int .u8 (kLet e.kind),.string (kUnit e.kind),.bool (kAb e.kind),.bool (kFo e.kind),.bool (kPh e.kind)] 109) hA0;have hR1:=heap_alloc_new w1 (.cells #[.int .u8 (kLet e.kind),.string (kUnit e.kind),.bool (kAb e.kind),.bool (kFo e.kind),.bool (kPh e.kind)] 109);obtain ⟨gr,aF⟩:∃gr,w1.heap.size=gr:=⟨_,rfl⟩;generalize w1.alloc (.cells #[.int .u8 (kLet e.kind),.string (kUnit e.kind),.bool (kAb e.kind),.bool (kFo e.kind),.bool (kPh e.kind)] 109)=w2 at *;rw [aF] at *;clear aF hA0 aL kF;have k1:=(zAc hA1).1 1 _ rfl;have HA:=hid hA1;have HR:=hid hR1;clear hA1 hR1;go_upto_region 5 with (go_at_call 58;refine (vname_any _ _ HE.out.name).mono ?_;rintro e3 w3 ⟨rfl,fP⟩;have aT:=hid fP;clear fP);have nZ:=hid (oA.out.trans (aT.out.mono oA.out.size));obtain ⟨kQ,_⟩:=zAc (zAa aT.out HA.out);obtain ⟨lT,_⟩:=zAc (zAa aT.out HR.out);have c0:=kQ 0 _ rfl;have c2:=kQ 2 _ rfl;have c3:=kQ 3 _ rfl;have c4:=kQ 4 _ rfl;have c5:=kQ 5 _ rfl;have c6:=kQ 6 _ rfl;have c7:=kQ 7 _ rfl;have r2:=lT 2 _ rfl;have r3:=lT 3 _ rfl;have r4:=lT 4 _ rfl;clear kQ lT HA HR oA aT k1
   go_cut [5,6,56] (fun _ _ t wx=> t=.bool (zCc e)∧Below w3.heap.size w3 wx)
   case first=>
    have hself:=Below.refl w3.heap.size w3;rcases name_ways e with ⟨h1,h0⟩ | ⟨h1,h2,h0⟩ | ⟨h1,h2,h3,h0⟩ | ⟨h1,h2,h3,h4,h0⟩ | ⟨h1,h2,h3,h4,h5,h0⟩ | ⟨h1,h2,h3,h4,h5,h6,h0⟩ | ⟨h1,h2,h3,h4,h5,h6,h7,h0⟩ | ⟨h1,h2,h3,h4,h5,h6,h7,h0⟩
    all_goals
     have H0:=hid h0;clear h0;go_wp2_with (go_at_call 59;refine (vnode_any _ _ (by first | exact HE.out.a | exact HE.out.b | exact HE.out.c | exact HE.out.d)).mono ?_;rintro en wn ⟨rfl,dP⟩;have:=zAd (w:=w3) (by assumption) dP;have:=cell_later (a:=⟨w.heap.size,0,none⟩) dP (by assumption);have:=cell_later (a:=⟨w.heap.size,2,none⟩) dP (by assumption);have:=cell_later (a:=⟨w.heap.size,3,none⟩) dP (by assumption);have:=cell_later (a:=⟨w.heap.size,4,none⟩) dP (by assumption);have:=cell_later (a:=⟨w.heap.size,5,none⟩) dP (by assumption);have:=cell_later (a:=⟨w.heap.size,6,none⟩) dP (by assumption);have:=cell_later (a:=⟨w.heap.size,7,none⟩) dP (by assumption);have:=cell_later (a:=⟨gr,2,none⟩) dP (by assumption);have:=cell_later (a:=⟨gr,3,none⟩) dP (by assumption);have:=cell_later (a:=⟨gr,4,none⟩) dP (by assumption));go_meet;exact ⟨by rw [H0.out],by assumption⟩
   case rest=>
    obtain ⟨wa,rfl⟩:∃wa:World,wa=wc:=⟨_,rfl⟩;obtain ⟨rfl,dP⟩:=hcut;have kC:=hid (nZ.out.trans (dP.mono nZ.out.size));have d0:=cell_later dP c0;have d2:=cell_later dP c2;have d3:=cell_later dP c3;have d4:=cell_later dP c4;have d5:=cell_later dP c5;have d6:=cell_later dP c6;have d7:=cell_later dP c7;have s2:=cell_later dP r2;have s3:=cell_later dP r3;have s4:=cell_later dP r4;clear c0 c2 c3 c4 c5 c6 c7 r2 r3 r4 dP nZ;cases hn:zCc e
    · have HN:=hid hn;clear hn;go_upto_region 7 with fail
      go_cut [86] (fun t wx=> t=.bool (zCv e)∧wx=wa)
      case first=>
       rcases arg_ways e with ⟨h1,h0⟩ | ⟨h1,g1,h2,h3,h0⟩ | ⟨h1,g1,h2,h3,h4,h0⟩ | ⟨h1,g1,h2,h3,h4,h5,h0⟩ | ⟨h1,g1,h2,h3,h4,h5,h6,h0⟩ | ⟨h1,g1,h2,h3,h4,h5,h6,h0⟩ | ⟨h1,g1,h2,h3,h0⟩ | ⟨h1,g1,h2,h3,h4,h0⟩ | ⟨h1,g1,h2,h3,h4,h0⟩
       all_goals
        have H0:=hid h0;clear h0;go_wp2_with fail;go_meet;exact ⟨by rw [H0.out],rfl⟩
      case rest=>
       obtain ⟨rfl,rfl⟩:=hcut;cases hg:zCv e
       · have HG:=hid hg;clear hg
         by_cases iA:2 < kindF e.val
         · go_wp2_with (go_at_call 60;refine (kind_any _ _ HE.out.val).mono ?_;rintro e5 w5 ⟨rfl,rfl⟩)
           (try rw [Exit.noGoto_ret])
           go_ret;exact ⟨zBw (by unfold zAv;rw [HK.out,HN.out,HG.out,if_pos iA];rfl),kC.out⟩
         · have uA:=hid (show kindF e.val≤2 by omega);cases ha:kAb e.kind
           · go_wp2_with (go_at_call 60;refine (kind_any _ _ HE.out.val).mono ?_;rintro e5 w5 ⟨rfl,rfl⟩)
             (try rw [Exit.noGoto_ret])
             go_ret;exact ⟨zBw (zFi HK.out HN.out HG.out uA.out (b:=false) (by rw [ha];rfl)).symm,kC.out⟩
           · have HA:=hid ha;go_wp2_with (go_at_call 60;refine (kind_any _ _ HE.out.val).mono ?_;rintro e5 w5 ⟨rfl,rfl⟩)
             · rename_i kE;have HO:=hid kE;clear kE
               (try rw [Exit.noGoto_ret])
               go_ret;exact ⟨zBw (zFi HK.out HN.out HG.out uA.out (b:=true) (by rw [HA.out,above_no HO.out];rfl)).symm,kC.out⟩
             · rename_i kE;have HO:=hid kE;clear kE
               (try rw [Exit.noGoto_ret])
               go_ret;exact ⟨zBw (zFi HK.out HN.out HG.out uA.out (b:=false) (by rw [HA.out,above_yes uA.out HO.out];rfl)).symm,kC.out⟩
       · have HG:=hid hg;clear hg;go_wp2_with fail
         (try rw [Exit.noGoto_ret])
         go_ret;exact ⟨zBw (by unfold zAv;rw [HK.out,HN.out,HG.out];rfl),kC.out⟩
    · have HN:=hid hn;clear hn;go_wp2_with fail
      (try rw [Exit.noGoto_ret])
      go_ret;exact ⟨zBw (by unfold zAv;rw [HK.out,HN.out];rfl),kC.out⟩
end
section
open Go.RowKit
theorem ffin_of {x r:Nat} (h:fc r=fop .sub (fc x) (fc x)):(FloatKind.f64.format.order r 0==some .eq)=ffin (fc x):=by
 have e0:fc 0=0:=zBv (by decide+kernel);show (ford r 0==some .eq)=_;rw [←ford_fc,h,e0];rfl
theorem cfin_yes {a b r s:Nat} (h1:fc r=fop .sub (fc a) (fc a)) (t:FloatKind.f64.format.order r 0=some .eq) (h2:fc s=fop .sub (fc b) (fc b)):
 (FloatKind.f64.format.order s 0==some .eq)=cfin (fc a,fc b):=by
 rw [ffin_of h2,cfin,←ffin_of h1,t];rfl
theorem cfin_no {a b r:Nat} (h1:fc r=fop .sub (fc a) (fc a)) (t:¬FloatKind.f64.format.order r 0=some .eq):false=cfin (fc a,fc b):=by
 rw [cfin,←ffin_of h1];have:(FloatKind.f64.format.order r 0==some .eq)=false:=by simpa using t
 rw [this];rfl
theorem ret_bool {a b:Bool} (h:a=b):Ending.returned (.bool a)=.returned (.bool b):=by rw [h]
theorem zBk (a b:Nat) (w:World):
 Calls Tryz.prog 41 #[.complex .f64 a b] w (Ret (fun v=> v=.bool (cfin (fc a,fc b))) w):=by
 go_enter Tryz.func41,Tryz.ntmps41;go_wp2_with (refine zAo rfl _ _ _ _ _ rfl rfl _ _ rfl rfl ?_;intro _ _ _)
 all_goals go_ret
 · rename_i r1 n1 h1 t r2 n2 h2;exact ⟨_,_,rfl,rfl,congrArg Value.bool (cfin_yes h1 t h2)⟩
 · rename_i r1 n1 h1 t;exact ⟨_,_,rfl,rfl,congrArg Value.bool (cfin_no h1 t)⟩
theorem same_bits_nan {a b:Nat} (h:¬(a=b)):(fc a=fc b) ↔ (fnan a=true∧fnan b=true):=by
 constructor
 · intro hf
   by_cases ha:fnan a=true
   · refine ⟨ha,?_⟩;rw [zCf ha] at hf;exact fc_eq_qnan.1 hf.symm
   · by_cases hb:fnan b=true
     · rw [zCf hb] at hf;exact absurd (fc_eq_qnan.1 hf) ha
     · rw [zBv (by simpa using ha),zBv (by simpa using hb)] at hf;exact absurd hf h
 · rintro ⟨ha,hb⟩;rw [zCf ha,zCf hb]
theorem neq_self (x:Nat):(FloatKind.f64.format.order x x !=some .eq)=fnan x:=by
 have:=ford_self x;unfold ford at this;unfold bne;rw [this];simp
theorem same_1 {a b:Nat} (h:(a:Int)=b):true=(fc a==fc b):=by
 have:a=b:=by omega
 simp [this]
theorem same_2 {a b:Nat} (h:¬(a:Int)=b) (h2:FloatKind.f64.format.order a a=some .eq):((a:Int)==b)=(fc a==fc b):=by
 have hab:¬a=b:=by omega
 have hn:fnan a=false:=by rw [←neq_self,h2];rfl
 have h1:((a:Int)==b)=false:=by simpa using h
 have h3:(fc a==fc b)=false:=by
  rw [beq_eq_false_iff_ne];intro e;have:=((same_bits_nan hab).1 e).1;rw [hn] at this;cases this
 rw [h1,h3]
theorem same_3 {a b:Nat} (h:¬(a:Int)=b):
 ((a:Int)==b || FloatKind.f64.format.order a a !=some .eq && FloatKind.f64.format.order b b !=some .eq)=(fc a==fc b):=by
 have hab:¬a=b:=by omega
 have h1:((a:Int)==b)=false:=by simpa using h
 rw [h1,neq_self,neq_self,Bool.eq_iff_iff]
 simp [same_bits_nan hab]
theorem samereal_any (a b:Nat) (w:World):
 Calls Tryz.prog 75 #[.float .f64 a,.float .f64 b] w fun e w'=> e=.returned (.bool (fc a==fc b))∧w=w':=by
 have b1:=bits_law;go_enter Tryz.func75,Tryz.ntmps75;go_wp2
 all_goals go_ret
 · rename_i h;exact ⟨ret_bool (same_1 h),rfl⟩
 · rename_i h h2;exact ⟨ret_bool (same_2 h h2),rfl⟩
 · rename_i h h2;exact ⟨ret_bool (same_3 h),rfl⟩
theorem samenum_any (a b c d:Nat) (w:World):
 Calls Tryz.prog 43 #[.complex .f64 a b,.complex .f64 c d] w fun e w'=> e=.returned (.bool (fc a==fc c && fc b==fc d))∧w=w':=by
 go_enter Tryz.func43,Tryz.ntmps43;go_wp2_with (go_at_call 75;refine (samereal_any _ _ _).mono ?_;rintro e w' ⟨rfl,rfl⟩)
 all_goals go_ret
 all_goals exact ⟨ret_bool (by simp [*]),rfl⟩
end
section
open Go.RowKit
end
section
open Go.RowKit
abbrev mkC (z:Cx):Value:=.complex .f64 z.1 z.2
def ck (z:Cx):Cx:=(fc z.1,fc z.2)
theorem zFh:(Tryz.prog.info? 48).map (fun i=> (i.zero,i.size,i.bytes))=some (some (.complex .f64 0 0),1,16):=by kernel_rfl
theorem beq_pair (x y:Cx):(ck x==ck y)=(fc x.1==fc y.1 && fc x.2==fc y.2):=rfl
theorem samenumber_any (x y:Cx) (w:World):
 Calls Tryz.prog 43 #[mkC x,mkC y] w fun e w'=> e=.returned (.bool (ck x==ck y))∧w=w':=by
 rw [beq_pair];exact samenum_any x.1 x.2 y.1 y.2 w
theorem samenumbers_any (v u:Value) (l m:List Cx) (w:World) (hv:IsSl w 1 v l.length (l.map (mkC))) (hu:IsSl w 1 u m.length (m.map (mkC)))
 (hl:l.length≤140737488355328) (_:m.length≤140737488355328):
 Calls Tryz.prog 13 #[v,u] w (Ret (fun r=> r=.bool (l.map ck==m.map ck)) w):=by
 obtain ⟨a,c,rfl⟩:=hv.form;obtain ⟨a2,c2,rfl⟩:=hu.form;obtain ⟨i0,hi,cG,bD,cB⟩:=info_parts zFh
 by_cases hlen:l.length=m.length
 · have hlB:((l.length:Int) !=(m.length:Int))=false:=by simp [hlen]
   have HL:=hid hlen;clear hlen;go_enter Tryz.func13,Tryz.ntmps13;go_wp2
   go_loopw [5] (fun i wr=> ∃ (k n:Nat),k≤l.length∧i=.int .i64 k∧wr=w.drewN n∧(l.take k).map ck=(m.take k).map ck) (fun i _=> l.length - (intOf i).toNat)
   case atStart=> exact ⟨0,0,by omega,rfl,rfl,rfl⟩
   case round=>
    obtain ⟨k,n,hk,rfl,hw,heq⟩:=hrel;have tA:IsSl wr 1 (.slice a l.length c) l.length (l.map (mkC)):=by rw [hw];exact hv
    have lS:IsSl wr 1 (.slice a2 m.length c2) m.length (m.map (mkC)):=by rw [hw];exact hu
    have HW:=hid hw;have uB:=hid heq;clear heq hw
    by_cases aM:k < l.length
    · obtain ⟨g,o,x,aZ,hg,aA,hx⟩:=IsSl.at1 Tryz.underlying41 hi bD tA aM;obtain ⟨g2,o2,x2,oG,iR,hcell2,oX⟩:=IsSl.at1 Tryz.underlying41 hi bD lS (show k < m.length by have:=HL.out;omega);obtain ⟨b,kP,rfl⟩:=map_getElem? hx;obtain ⟨b2,aV,rfl⟩:=map_getElem? oX;clear hx oX;have aL:=hid kP;have aG:=hid aV;clear kP aV;go_wp2_with fail
      go_quiet ((go_at_call 43;exact Calls.quiet_same (samenumber_any _ _ _)))
      go_wp2
      · go_ret;rename_i t;exact ⟨_,nq+n,rfl,by rw [HW.out];simp [World.drewN_drewN,Nat.add_comm],congrArg Value.bool (sameL_no (key:=ck) aL.out aG.out t).symm⟩
      · rename_i t;go_roundw
        case rel=> exact ⟨k+1,nq+n,by omega,by go_num,by rw [HW.out];simp [World.drewN_drewN,Nat.add_comm],sameL_step uB.out aL.out aG.out t⟩
        case measure=> simp [intOf];omega
    · go_wp2;go_ret;exact ⟨_,n,rfl,HW.out,congrArg Value.bool (sameL_yes uB.out (by omega) HL.out).symm⟩
 · have hlB:((l.length:Int) !=(m.length:Int))=true:=by rw [bne_iff_ne];omega
   have HL:=hid hlen;clear hlen;go_enter Tryz.func13,Tryz.ntmps13;go_wp2;go_ret;exact ⟨_,0,rfl,rfl,congrArg Value.bool (sameL_len HL.out).symm⟩
end
end Go.Proofs.YtdepiggjneoopaaGreatDoor
