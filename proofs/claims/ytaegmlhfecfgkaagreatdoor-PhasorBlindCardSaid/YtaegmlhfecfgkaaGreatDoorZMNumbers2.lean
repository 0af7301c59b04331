/- a part of the proof of the last text -/
import Derived.Test.YtaegmlhfecfgkaaGreatDoorZMKinds2
import Ieee.Arith
namespace Go.Proofs.YtaegmlhfecfgkaaGreatDoor
set_option linter.all false
set_option maxHeartbeats 4000000
set_option maxRecDepth 100000
section
open Go.RowKit
theorem nameK_cases (s:ByteArray):(nameK s=0∧(s.size < 2∨(2≤s.size∧16 < s.size)∨(2≤s.size∧s.size≤16∧smallB (s.extract 1 s.size)=false)))∨(∃h:2≤s.size,s.size≤16∧smallB (s.extract 1 s.size)=true∧nameK s=kindOf (s[0]'(by omega)).toNat):=by
 by_cases h1:2≤s.size
 · by_cases h2:s.size≤16
   · cases h3:smallB (s.extract 1 s.size)
     · left;refine ⟨?_,.inr (.inr ⟨h1,h2,rfl⟩)⟩
       unfold nameK;rw [dif_neg (by rw [h3];simp)]
     · right;refine ⟨h1,h2,rfl,?_⟩
       unfold nameK;rw [dif_pos ⟨h1,h2,h3⟩]
   · left;refine ⟨?_,.inr (.inl ⟨h1,by omega⟩)⟩
     unfold nameK;rw [dif_neg (fun h=> h2 h.2.1)]
 · left;refine ⟨?_,.inl (by omega)⟩
   unfold nameK;rw [dif_neg (fun h=> h1 h.1)]
theorem ext_le (s:ByteArray) (hs:s.size≤maxLen):(s.extract 1 s.size).size≤maxLen:=by
 rw [ByteArray.size_extract];omega
theorem vname_any (s:ByteArray) (w:World) (hs:s.size≤maxLen):Calls Tryz.prog 55 #[.string s] w (RetK (nameK s) w):=by
 have he:=hid (ext_le s hs);unfold maxLen at hs;rcases nameK_cases s with ⟨h0,h1 | ⟨h1,h2⟩ | ⟨h1,h2,h3⟩⟩ | ⟨h1,h2,h3,h0⟩
 all_goals
  have H0:=hid h0;clear h0;go_enter Tryz.func55,Tryz.ntmps55;go_wp2_with (first | (go_at_call 86;refine (vsmall_any _ _ he.out).mono ?_;rintro e w' ⟨rfl,hb⟩) | (go_at_call 87;refine (vof_any _ _).mono ?_;rintro e w2 ⟨rfl,hb2⟩))
  (try rw [Exit.noGoto_ret])
  go_ret2
  first
   | exact ⟨by rw [H0.out];rfl,Below.refl _ _⟩
   | exact ⟨by rw [H0.out];rfl,below_step hb hb2⟩
   | exact ⟨by rw [H0.out];rfl,hb⟩
theorem rname_any (s:ByteArray) (w:World) (hs:s.size≤maxLen):Calls Tryz.prog 63 #[.string s] w (RetK (nameK s) w):=by
 have he:=hid (ext_le s hs);unfold maxLen at hs;rcases nameK_cases s with ⟨h0,h1 | ⟨h1,h2⟩ | ⟨h1,h2,h3⟩⟩ | ⟨h1,h2,h3,h0⟩
 all_goals
  have H0:=hid h0;clear h0;go_enter Tryz.func63,Tryz.ntmps63;go_wp2_with (first | (go_at_call 92;refine (rbytes_any _ _ he.out).mono ?_;rintro e w' ⟨rfl,rfl⟩) | (go_at_call 93;refine (rof_any _ _).mono ?_;rintro e w2 ⟨rfl,hb2⟩))
  (try rw [Exit.noGoto_ret])
  go_ret2
  first
   | exact ⟨by rw [H0.out];rfl,Below.refl _ _⟩
   | exact ⟨by rw [H0.out];rfl,hb2⟩
end
section
open Go.RowKit
theorem frombits_law (n:Int) (w:World):(callFunc 8 #[.int .u64 n]).run Tryz.prog w=.ok (.value (.float .f64 n.toNat)) w:=by
 rw [run_callFunc_extern Tryz.func8 (by kernel_rfl) (by kernel_rfl) (by kernel_rfl) (e:=Extern.MathFloatBits.float64frombits) (by kernel_rfl)]
 rfl
theorem bits_law (b:Nat) (w:World):(callFunc 59 #[.float .f64 b]).run Tryz.prog w=.ok (.value (.int .u64 b)) w:=by
 rw [run_callFunc_extern Tryz.func59 (by kernel_rfl) (by kernel_rfl) (by kernel_rfl) (e:=Extern.MathFloatBits.float64bits) (by kernel_rfl)]
 rfl
theorem psize_any (x:Nat) (w:World):
 Calls Tryz.prog 129 #[.float .f64 x] w fun e w'=> e=.returned (.float .f64 (fsize x))∧w=w':=by
 have b1:=bits_law;have b2:=frombits_law;go_enter Tryz.func129,Tryz.ntmps129;go_wp2;go_ret;exact ⟨congrArg (fun y=> Ending.returned (.float .f64 y)) (fsize_walk x),rfl⟩
theorem padd_any (a b c d:Nat) (w:World):
 Calls Tryz.prog 50 #[.complex .f64 a b,.complex .f64 c d] w (Ret (IsC (cadd (fc a,fc b) (fc c,fc d))) w):=by
 go_enter Tryz.func50,Tryz.ntmps50;go_wp2_with (refine wpList_float rfl _ _ _ _ _ rfl rfl _ _ rfl rfl ?_;intro _ _ _);go_ret;exact ⟨_,_,rfl,rfl,_,_,rfl,Prod.ext (by assumption) (by assumption)⟩
theorem psub_any (a b c d:Nat) (w:World):
 Calls Tryz.prog 49 #[.complex .f64 a b,.complex .f64 c d] w (Ret (IsC (csub (fc a,fc b) (fc c,fc d))) w):=by
 go_enter Tryz.func49,Tryz.ntmps49;go_wp2_with (first | (refine wpList_float rfl _ _ _ _ _ rfl rfl _ _ rfl rfl ?_;intro _ _ _) | (fail));go_ret;exact ⟨_,_,rfl,rfl,_,_,rfl,Prod.ext (by first | assumption | (simp only [*];rfl)) (by first | assumption | (simp only [*];rfl))⟩
theorem pmul_any (a b c d:Nat) (w:World):
 Calls Tryz.prog 109 #[.complex .f64 a b,.complex .f64 c d] w (Ret (IsC (cmul (fc a,fc b) (fc c,fc d))) w):=by
 go_enter Tryz.func109,Tryz.ntmps109;go_wp2_with (first | (refine wpList_float rfl _ _ _ _ _ rfl rfl _ _ rfl rfl ?_;intro _ _ _) | (fail));go_ret;exact ⟨_,_,rfl,rfl,_,_,rfl,Prod.ext (by first | assumption | (simp only [*];rfl)) (by first | assumption | (simp only [*];rfl))⟩
theorem pdiv_any (a b c d:Nat) (w:World):
 Calls Tryz.prog 110 #[.complex .f64 a b,.complex .f64 c d] w (Ret (IsC (cdiv (fc a,fc b) (fc c,fc d))) w):=by
 have hs:isGe (fordz (fc c) (fc d))=(FloatKind.f64.format.order (fsize c) (fsize d)==some .gt || FloatKind.f64.format.order (fsize c) (fsize d)==some .eq):=by rw [fordz_fc];rfl
 have HS:=hid hs;clear hs
 by_cases hg:(FloatKind.f64.format.order (fsize c) (fsize d)==some .gt || FloatKind.f64.format.order (fsize c) (fsize d)==some .eq)=true
 · have hc:cdiv (fc a,fc b) (fc c,fc d)=_:=if_pos (by rw [HS.out];exact hg);have HC:=hid hc;clear hc;rw [HC.out];go_enter Tryz.func110,Tryz.ntmps110;go_wp2_with (first | (refine wpList_float rfl _ _ _ _ _ rfl rfl _ _ rfl rfl ?_;intro _ _ _) | (fail) | (go_at_call 129;refine (psize_any _ _).mono ?_;rintro e w' ⟨rfl,rfl⟩));go_ret;exact ⟨_,_,rfl,rfl,_,_,rfl,Prod.ext (by first | assumption | (simp only [*];rfl)) (by first | assumption | (simp only [*];rfl))⟩
 · have hc:cdiv (fc a,fc b) (fc c,fc d)=_:=if_neg (by rw [HS.out];exact hg);have HC:=hid hc;clear hc;have hg':=Bool.eq_false_iff.2 hg;clear hg;rw [HC.out];go_enter Tryz.func110,Tryz.ntmps110;go_wp2_with (first | (refine wpList_float rfl _ _ _ _ _ rfl rfl _ _ rfl rfl ?_;intro _ _ _) | (fail) | (go_at_call 129;refine (psize_any _ _).mono ?_;rintro e w' ⟨rfl,rfl⟩));go_ret;exact ⟨_,_,rfl,rfl,_,_,rfl,Prod.ext (by first | assumption | (simp only [*];rfl)) (by first | assumption | (simp only [*];rfl))⟩
end
section
open Go.RowKit
theorem wpList_rem {P:Program} {ops:Array Oper} {Q:Exit→Act→World→Prop} {a:Act} {w:World} {rest:List Oper} {o:Oper}
 (hw:Region.wanted o (yielded ops a.tmps)=true) (t:TypeId) (x' y':Operand) (t':TypeId) (ho:o.op=.binOp .rem t x' y' t') (x y z:Int) (hy0:¬y=0) (hz:x.tmod y=z)
 (hx:a.eval x'=.int .u64 x) (hy:a.eval y'=.int .u64 y)
 (h:wpList P ops Q rest (a.put o.dst (.int .u64 z)) w):wpList P ops Q (o::rest) a w:=by
 refine wpList_step fun K hK=> ?_
 rw [if_pos hw];have hr:(binOp .rem t (.int .u64 x) (.int .u64 y)).run P w=.ok (.int .u64 z) w:=by
  rw [binOp_rem];unfold Op.intDiv;rw [if_neg hy0,hz];rfl
 have:=hK _ _ h
 simpa [Oper.wp,Oper.upon,execOp,eqGuard,ho,hx,hy,hr] using this
theorem tmod63 (x:Nat):Int.tmod (x:Int) 9223372036854775808=((fsize x:Nat):Int):=by
 rw [Int.tmod_eq_emod_of_nonneg (by omega)];unfold fsize;omega
def kindZ (z:Int):Int:=if z=0 then 0 else if z < 4503599627370496 then 1 else if z < 9218868437227405312 then 2 else if z=9218868437227405312 then 3 else 4
def kindF (x:Nat):Int:=kindZ (fsize x)
theorem kindZ_cases (z:Int):(z=0∧kindZ z=0)∨(¬z=0∧z < 4503599627370496∧kindZ z=1)∨(¬z=0∧¬z < 4503599627370496∧z < 9218868437227405312∧kindZ z=2)∨
 (¬z=0∧¬z < 4503599627370496∧¬z < 9218868437227405312∧z=9218868437227405312∧kindZ z=3)∨(¬z=0∧¬z < 4503599627370496∧¬z < 9218868437227405312∧¬z=9218868437227405312∧kindZ z=4):=by
 unfold kindZ
 split
 · omega
 · split
   · omega
   · split
     · omega
     · split <;> omega
theorem ret_int {k:IntKind} {a b:Int} (h:a=b):Ending.returned (.int k a)=.returned (.int k b):=by rw [h]
theorem kz0 {z:Int} (h:(z==0)=true):kindZ z=0:=by have:=eq_of_beq h;simp [kindZ,this]
theorem kz1 {z:Int} (h:(z==0)=false) (h1:z < 4503599627370496):kindZ z=1:=by have:=beq_eq_false_iff_ne.1 h;rcases kindZ_cases z with c | c | c | c | c <;> omega
theorem kz2 {z:Int} (h:(z==0)=false) (h1:4503599627370496≤z) (h2:z < 9218868437227405312):kindZ z=2:=by have:=beq_eq_false_iff_ne.1 h;rcases kindZ_cases z with c | c | c | c | c <;> omega
theorem kz3 {z:Int} (h:(z==9218868437227405312)=true):kindZ z=3:=by have:=eq_of_beq h;rcases kindZ_cases z with c | c | c | c | c <;> omega
theorem kz4 {z:Int} (h:(z==0)=false) (_:4503599627370496≤z) (h2:9218868437227405312≤z) (h3:(z==9218868437227405312)=false):kindZ z=4:=by have:=beq_eq_false_iff_ne.1 h;have:=beq_eq_false_iff_ne.1 h3;rcases kindZ_cases z with c | c | c | c | c <;> omega
theorem kind01_any (x:Nat) (w:World):Calls Tryz.prog 65 #[.float .f64 x] w fun e w'=> e=.returned (.int .i64 (kindF x))∧w=w':=by
 have b1:=bits_law;obtain ⟨z,hz⟩:∃z:Int,((fsize x:Nat):Int)=z:=⟨_,rfl⟩;have HZ:=hid (show Int.tmod (x:Int) 9223372036854775808=z by rw [tmod63,hz]);unfold kindF;rw [hz];clear hz;go_enter Tryz.func65,Tryz.ntmps65;go_wp2_with (refine wpList_rem rfl _ _ _ _ rfl _ _ z (by decide) (HZ.out) rfl rfl ?_)
 all_goals (try rw [Exit.noGoto_ret])
 all_goals go_ret
 · exact ⟨ret_int (kz0 ‹_›).symm,rfl⟩
 · exact ⟨ret_int (kz1 ‹_› ‹_›).symm,rfl⟩
 · exact ⟨ret_int (kz2 ‹_› ‹_› ‹_›).symm,rfl⟩
 · exact ⟨ret_int (kz3 ‹_›).symm,rfl⟩
 · exact ⟨ret_int (kz4 ‹_› ‹_› ‹_› ‹_›).symm,rfl⟩
theorem kind_exp (x:Nat) (hx:x < 18446744073709551616):bits .and .u64 ((x:Int) / 4503599627370496) 2047=((fsize x:Nat):Int) / 4503599627370496:=by
 have h1:(x:Int) / 4503599627370496=((x / 4503599627370496:Nat):Int):=by omega
 rw [h1,show (2047:Int)=((2047:Nat):Int) from rfl,u64_and_nat _ _ (by omega) (by decide),show (2047:Nat)=2 ^ 11 - 1 from rfl,Nat.and_two_pow_sub_one_eq_mod];unfold fsize;omega
theorem kind_rest (x:Nat):IntKind.u64.wrap ((x:Int) * 4096)=(((fsize x:Nat):Int) % 4503599627370496) * 4096:=by
 rw [IntKind.wrap_u64];unfold fsize;omega
theorem kz_exp {z ex rs:Int} (h0:0≤z) (h9:z < 9223372036854775808) (h:z / 4503599627370496=ex) (hr:z % 4503599627370496 * 4096=rs):
 ((ex==0)=true∧(rs==0)=true∧kindZ z=0)∨((ex==0)=true∧(rs==0)=false∧kindZ z=1)∨((ex==0)=false∧ex < 2047∧kindZ z=2)∨((ex==0)=false∧¬ex < 2047∧(rs==0)=true∧kindZ z=3)∨((ex==0)=false∧¬ex < 2047∧(rs==0)=false∧kindZ z=4):=by
 have hc:=kindZ_cases z;cases e1:(ex==0)
 · have g1:=beq_eq_false_iff_ne.1 e1
   by_cases e2:ex < 2047
   · exact .inr (.inr (.inl ⟨rfl,e2,by omega⟩))
   · cases e3:(rs==0)
     · have g3:=beq_eq_false_iff_ne.1 e3;exact .inr (.inr (.inr (.inr ⟨rfl,e2,rfl,by omega⟩)))
     · have g3:=eq_of_beq e3;exact .inr (.inr (.inr (.inl ⟨rfl,e2,rfl,by omega⟩)))
 · have g1:=eq_of_beq e1;cases e3:(rs==0)
   · have g3:=beq_eq_false_iff_ne.1 e3;exact .inr (.inl ⟨rfl,rfl,by omega⟩)
   · have g3:=eq_of_beq e3;exact .inl ⟨rfl,rfl,by omega⟩
theorem kind_any (x:Nat) (w:World) (hx:x < 18446744073709551616):Calls Tryz.prog 57 #[.float .f64 x] w fun e w'=> e=.returned (.int .i64 (kindF x))∧w=w':=by
 have b1:=bits_law;obtain ⟨ex,hex⟩:∃e,((fsize x:Nat):Int) / 4503599627370496=e:=⟨_,rfl⟩;obtain ⟨rs,hrs⟩:∃e,((fsize x:Nat):Int) % 4503599627370496 * 4096=e:=⟨_,rfl⟩;have hb1:bits .and .u64 ((x:Int) / 4503599627370496) 2047=ex:=by rw [kind_exp x hx,hex]
 have hb2:IntKind.u64.wrap ((x:Int) * 4096)=rs:=by rw [kind_rest,hrs]
 have hk:=kz_exp (z:=((fsize x:Nat):Int)) (by omega) (by have:fsize x < 9223372036854775808:=Nat.mod_lt _ (by decide);omega) hex hrs;clear hx hex hrs;rcases hk with ⟨h1,h2,h0⟩ | ⟨h1,h2,h0⟩ | ⟨h1,h2,h0⟩ | ⟨h1,h2,h3,h0⟩ | ⟨h1,h2,h3,h0⟩
 all_goals
  have H0:=hid h0;clear h0;go_enter Tryz.func57,Tryz.ntmps57;go_wp2
  (try rw [Exit.noGoto_ret])
  go_ret;exact ⟨ret_int H0.out.symm,rfl⟩
end
section
open Go.RowKit
structure El where
 kind:Int
 name:ByteArray
 a:ByteArray
 b:ByteArray
 c:ByteArray
 d:ByteArray
 val:Nat
 ph:Int
structure El.Ok (e:El):Prop where
 name:e.name.size≤maxLen
 a:e.a.size≤maxLen
 b:e.b.size≤maxLen
 c:e.c.size≤maxLen
 d:e.d.size≤maxLen
 val:e.val < 18446744073709551616
def ez (e:El):List Value:= [.int .u8 e.kind,.string e.name,.string e.a,.string e.b,.string e.c,.string e.d,.int .u64 e.val,.int .i64 e.ph]
def ea (e:El):List Value:= [.int .u8 e.kind,.string e.name,.string e.a,.string e.b,.string e.c,.string e.d,.float .f64 e.val,.int .i64 e.ph]
theorem ea_one (e:El):∀u∈ea e,u.oneCell'=true:=by intro u hu;simp [ea] at hu;rcases hu with rfl | rfl | rfl | rfl | rfl | rfl | rfl | rfl <;> rfl
def nameBad (e:El):Bool:=decide (nameK e.name=0) || (nameK e.name !=e.kind) || !nodeB e.a || !nodeB e.b || (kFo e.kind && (!nodeB e.c || !nodeB e.d))
def argBad (e:El):Bool:=decide (e.a.toList=e.b.toList) || (!kFo e.kind && (!decide (e.c.toList= []) || !decide (e.d.toList= []))) || (!kPh e.kind && !decide (e.ph=0))
def notAbove (x:Nat):Bool:=!(ford x 0==some .gt)
def checkE (e:El):Int:=
 if isK e.kind then if nameBad e then 8 else if argBad e then 2 else if 2 < kindF e.val then 5 else if kAb e.kind && notAbove e.val then 2 else 0 else 2
theorem name_ways (e:El):(nameK e.name=0∧nameBad e=true)∨(¬nameK e.name=0∧(nameK e.name !=e.kind)=true∧nameBad e=true)∨
 (¬nameK e.name=0∧(nameK e.name !=e.kind)=false∧nodeB e.a=false∧nameBad e=true)∨(¬nameK e.name=0∧(nameK e.name !=e.kind)=false∧nodeB e.a=true∧nodeB e.b=false∧nameBad e=true)∨
 (¬nameK e.name=0∧(nameK e.name !=e.kind)=false∧nodeB e.a=true∧nodeB e.b=true∧kFo e.kind=false∧nameBad e=false)∨
 (¬nameK e.name=0∧(nameK e.name !=e.kind)=false∧nodeB e.a=true∧nodeB e.b=true∧kFo e.kind=true∧nodeB e.c=false∧nameBad e=true)∨
 (¬nameK e.name=0∧(nameK e.name !=e.kind)=false∧nodeB e.a=true∧nodeB e.b=true∧kFo e.kind=true∧nodeB e.c=true∧nodeB e.d=false∧nameBad e=true)∨
 (¬nameK e.name=0∧(nameK e.name !=e.kind)=false∧nodeB e.a=true∧nodeB e.b=true∧kFo e.kind=true∧nodeB e.c=true∧nodeB e.d=true∧nameBad e=false):=by
 unfold nameBad
 by_cases h0:nameK e.name=0
 · simp [h0]
 · cases (nameK e.name !=e.kind) <;> cases nodeB e.a <;> cases nodeB e.b <;> cases kFo e.kind <;> cases nodeB e.c <;> cases nodeB e.d <;> simp [h0]
theorem arg_ways (e:El):(e.a.toList=e.b.toList∧argBad e=true)∨(¬e.a.toList=e.b.toList∧(e.a.toList==e.b.toList)=false∧kFo e.kind=false∧¬e.c.toList= []∧argBad e=true)∨
 (¬e.a.toList=e.b.toList∧(e.a.toList==e.b.toList)=false∧kFo e.kind=false∧e.c.toList= []∧¬e.d.toList= []∧argBad e=true)∨
 (¬e.a.toList=e.b.toList∧(e.a.toList==e.b.toList)=false∧kFo e.kind=false∧e.c.toList= []∧e.d.toList= []∧kPh e.kind=true∧argBad e=false)∨
 (¬e.a.toList=e.b.toList∧(e.a.toList==e.b.toList)=false∧kFo e.kind=false∧e.c.toList= []∧e.d.toList= []∧kPh e.kind=false∧(e.ph !=0)=true∧argBad e=true)∨
 (¬e.a.toList=e.b.toList∧(e.a.toList==e.b.toList)=false∧kFo e.kind=false∧e.c.toList= []∧e.d.toList= []∧kPh e.kind=false∧(e.ph !=0)=false∧argBad e=false)∨
 (¬e.a.toList=e.b.toList∧(e.a.toList==e.b.toList)=false∧kFo e.kind=true∧kPh e.kind=true∧argBad e=false)∨(¬e.a.toList=e.b.toList∧(e.a.toList==e.b.toList)=false∧kFo e.kind=true∧kPh e.kind=false∧(e.ph !=0)=true∧argBad e=true)∨
 (¬e.a.toList=e.b.toList∧(e.a.toList==e.b.toList)=false∧kFo e.kind=true∧kPh e.kind=false∧(e.ph !=0)=false∧argBad e=false):=by
 unfold argBad
 by_cases h1:e.a.toList=e.b.toList <;> by_cases h2:e.c.toList= [] <;> by_cases h3:e.d.toList= [] <;> by_cases h4:e.ph=0 <;> cases kFo e.kind <;> cases kPh e.kind <;> simp [h1,h2,h3,h4]
def RetI (k:Int) (w:World) (en:Ending) (w':World):Prop:=en=.returned (.int .i64 k)∧Below w.heap.size w w'
end
section
namespace FV
def mag (r:Nat):Nat:=if r < 2 ^ 52 then r else (2 ^ 52+r % 2 ^ 52) * 2 ^ (r / 2 ^ 52 - 1)
theorem mag_rung (k c:Nat) (h:c≤2 ^ 53) (hk:2 ^ 52≤c∨k=0):mag (k * 2 ^ 52+c)=c * 2 ^ k:=by
 unfold mag
 by_cases h1:c < 2 ^ 52
 · obtain rfl:k=0:=by rcases hk with hk | hk <;> omega
   rw [if_pos (by omega)];simp
 · rw [if_neg (by have:=Nat.zero_le (k * 2 ^ 52);omega)]
   by_cases h2:c=2 ^ 53
   · subst h2;rw [show k * 2 ^ 52+2 ^ 53=(k+2) * 2 ^ 52 by omega,Nat.mul_mod_left,Nat.mul_div_cancel _ (by decide),show k+2 - 1=k+1 by omega,Nat.add_zero,Nat.pow_add 2 k 1]
     omega
   · obtain ⟨d,rfl⟩:∃d,c=2 ^ 52+d:=⟨c - 2 ^ 52,by omega⟩;rw [show k * 2 ^ 52+(2 ^ 52+d)=d+(k+1) * 2 ^ 52 by omega,Nat.add_mul_mod_self_right,Nat.mod_eq_of_lt (by omega),Nat.add_mul_div_right _ _ (by decide),Nat.div_eq_of_lt (by omega)]
     simp
abbrev dbl:Ieee.Format:=Ieee.double
theorem lp_eq:dbl.leastPlace=-1074:=by decide
theorem bin_eq:dbl.binade=2 ^ 52:=rfl
def fin (x:Nat):Bool:=decide (x % 2 ^ 63 < 2047 * 2 ^ 52)
def sgn (x:Nat):Bool:=x / 2 ^ 63 % 2==1
def sg (s:Bool) (n:Nat):Int:=if s then -(n:Int) else n
def val (x:Nat):Int:=sg (sgn x) (mag (x % 2 ^ 63))
def plc (x:Nat):Int:=if x % 2 ^ 63 < 2 ^ 52 then -1074 else ((x % 2 ^ 63 / 2 ^ 52 - 1:Nat):Int) - 1074
def sig (x:Nat):Nat:=if x % 2 ^ 63 < 2 ^ 52 then x % 2 ^ 63 else 2 ^ 52+x % 2 ^ 63 % 2 ^ 52
theorem sw_eq:dbl.signWeight=2 ^ 63:=rfl
theorem inf_eq:dbl.infRung=2047 * 2 ^ 52:=by decide
theorem read_fin {x:Nat} (h:fin x=true):dbl.read x=.number (sgn x) (sig x) (plc x):=by
 have h':x % 2 ^ 63 < 2047 * 2 ^ 52:=by simpa [fin] using h
 unfold Ieee.Format.read sgn sig plc;simp only [sw_eq,inf_eq,bin_eq,lp_eq]
 split
 · rfl
 · congr 1
theorem plc_ge (x:Nat):-1074≤plc x:=by unfold plc;split <;> omega
theorem sig_mag (x:Nat):sig x * 2 ^ (plc x+1074).toNat=mag (x % 2 ^ 63):=by
 unfold sig plc mag
 split
 · simp
 · rw [show ((x % 2 ^ 63 / 2 ^ 52 - 1:Nat):Int) - 1074+1074=((x % 2 ^ 63 / 2 ^ 52 - 1:Nat):Int) by omega,Int.toNat_natCast]
theorem signed_eq (s:Bool) (m u:Nat):Ieee.signed s m u=sg s (m * 2 ^ u):=by
 unfold Ieee.signed sg;rw [Nat.shiftLeft_eq]
theorem sg_mul (s:Bool) (m c:Nat):sg s (m * c)=sg s m * c:=by
 unfold sg;cases s <;> simp [Int.neg_mul]
theorem compare_mul (a b:Int) (c:Nat) (h:0 < c):compare (a * c) (b * c)=compare a b:=by
 have hc:(0:Int) < c:=by omega
 rcases Int.lt_trichotomy a b with hl | he | hl
 · have:=Int.mul_lt_mul_of_pos_right hl hc
   simp [compare,compareOfLessAndEq,hl,this]
 · subst he;simp [compare,compareOfLessAndEq]
 · have:=Int.mul_lt_mul_of_pos_right hl hc;have h1:¬a < b:=by omega
   have h2:¬a=b:=by omega
   have h3:¬a * c < b * c:=by omega
   have h4:¬a * c=b * c:=by omega
   simp [compare,compareOfLessAndEq,h1,h2,h3,h4]
theorem order_fin {x y:Nat} (hx:fin x=true) (hy:fin y=true):dbl.order x y=some (compare (val x) (val y)):=by
 have px:=plc_ge x;have py:=plc_ge y;obtain ⟨b,hb⟩:∃b,min (plc x) (plc y)=b:=⟨_,rfl⟩;have hbx:b≤plc x:=by omega
 have hby:b≤plc y:=by omega
 have hbl:-1074≤b:=by omega
 have ex:sg (sgn x) (sig x * 2 ^ (plc x - b).toNat) * ((2 ^ (b+1074).toNat:Nat):Int)=val x:=by
  rw [←sg_mul,Nat.mul_assoc,←Nat.pow_add,show (plc x - b).toNat+(b+1074).toNat=(plc x+1074).toNat by omega,sig_mag];rfl
 have ey:sg (sgn y) (sig y * 2 ^ (plc y - b).toNat) * ((2 ^ (b+1074).toNat:Nat):Int)=val y:=by
  rw [←sg_mul,Nat.mul_assoc,←Nat.pow_add,show (plc y - b).toNat+(b+1074).toNat=(plc y+1074).toNat by omega,sig_mag];rfl
 unfold Ieee.Format.order;rw [read_fin hx,read_fin hy];simp only [Ieee.Datum.order,hb,signed_eq];rw [←ex,←ey,compare_mul _ _ _ (Nat.two_pow_pos _)]
theorem order_eq {x y:Nat} (hx:fin x=true) (hy:fin y=true) (h:val x=val y):dbl.order x y=some .eq:=by
 rw [order_fin hx hy,h];simp [compare,compareOfLessAndEq]
theorem xor_mod (x:Nat):(x ^^^ 2 ^ 63) % 2 ^ 63=x % 2 ^ 63:=by
 rw [Nat.xor_mod_two_pow,Nat.mod_self,Nat.xor_zero]
end FV
end
section
open Go.RowKit
theorem block_cells {w:World} {g t:Nat} {cs:Array Value} (h:w.heap[g]? =some (.cells cs t (0,0))):(∀ (o:Nat) (x:Value),cs[o]? =some x→w.cell? ⟨g,o,none⟩=some x)∧∀o,w.frozen? ⟨g,o,none⟩=false:=
 ⟨fun o x hx=> (cell_of_row _ _ _ _ _ _ h).trans hx,fun o=> by simp [World.frozen?,h]⟩
theorem heap_past_of {w:World} {g:Nat} {o o':Obj} (h:w.heap[g]? =some o):(w.alloc o').heap[g]? =some o:=(heap_alloc_old w o' (Array.getElem?_eq_some_iff.1 h).1).trans h
theorem heap_later2 {w w':World} {g:Nat} {o:Obj} (hb:Below w.heap.size w w') (h:w.heap[g]? =some o):w'.heap[g]? =some o:=(hb.block g (Array.getElem?_eq_some_iff.1 h).1).trans h
theorem below_next {w w1 w2:World} (h:Below w.heap.size w w1) (h2:Below w1.heap.size w1 w2):Below w.heap.size w w2:=h.trans (h2.mono h.size)
theorem cells_ofS {w:World} {g t:Nat} {cs:Array Value} (h:w.heap[g]? =some (.cells cs t (0,0))):(∀ (o:Nat) (x:Value),cs[o]? =some x→w.cell? ⟨g,o,none⟩=some x)∧∀o,w.frozen? ⟨g,o,none⟩=false:=
 ⟨fun o x hx=> (cell_of_row _ _ _ _ _ _ h).trans hx,fun o=> by simp [World.frozen?,h]⟩
end
section
open Go.RowKit
theorem order_zero {x:Nat} (h:kindF x≤2):FloatKind.f64.format.order x 0=some .lt∨FloatKind.f64.format.order x 0=some .eq∨FloatKind.f64.format.order x 0=some .gt:=by
 have hx:FV.fin x=true:=by
  have hz:((fsize x:Nat):Int) < 9218868437227405312:=by
   unfold kindF at h;rcases kindZ_cases ((fsize x:Nat):Int) with c | c | c | c | c <;> omega
  have hf:fsize x=x % 9223372036854775808:=rfl;have e1:(2:Nat) ^ 63=9223372036854775808:=by decide
  have e2:2047 * (2:Nat) ^ 52=9218868437227405312:=by decide
  unfold FV.fin;rw [e1,e2,←hf];exact decide_eq_true (by omega)
 have h0:FV.fin 0=true:=by decide+kernel
 have ho:FloatKind.f64.format.order x 0=some (compare (FV.val x) (FV.val 0)):=FV.order_fin hx h0;rw [ho];cases compare (FV.val x) (FV.val 0) <;> simp
theorem above_no {x:Nat} (h:(FloatKind.f64.format.order x 0==some Ordering.lt)=true∨(FloatKind.f64.format.order x 0==some Ordering.eq)=true):notAbove x=true:=by
 have:ford x 0=FloatKind.f64.format.order x 0:=rfl;unfold notAbove;rw [this];rcases h with h | h <;> rw [eq_of_beq h] <;> rfl
theorem above_yes {x:Nat} (hk:kindF x≤2) (h:(FloatKind.f64.format.order x 0==some Ordering.lt)=false∧(FloatKind.f64.format.order x 0==some Ordering.eq)=false):notAbove x=false:=by
 have e:ford x 0=FloatKind.f64.format.order x 0:=rfl;unfold notAbove;rw [e];rcases order_zero hk with c | c | c
 · rw [c] at h;exact absurd h.1 (by decide)
 · rw [c] at h;exact absurd h.2 (by decide)
 · rw [c];rfl
theorem check_end {e:El} {b:Bool} (hk:isK e.kind=true) (hn:nameBad e=false) (hg:argBad e=false) (h2:kindF e.val≤2) (ha:(kAb e.kind && notAbove e.val)=b):checkE e=if b=true then 2 else 0:=by
 unfold checkE;rw [hk,hn,hg,ha,if_neg (show¬2 < kindF e.val by omega)]
 rfl
theorem vcheck_any (e:El) (w:World) (he:e.Ok):
 Calls Tryz.prog 25 #[.agg #[.int .u8 e.kind,.string e.name,.string e.a,.string e.b,.string e.c,.string e.d,.float .f64 e.val,.int .i64 e.ph]] w (RetI (checkE e) w):=by
 have HE:=hid he;clear he;cases hk:isK e.kind
 · have HK:=hid hk;clear hk;go_enter Tryz.func25,Tryz.ntmps25;go_wp2_with (go_at_call 54;refine (rowof_agg _ _).mono ?_;rintro e1 w1 ⟨rfl,hb1⟩;rw [HK.out])
   (try rw [Exit.noGoto_ret])
   go_ret;have hb:=((Below.refl _ w).alloc (Nat.le_refl _) _).trans (hb1.mono (by simp));exact ⟨ret_int (by unfold checkE;rw [HK.out];rfl),hb.alloc hb.size _⟩
 · have HK:=hid hk;clear hk;go_enter Tryz.func25,Tryz.ntmps25;go_upto_region 2 with (go_at_call 54;refine (rowof_agg _ _).mono ?_;rintro e1 w1 ⟨rfl,hb1⟩;rw [HK.out];have HB1:=hid hb1;clear hb1);have hA0:=(HB1.out.block w.heap.size (by simp)).trans (heap_alloc_new w _);have hlt1:w.heap.size < w1.heap.size:=by have:=HB1.out.size;simp at this;omega
   have HBW1:=hid ((((Below.refl _ w).alloc (Nat.le_refl _) _).trans (HB1.out.mono (by simp))).alloc (Nat.le_of_lt hlt1) (.cells #[.int .u8 (kLet e.kind),.string (kUnit e.kind),.bool (kAb e.kind),.bool (kFo e.kind),.bool (kPh e.kind)] 113));have hA1:=heap_past_of (o':=.cells #[.int .u8 (kLet e.kind),.string (kUnit e.kind),.bool (kAb e.kind),.bool (kFo e.kind),.bool (kPh e.kind)] 113) hA0;have hR1:=heap_alloc_new w1 (.cells #[.int .u8 (kLet e.kind),.string (kUnit e.kind),.bool (kAb e.kind),.bool (kFo e.kind),.bool (kPh e.kind)] 113);obtain ⟨gr,hgr⟩:∃gr,w1.heap.size=gr:=⟨_,rfl⟩;generalize w1.alloc (.cells #[.int .u8 (kLet e.kind),.string (kUnit e.kind),.bool (kAb e.kind),.bool (kFo e.kind),.bool (kPh e.kind)] 113)=w2 at *;rw [hgr] at *;clear hgr hA0 HB1 hlt1;have k1:=(block_cells hA1).1 1 _ rfl;have HA:=hid hA1;have HR:=hid hR1;clear hA1 hR1;go_upto_region 5 with (go_at_call 55;refine (vname_any _ _ HE.out.name).mono ?_;rintro e3 w3 ⟨rfl,hb3⟩;have HB3:=hid hb3;clear hb3);have HBW3:=hid (HBW1.out.trans (HB3.out.mono HBW1.out.size));obtain ⟨hac,_⟩:=block_cells (heap_later2 HB3.out HA.out);obtain ⟨hrc,_⟩:=block_cells (heap_later2 HB3.out HR.out);have c0:=hac 0 _ rfl;have c2:=hac 2 _ rfl;have c3:=hac 3 _ rfl;have c4:=hac 4 _ rfl;have c5:=hac 5 _ rfl;have c6:=hac 6 _ rfl;have c7:=hac 7 _ rfl;have r2:=hrc 2 _ rfl;have r3:=hrc 3 _ rfl;have r4:=hrc 4 _ rfl;clear hac hrc HA HR HBW1 HB3 k1
   go_cut [5,6,56] (fun _ _ t wx=> t=.bool (nameBad e)∧Below w3.heap.size w3 wx)
   case first=>
    have hself:=Below.refl w3.heap.size w3;rcases name_ways e with ⟨h1,h0⟩ | ⟨h1,h2,h0⟩ | ⟨h1,h2,h3,h0⟩ | ⟨h1,h2,h3,h4,h0⟩ | ⟨h1,h2,h3,h4,h5,h0⟩ | ⟨h1,h2,h3,h4,h5,h6,h0⟩ | ⟨h1,h2,h3,h4,h5,h6,h7,h0⟩ | ⟨h1,h2,h3,h4,h5,h6,h7,h0⟩
    all_goals
     have H0:=hid h0;clear h0;go_wp2_with (go_at_call 56;refine (vnode_any _ _ (by first | exact HE.out.a | exact HE.out.b | exact HE.out.c | exact HE.out.d)).mono ?_;rintro en wn ⟨rfl,hbn⟩;have:=below_next (w:=w3) (by assumption) hbn;have:=cell_later (a:=⟨w.heap.size,0,none⟩) hbn (by assumption);have:=cell_later (a:=⟨w.heap.size,2,none⟩) hbn (by assumption);have:=cell_later (a:=⟨w.heap.size,3,none⟩) hbn (by assumption);have:=cell_later (a:=⟨w.heap.size,4,none⟩) hbn (by assumption);have:=cell_later (a:=⟨w.heap.size,5,none⟩) hbn (by assumption);have:=cell_later (a:=⟨w.heap.size,6,none⟩) hbn (by assumption);have:=cell_later (a:=⟨w.heap.size,7,none⟩) hbn (by assumption);have:=cell_later (a:=⟨gr,2,none⟩) hbn (by assumption);have:=cell_later (a:=⟨gr,3,none⟩) hbn (by assumption);have:=cell_later (a:=⟨gr,4,none⟩) hbn (by assumption));go_meet;exact ⟨by rw [H0.out],by assumption⟩
   case rest=>
    obtain ⟨wa,rfl⟩:∃wa:World,wa=wc:=⟨_,rfl⟩;obtain ⟨rfl,hbn⟩:=hcut;have HBA:=hid (HBW3.out.trans (hbn.mono HBW3.out.size));have d0:=cell_later hbn c0;have d2:=cell_later hbn c2;have d3:=cell_later hbn c3;have d4:=cell_later hbn c4;have d5:=cell_later hbn c5;have d6:=cell_later hbn c6;have d7:=cell_later hbn c7;have s2:=cell_later hbn r2;have s3:=cell_later hbn r3;have s4:=cell_later hbn r4;clear c0 c2 c3 c4 c5 c6 c7 r2 r3 r4 hbn HBW3;cases hn:nameBad e
    · have HN:=hid hn;clear hn;go_upto_region 7 with fail
      go_cut [86] (fun t wx=> t=.bool (argBad e)∧wx=wa)
      case first=>
       rcases arg_ways e with ⟨h1,h0⟩ | ⟨h1,g1,h2,h3,h0⟩ | ⟨h1,g1,h2,h3,h4,h0⟩ | ⟨h1,g1,h2,h3,h4,h5,h0⟩ | ⟨h1,g1,h2,h3,h4,h5,h6,h0⟩ | ⟨h1,g1,h2,h3,h4,h5,h6,h0⟩ | ⟨h1,g1,h2,h3,h0⟩ | ⟨h1,g1,h2,h3,h4,h0⟩ | ⟨h1,g1,h2,h3,h4,h0⟩
       all_goals
        have H0:=hid h0;clear h0;go_wp2_with fail;go_meet;exact ⟨by rw [H0.out],rfl⟩
      case rest=>
       obtain ⟨rfl,rfl⟩:=hcut;cases hg:argBad e
       · have HG:=hid hg;clear hg
         by_cases hk2:2 < kindF e.val
         · go_wp2_with (go_at_call 57;refine (kind_any _ _ HE.out.val).mono ?_;rintro e5 w5 ⟨rfl,rfl⟩)
           (try rw [Exit.noGoto_ret])
           go_ret;exact ⟨ret_int (by unfold checkE;rw [HK.out,HN.out,HG.out,if_pos hk2];rfl),HBA.out⟩
         · have HK2:=hid (show kindF e.val≤2 by omega);cases ha:kAb e.kind
           · go_wp2_with (go_at_call 57;refine (kind_any _ _ HE.out.val).mono ?_;rintro e5 w5 ⟨rfl,rfl⟩)
             (try rw [Exit.noGoto_ret])
             go_ret;exact ⟨ret_int (check_end HK.out HN.out HG.out HK2.out (b:=false) (by rw [ha];rfl)).symm,HBA.out⟩
           · have HA:=hid ha;go_wp2_with (go_at_call 57;refine (kind_any _ _ HE.out.val).mono ?_;rintro e5 w5 ⟨rfl,rfl⟩)
             · rename_i hord;have HO:=hid hord;clear hord
               (try rw [Exit.noGoto_ret])
               go_ret;exact ⟨ret_int (check_end HK.out HN.out HG.out HK2.out (b:=true) (by rw [HA.out,above_no HO.out];rfl)).symm,HBA.out⟩
             · rename_i hord;have HO:=hid hord;clear hord
               (try rw [Exit.noGoto_ret])
               go_ret;exact ⟨ret_int (check_end HK.out HN.out HG.out HK2.out (b:=false) (by rw [HA.out,above_yes HK2.out HO.out];rfl)).symm,HBA.out⟩
       · have HG:=hid hg;clear hg;go_wp2_with fail
         (try rw [Exit.noGoto_ret])
         go_ret;exact ⟨ret_int (by unfold checkE;rw [HK.out,HN.out,HG.out];rfl),HBA.out⟩
    · have HN:=hid hn;clear hn;go_wp2_with fail
      (try rw [Exit.noGoto_ret])
      go_ret;exact ⟨ret_int (by unfold checkE;rw [HK.out,HN.out];rfl),HBA.out⟩
end
section
open Go.RowKit
theorem ffin_of {x r:Nat} (h:fc r=fop .sub (fc x) (fc x)):(FloatKind.f64.format.order r 0==some .eq)=ffin (fc x):=by
 have e0:fc 0=0:=fc_of_not (by decide+kernel);show (ford r 0==some .eq)=_;rw [←ford_fc,h,e0];rfl
theorem cfin_yes {a b r s:Nat} (h1:fc r=fop .sub (fc a) (fc a)) (t:FloatKind.f64.format.order r 0=some .eq) (h2:fc s=fop .sub (fc b) (fc b)):
 (FloatKind.f64.format.order s 0==some .eq)=cfin (fc a,fc b):=by
 rw [ffin_of h2,cfin,←ffin_of h1,t];rfl
theorem cfin_no {a b r:Nat} (h1:fc r=fop .sub (fc a) (fc a)) (t:¬FloatKind.f64.format.order r 0=some .eq):false=cfin (fc a,fc b):=by
 rw [cfin,←ffin_of h1];have:(FloatKind.f64.format.order r 0==some .eq)=false:=by simpa using t
 rw [this];rfl
theorem ret_bool {a b:Bool} (h:a=b):Ending.returned (.bool a)=.returned (.bool b):=by rw [h]
theorem pfin_any (a b:Nat) (w:World):
 Calls Tryz.prog 47 #[.complex .f64 a b] w (Ret (fun v=> v=.bool (cfin (fc a,fc b))) w):=by
 go_enter Tryz.func47,Tryz.ntmps47;go_wp2_with (refine wpList_float rfl _ _ _ _ _ rfl rfl _ _ rfl rfl ?_;intro _ _ _)
 all_goals go_ret
 · rename_i r1 n1 h1 t r2 n2 h2;exact ⟨_,_,rfl,rfl,congrArg Value.bool (cfin_yes h1 t h2)⟩
 · rename_i r1 n1 h1 t;exact ⟨_,_,rfl,rfl,congrArg Value.bool (cfin_no h1 t)⟩
theorem same_bits_nan {a b:Nat} (h:¬(a=b)):(fc a=fc b) ↔ (fnan a=true∧fnan b=true):=by
 constructor
 · intro hf
   by_cases ha:fnan a=true
   · refine ⟨ha,?_⟩;rw [fc_of_nan ha] at hf;exact fc_eq_qnan.1 hf.symm
   · by_cases hb:fnan b=true
     · rw [fc_of_nan hb] at hf;exact absurd (fc_eq_qnan.1 hf) ha
     · rw [fc_of_not (by simpa using ha),fc_of_not (by simpa using hb)] at hf;exact absurd hf h
 · rintro ⟨ha,hb⟩;rw [fc_of_nan ha,fc_of_nan hb]
theorem neq_self (x:Nat):(FloatKind.f64.format.order x x !=some .eq)=fnan x:=by
 have:=ford_self x;unfold ford at this;unfold bne;rw [this];simp
theorem same_1 {a b:Nat} (h:(a:Int)=b):true=(fc a==fc b):=by
 have:a=b:=by omega
 simp [this]
theorem same_2 {a b:Nat} (h:¬(a:Int)=b) (h2:FloatKind.f64.format.order a a=some .eq):((a:Int)==b)=(fc a==fc b):=by
 have hab:¬a=b:=by omega
 have hn:fnan a=false:=by rw [←neq_self,h2];rfl
 have h1:((a:Int)==b)=false:=by simpa using h
 have h3:(fc a==fc b)=false:=by
  rw [beq_eq_false_iff_ne];intro e;have:=((same_bits_nan hab).1 e).1;rw [hn] at this;cases this
 rw [h1,h3]
theorem same_3 {a b:Nat} (h:¬(a:Int)=b):
 ((a:Int)==b || FloatKind.f64.format.order a a !=some .eq && FloatKind.f64.format.order b b !=some .eq)=(fc a==fc b):=by
 have hab:¬a=b:=by omega
 have h1:((a:Int)==b)=false:=by simpa using h
 rw [h1,neq_self,neq_self,Bool.eq_iff_iff]
 simp [same_bits_nan hab]
theorem samereal_any (a b:Nat) (w:World):
 Calls Tryz.prog 28 #[.float .f64 a,.float .f64 b] w fun e w'=> e=.returned (.bool (fc a==fc b))∧w=w':=by
 have b1:=bits_law;go_enter Tryz.func28,Tryz.ntmps28;go_wp2
 all_goals go_ret
 · rename_i h;exact ⟨ret_bool (same_1 h),rfl⟩
 · rename_i h h2;exact ⟨ret_bool (same_2 h h2),rfl⟩
 · rename_i h h2;exact ⟨ret_bool (same_3 h),rfl⟩
theorem samenum_any (a b c d:Nat) (w:World):
 Calls Tryz.prog 60 #[.complex .f64 a b,.complex .f64 c d] w fun e w'=> e=.returned (.bool (fc a==fc c && fc b==fc d))∧w=w':=by
 go_enter Tryz.func60,Tryz.ntmps60;go_wp2_with (go_at_call 28;refine (samereal_any _ _ _).mono ?_;rintro e w' ⟨rfl,rfl⟩)
 all_goals go_ret
 all_goals exact ⟨ret_bool (by simp [*]),rfl⟩
end
section
open Go.RowKit
end
section
open Go.RowKit
abbrev mkC (z:Cx):Value:=.complex .f64 z.1 z.2
def ck (z:Cx):Cx:=(fc z.1,fc z.2)
theorem infoC:(Tryz.prog.info? 43).map (fun i=> (i.zero,i.size,i.bytes))=some (some (.complex .f64 0 0),1,16):=by kernel_rfl
theorem beq_pair (x y:Cx):(ck x==ck y)=(fc x.1==fc y.1 && fc x.2==fc y.2):=rfl
theorem samenumber_any (x y:Cx) (w:World):
 Calls Tryz.prog 60 #[mkC x,mkC y] w fun e w'=> e=.returned (.bool (ck x==ck y))∧w=w':=by
 rw [beq_pair];exact samenum_any x.1 x.2 y.1 y.2 w
theorem samenumbers_any (v u:Value) (l m:List Cx) (w:World) (hv:IsSl w 1 v l.length (l.map (mkC))) (hu:IsSl w 1 u m.length (m.map (mkC)))
 (hl:l.length≤140737488355328) (_:m.length≤140737488355328):
 Calls Tryz.prog 29 #[v,u] w (Ret (fun r=> r=.bool (l.map ck==m.map ck)) w):=by
 obtain ⟨a,c,rfl⟩:=hv.form;obtain ⟨a2,c2,rfl⟩:=hu.form;obtain ⟨i0,hi,hz0,hz1,hz2⟩:=info_parts infoC
 by_cases hlen:l.length=m.length
 · have hlB:((l.length:Int) !=(m.length:Int))=false:=by simp [hlen]
   have HL:=hid hlen;clear hlen;go_enter Tryz.func29,Tryz.ntmps29;go_wp2
   go_loopw [5] (fun i wr=> ∃ (k n:Nat),k≤l.length∧i=.int .i64 k∧wr=w.drewN n∧(l.take k).map ck=(m.take k).map ck) (fun i _=> l.length - (intOf i).toNat)
   case atStart=> exact ⟨0,0,by omega,rfl,rfl,rfl⟩
   case round=>
    obtain ⟨k,n,hk,rfl,hw,heq⟩:=hrel;have hv1:IsSl wr 1 (.slice a l.length c) l.length (l.map (mkC)):=by rw [hw];exact hv
    have hu1:IsSl wr 1 (.slice a2 m.length c2) m.length (m.map (mkC)):=by rw [hw];exact hu
    have HW:=hid hw;have HEQ:=hid heq;clear heq hw
    by_cases hlt:k < l.length
    · obtain ⟨g,o,x,hidx,hg,hcell,hx⟩:=IsSl.at1 Tryz.underlying33 hi hz1 hv1 hlt;obtain ⟨g2,o2,x2,hidx2,hg2,hcell2,hx2⟩:=IsSl.at1 Tryz.underlying33 hi hz1 hu1 (show k < m.length by have:=HL.out;omega);obtain ⟨b,hb0,rfl⟩:=map_getElem? hx;obtain ⟨b2,hb2,rfl⟩:=map_getElem? hx2;clear hx hx2;have HB1:=hid hb0;have HB2:=hid hb2;clear hb0 hb2;go_wp2_with fail
      go_quiet ((go_at_call 60;exact Calls.quiet_same (samenumber_any _ _ _)))
      go_wp2
      · go_ret;rename_i t;exact ⟨_,nq+n,rfl,by rw [HW.out];simp [World.drewN_drewN,Nat.add_comm],congrArg Value.bool (sameL_no (key:=ck) HB1.out HB2.out t).symm⟩
      · rename_i t;go_roundw
        case rel=> exact ⟨k+1,nq+n,by omega,by go_num,by rw [HW.out];simp [World.drewN_drewN,Nat.add_comm],sameL_step HEQ.out HB1.out HB2.out t⟩
        case measure=> simp [intOf];omega
    · go_wp2;go_ret;exact ⟨_,n,rfl,HW.out,congrArg Value.bool (sameL_yes HEQ.out (by omega) HL.out).symm⟩
 · have hlB:((l.length:Int) !=(m.length:Int))=true:=by rw [bne_iff_ne];omega
   have HL:=hid hlen;clear hlen;go_enter Tryz.func29,Tryz.ntmps29;go_wp2;go_ret;exact ⟨_,0,rfl,rfl,congrArg Value.bool (sameL_len HL.out).symm⟩
end
end Go.Proofs.YtaegmlhfecfgkaaGreatDoor
