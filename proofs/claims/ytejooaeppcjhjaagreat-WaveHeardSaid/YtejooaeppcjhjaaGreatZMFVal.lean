/- a part of the proof of the last text -/
import Derived.Test.YtejooaeppcjhjaaGreatZMParts
import Ieee.Arith
namespace Go.Proofs.YtejooaeppcjhjaaGreat
set_option linter.all false
set_option maxHeartbeats 4000000
set_option maxRecDepth 100000
section
open Go.RowKit
theorem wpList_rem {P:Program} {ops:Array Oper} {Q:Exit→Act→World→Prop} {a:Act} {w:World} {rest:List Oper} {o:Oper}
 (hw:Region.wanted o (yielded ops a.tmps)=true) (t:TypeId) (x' y':Operand) (t':TypeId) (ho:o.op=.binOp .rem t x' y' t') (x y z:Int) (hy0:¬y=0) (hz:x.tmod y=z)
 (hx:a.eval x'=.int .u64 x) (hy:a.eval y'=.int .u64 y)
 (h:wpList P ops Q rest (a.put o.dst (.int .u64 z)) w):wpList P ops Q (o::rest) a w:=by
 refine wpList_step fun K hK=> ?_
 rw [if_pos hw];have hr:(binOp .rem t (.int .u64 x) (.int .u64 y)).run P w=.ok (.int .u64 z) w:=by
  rw [binOp_rem];unfold Op.intDiv;rw [if_neg hy0,hz];rfl
 have:=hK _ _ h
 simpa [Oper.wp,Oper.upon,execOp,eqGuard,ho,hx,hy,hr] using this
theorem tmod63 (x:Nat):Int.tmod (x:Int) 9223372036854775808=((zBf x:Nat):Int):=by
 rw [Int.tmod_eq_emod_of_nonneg (by omega)];unfold zBf;omega
def kindZ (z:Int):Int:=if z=0 then 0 else if z < 4503599627370496 then 1 else if z < 9218868437227405312 then 2 else if z=9218868437227405312 then 3 else 4
def kindF (x:Nat):Int:=kindZ (zBf x)
theorem zEy (z:Int):(z=0∧kindZ z=0)∨(¬z=0∧z < 4503599627370496∧kindZ z=1)∨(¬z=0∧¬z < 4503599627370496∧z < 9218868437227405312∧kindZ z=2)∨
 (¬z=0∧¬z < 4503599627370496∧¬z < 9218868437227405312∧z=9218868437227405312∧kindZ z=3)∨(¬z=0∧¬z < 4503599627370496∧¬z < 9218868437227405312∧¬z=9218868437227405312∧kindZ z=4):=by
 unfold kindZ
 split
 · omega
 · split
   · omega
   · split
     · omega
     · split <;> omega
theorem zCe {k:IntKind} {a b:Int} (h:a=b):Ending.returned (.int k a)=.returned (.int k b):=by rw [h]
theorem kz0 {z:Int} (h:(z==0)=true):kindZ z=0:=by have:=eq_of_beq h;simp [kindZ,this]
theorem kz1 {z:Int} (h:(z==0)=false) (h1:z < 4503599627370496):kindZ z=1:=by have:=beq_eq_false_iff_ne.1 h;rcases zEy z with c | c | c | c | c <;> omega
theorem kz2 {z:Int} (h:(z==0)=false) (h1:4503599627370496≤z) (h2:z < 9218868437227405312):kindZ z=2:=by have:=beq_eq_false_iff_ne.1 h;rcases zEy z with c | c | c | c | c <;> omega
theorem kz3 {z:Int} (h:(z==9218868437227405312)=true):kindZ z=3:=by have:=eq_of_beq h;rcases zEy z with c | c | c | c | c <;> omega
theorem kz4 {z:Int} (h:(z==0)=false) (_:4503599627370496≤z) (h2:9218868437227405312≤z) (h3:(z==9218868437227405312)=false):kindZ z=4:=by have:=beq_eq_false_iff_ne.1 h;have:=beq_eq_false_iff_ne.1 h3;rcases zEy z with c | c | c | c | c <;> omega
theorem kind01_any (x:Nat) (w:World):Calls Tryz.prog 65 #[.float .f64 x] w fun e w'=> e=.returned (.int .i64 (kindF x))∧w=w':=by
 have b1:=bits_law;obtain ⟨z,hz⟩:∃z:Int,((zBf x:Nat):Int)=z:=⟨_,rfl⟩;have HZ:=hid (show Int.tmod (x:Int) 9223372036854775808=z by rw [tmod63,hz]);unfold kindF;rw [hz];clear hz;go_enter Tryz.func65,Tryz.ntmps65;go_wp2_with (refine wpList_rem rfl _ _ _ _ rfl _ _ z (by decide) (HZ.out) rfl rfl ?_)
 all_goals (try rw [Exit.noGoto_ret])
 all_goals go_ret
 · exact ⟨zCe (kz0 ‹_›).symm,rfl⟩
 · exact ⟨zCe (kz1 ‹_› ‹_›).symm,rfl⟩
 · exact ⟨zCe (kz2 ‹_› ‹_› ‹_›).symm,rfl⟩
 · exact ⟨zCe (kz3 ‹_›).symm,rfl⟩
 · exact ⟨zCe (kz4 ‹_› ‹_› ‹_› ‹_›).symm,rfl⟩
theorem kind_exp (x:Nat) (hx:x < 18446744073709551616):bits .and .u64 ((x:Int) / 4503599627370496) 2047=((zBf x:Nat):Int) / 4503599627370496:=by
 have h1:(x:Int) / 4503599627370496=((x / 4503599627370496:Nat):Int):=by omega
 rw [h1,show (2047:Int)=((2047:Nat):Int) from rfl,u64_and_nat _ _ (by omega) (by decide),show (2047:Nat)=2 ^ 11 - 1 from rfl,Nat.and_two_pow_sub_one_eq_mod];unfold zBf;omega
theorem kind_rest (x:Nat):IntKind.u64.wrap ((x:Int) * 4096)=(((zBf x:Nat):Int) % 4503599627370496) * 4096:=by
 rw [IntKind.wrap_u64];unfold zBf;omega
theorem kz_exp {z ex rs:Int} (h0:0≤z) (h9:z < 9223372036854775808) (h:z / 4503599627370496=ex) (hr:z % 4503599627370496 * 4096=rs):
 ((ex==0)=true∧(rs==0)=true∧kindZ z=0)∨((ex==0)=true∧(rs==0)=false∧kindZ z=1)∨((ex==0)=false∧ex < 2047∧kindZ z=2)∨((ex==0)=false∧¬ex < 2047∧(rs==0)=true∧kindZ z=3)∨((ex==0)=false∧¬ex < 2047∧(rs==0)=false∧kindZ z=4):=by
 have hc:=zEy z;cases e1:(ex==0)
 · have g1:=beq_eq_false_iff_ne.1 e1
   by_cases e2:ex < 2047
   · exact .inr (.inr (.inl ⟨rfl,e2,by omega⟩))
   · cases e3:(rs==0)
     · have g3:=beq_eq_false_iff_ne.1 e3;exact .inr (.inr (.inr (.inr ⟨rfl,e2,rfl,by omega⟩)))
     · have g3:=eq_of_beq e3;exact .inr (.inr (.inr (.inl ⟨rfl,e2,rfl,by omega⟩)))
 · have g1:=eq_of_beq e1;cases e3:(rs==0)
   · have g3:=beq_eq_false_iff_ne.1 e3;exact .inr (.inl ⟨rfl,rfl,by omega⟩)
   · have g3:=eq_of_beq e3;exact .inl ⟨rfl,rfl,by omega⟩
theorem kind_any (x:Nat) (w:World) (hx:x < 18446744073709551616):Calls Tryz.prog 60 #[.float .f64 x] w fun e w'=> e=.returned (.int .i64 (kindF x))∧w=w':=by
 have b1:=bits_law;obtain ⟨ex,hex⟩:∃e,((zBf x:Nat):Int) / 4503599627370496=e:=⟨_,rfl⟩;obtain ⟨rs,hrs⟩:∃e,((zBf x:Nat):Int) % 4503599627370496 * 4096=e:=⟨_,rfl⟩;have hb1:bits .and .u64 ((x:Int) / 4503599627370496) 2047=ex:=by rw [kind_exp x hx,hex]
 have hb2:IntKind.u64.wrap ((x:Int) * 4096)=rs:=by rw [kind_rest,hrs]
 have hk:=kz_exp (z:=((zBf x:Nat):Int)) (by omega) (by have:zBf x < 9223372036854775808:=Nat.mod_lt _ (by decide);omega) hex hrs;clear hx hex hrs;rcases hk with ⟨h1,h2,h0⟩ | ⟨h1,h2,h0⟩ | ⟨h1,h2,h0⟩ | ⟨h1,h2,h3,h0⟩ | ⟨h1,h2,h3,h0⟩
 all_goals
  have H0:=hid h0;clear h0;go_enter Tryz.func60,Tryz.ntmps60;go_wp2
  (try rw [Exit.noGoto_ret])
  go_ret;exact ⟨zCe H0.out.symm,rfl⟩
end
section
open Go.RowKit
structure El where
 kind:Int
 name:ByteArray
 a:ByteArray
 b:ByteArray
 c:ByteArray
 d:ByteArray
 val:Nat
 ph:Int
structure El.Ok (e:El):Prop where
 name:e.name.size≤maxLen
 a:e.a.size≤maxLen
 b:e.b.size≤maxLen
 c:e.c.size≤maxLen
 d:e.d.size≤maxLen
 val:e.val < 18446744073709551616
def ez (e:El):List Value:= [.int .u8 e.kind,.string e.name,.string e.a,.string e.b,.string e.c,.string e.d,.int .u64 e.val,.int .i64 e.ph]
def ea (e:El):List Value:= [.int .u8 e.kind,.string e.name,.string e.a,.string e.b,.string e.c,.string e.d,.float .f64 e.val,.int .i64 e.ph]
theorem ea_one (e:El):∀u∈ea e,u.oneCell'=true:=by intro u hu;simp [ea] at hu;rcases hu with rfl | rfl | rfl | rfl | rfl | rfl | rfl | rfl <;> rfl
def zCu (e:El):Bool:=decide (zEs e.name=0) || (zEs e.name !=e.kind) || !zDv e.a || !zDv e.b || (kFo e.kind && (!zDv e.c || !zDv e.d))
def zEt (e:El):Bool:=decide (e.a.toList=e.b.toList) || (!kFo e.kind && (!decide (e.c.toList= []) || !decide (e.d.toList= []))) || (!kPh e.kind && !decide (e.ph=0))
def zFa (x:Nat):Bool:=!(ford x 0==some .gt)
def zBc (e:El):Int:=
 if isK e.kind then if zCu e then 8 else if zEt e then 2 else if 2 < kindF e.val then 5 else if kAb e.kind && zFa e.val then 2 else 0 else 2
theorem name_ways (e:El):(zEs e.name=0∧zCu e=true)∨(¬zEs e.name=0∧(zEs e.name !=e.kind)=true∧zCu e=true)∨
 (¬zEs e.name=0∧(zEs e.name !=e.kind)=false∧zDv e.a=false∧zCu e=true)∨(¬zEs e.name=0∧(zEs e.name !=e.kind)=false∧zDv e.a=true∧zDv e.b=false∧zCu e=true)∨
 (¬zEs e.name=0∧(zEs e.name !=e.kind)=false∧zDv e.a=true∧zDv e.b=true∧kFo e.kind=false∧zCu e=false)∨
 (¬zEs e.name=0∧(zEs e.name !=e.kind)=false∧zDv e.a=true∧zDv e.b=true∧kFo e.kind=true∧zDv e.c=false∧zCu e=true)∨
 (¬zEs e.name=0∧(zEs e.name !=e.kind)=false∧zDv e.a=true∧zDv e.b=true∧kFo e.kind=true∧zDv e.c=true∧zDv e.d=false∧zCu e=true)∨
 (¬zEs e.name=0∧(zEs e.name !=e.kind)=false∧zDv e.a=true∧zDv e.b=true∧kFo e.kind=true∧zDv e.c=true∧zDv e.d=true∧zCu e=false):=by
 unfold zCu
 by_cases h0:zEs e.name=0
 · simp [h0]
 · cases (zEs e.name !=e.kind) <;> cases zDv e.a <;> cases zDv e.b <;> cases kFo e.kind <;> cases zDv e.c <;> cases zDv e.d <;> simp [h0]
theorem arg_ways (e:El):(e.a.toList=e.b.toList∧zEt e=true)∨(¬e.a.toList=e.b.toList∧(e.a.toList==e.b.toList)=false∧kFo e.kind=false∧¬e.c.toList= []∧zEt e=true)∨
 (¬e.a.toList=e.b.toList∧(e.a.toList==e.b.toList)=false∧kFo e.kind=false∧e.c.toList= []∧¬e.d.toList= []∧zEt e=true)∨
 (¬e.a.toList=e.b.toList∧(e.a.toList==e.b.toList)=false∧kFo e.kind=false∧e.c.toList= []∧e.d.toList= []∧kPh e.kind=true∧zEt e=false)∨
 (¬e.a.toList=e.b.toList∧(e.a.toList==e.b.toList)=false∧kFo e.kind=false∧e.c.toList= []∧e.d.toList= []∧kPh e.kind=false∧(e.ph !=0)=true∧zEt e=true)∨
 (¬e.a.toList=e.b.toList∧(e.a.toList==e.b.toList)=false∧kFo e.kind=false∧e.c.toList= []∧e.d.toList= []∧kPh e.kind=false∧(e.ph !=0)=false∧zEt e=false)∨
 (¬e.a.toList=e.b.toList∧(e.a.toList==e.b.toList)=false∧kFo e.kind=true∧kPh e.kind=true∧zEt e=false)∨(¬e.a.toList=e.b.toList∧(e.a.toList==e.b.toList)=false∧kFo e.kind=true∧kPh e.kind=false∧(e.ph !=0)=true∧zEt e=true)∨
 (¬e.a.toList=e.b.toList∧(e.a.toList==e.b.toList)=false∧kFo e.kind=true∧kPh e.kind=false∧(e.ph !=0)=false∧zEt e=false):=by
 unfold zEt
 by_cases h1:e.a.toList=e.b.toList <;> by_cases h2:e.c.toList= [] <;> by_cases h3:e.d.toList= [] <;> by_cases h4:e.ph=0 <;> cases kFo e.kind <;> cases kPh e.kind <;> simp [h1,h2,h3,h4]
def RetI (k:Int) (w:World) (en:Ending) (w':World):Prop:=en=.returned (.int .i64 k)∧Below w.heap.size w w'
end
section
namespace FV
def cutE (n k:Nat):Nat:=n / 2 ^ k+(decide (2 ^ k < 2 * (n % 2 ^ k)) || (2 ^ k==2 * (n % 2 ^ k) && n / 2 ^ k % 2==1)).toNat
theorem cut_even (neg:Bool) (n d:Nat) (h:d≤n.log2+2):Ieee.Toward.even.cut neg n d=cutE n d:=by
 unfold Ieee.Toward.cut cutE;rw [Nat.min_eq_left h,Nat.one_shiftLeft]
theorem cutE_zero (n:Nat):cutE n 0=n:=by
 unfold cutE
 simp [Nat.mod_one]
def mag (r:Nat):Nat:=if r < 2 ^ 52 then r else (2 ^ 52+r % 2 ^ 52) * 2 ^ (r / 2 ^ 52 - 1)
theorem mag_rung (k c:Nat) (h:c≤2 ^ 53) (hk:2 ^ 52≤c∨k=0):mag (k * 2 ^ 52+c)=c * 2 ^ k:=by
 unfold mag
 by_cases h1:c < 2 ^ 52
 · obtain rfl:k=0:=by rcases hk with hk | hk <;> omega
   rw [if_pos (by omega)];simp
 · rw [if_neg (by have:=Nat.zero_le (k * 2 ^ 52);omega)]
   by_cases h2:c=2 ^ 53
   · subst h2;rw [show k * 2 ^ 52+2 ^ 53=(k+2) * 2 ^ 52 by omega,Nat.mul_mod_left,Nat.mul_div_cancel _ (by decide),show k+2 - 1=k+1 by omega,Nat.add_zero,Nat.pow_add 2 k 1]
     omega
   · obtain ⟨d,rfl⟩:∃d,c=2 ^ 52+d:=⟨c - 2 ^ 52,by omega⟩;rw [show k * 2 ^ 52+(2 ^ 52+d)=d+(k+1) * 2 ^ 52 by omega,Nat.add_mul_mod_self_right,Nat.mod_eq_of_lt (by omega),Nat.add_mul_div_right _ _ (by decide),Nat.div_eq_of_lt (by omega)]
     simp
abbrev dbl:Ieee.Format:=Ieee.double
theorem lp_eq:dbl.leastPlace=-1074:=by decide
theorem bin_eq:dbl.binade=2 ^ 52:=rfl
def fin (x:Nat):Bool:=decide (x % 2 ^ 63 < 2047 * 2 ^ 52)
def sgn (x:Nat):Bool:=x / 2 ^ 63 % 2==1
def sg (s:Bool) (n:Nat):Int:=if s then -(n:Int) else n
def val (x:Nat):Int:=sg (sgn x) (mag (x % 2 ^ 63))
def plc (x:Nat):Int:=if x % 2 ^ 63 < 2 ^ 52 then -1074 else ((x % 2 ^ 63 / 2 ^ 52 - 1:Nat):Int) - 1074
def sig (x:Nat):Nat:=if x % 2 ^ 63 < 2 ^ 52 then x % 2 ^ 63 else 2 ^ 52+x % 2 ^ 63 % 2 ^ 52
theorem sw_eq:dbl.signWeight=2 ^ 63:=rfl
theorem inf_eq:dbl.infRung=2047 * 2 ^ 52:=by decide
theorem zHb {x:Nat} (h:fin x=true):dbl.read x=.number (sgn x) (sig x) (plc x):=by
 have h':x % 2 ^ 63 < 2047 * 2 ^ 52:=by simpa [fin] using h
 unfold Ieee.Format.read sgn sig plc;simp only [sw_eq,inf_eq,bin_eq,lp_eq]
 split
 · rfl
 · congr 1
theorem plc_ge (x:Nat):-1074≤plc x:=by unfold plc;split <;> omega
theorem sig_mag (x:Nat):sig x * 2 ^ (plc x+1074).toNat=mag (x % 2 ^ 63):=by
 unfold sig plc mag
 split
 · simp
 · rw [show ((x % 2 ^ 63 / 2 ^ 52 - 1:Nat):Int) - 1074+1074=((x % 2 ^ 63 / 2 ^ 52 - 1:Nat):Int) by omega,Int.toNat_natCast]
theorem word_mod (s:Bool) (r:Nat) (h:r < dbl.infRung):(dbl.word s r) % 2 ^ 63=r∧sgn (dbl.word s r)=s:=by
 rw [inf_eq] at h;unfold Ieee.Format.word sgn;rw [sw_eq];cases s <;> simp <;> omega
theorem val_word (s:Bool) (r:Nat) (h:r < dbl.infRung):fin (dbl.word s r)=true∧val (dbl.word s r)=sg s (mag r):=by
 obtain ⟨h1,h2⟩:=word_mod s r h;unfold fin val;rw [h1,h2];rw [inf_eq] at h;exact ⟨by simpa using h,rfl⟩
theorem signed_eq (s:Bool) (m u:Nat):Ieee.signed s m u=sg s (m * 2 ^ u):=by
 unfold Ieee.signed sg;rw [Nat.shiftLeft_eq]
theorem sg_mul (s:Bool) (m c:Nat):sg s (m * c)=sg s m * c:=by
 unfold sg;cases s <;> simp [Int.neg_mul]
theorem compare_mul (a b:Int) (c:Nat) (h:0 < c):compare (a * c) (b * c)=compare a b:=by
 have hc:(0:Int) < c:=by omega
 rcases Int.lt_trichotomy a b with hl | he | hl
 · have:=Int.mul_lt_mul_of_pos_right hl hc
   simp [compare,compareOfLessAndEq,hl,this]
 · subst he;simp [compare,compareOfLessAndEq]
 · have:=Int.mul_lt_mul_of_pos_right hl hc;have h1:¬a < b:=by omega
   have h2:¬a=b:=by omega
   have h3:¬a * c < b * c:=by omega
   have h4:¬a * c=b * c:=by omega
   simp [compare,compareOfLessAndEq,h1,h2,h3,h4]
theorem order_fin {x y:Nat} (hx:fin x=true) (hy:fin y=true):dbl.order x y=some (compare (val x) (val y)):=by
 have px:=plc_ge x;have py:=plc_ge y;obtain ⟨b,hb⟩:∃b,min (plc x) (plc y)=b:=⟨_,rfl⟩;have hbx:b≤plc x:=by omega
 have hby:b≤plc y:=by omega
 have hbl:-1074≤b:=by omega
 have ex:sg (sgn x) (sig x * 2 ^ (plc x - b).toNat) * ((2 ^ (b+1074).toNat:Nat):Int)=val x:=by
  rw [←sg_mul,Nat.mul_assoc,←Nat.pow_add,show (plc x - b).toNat+(b+1074).toNat=(plc x+1074).toNat by omega,sig_mag];rfl
 have ey:sg (sgn y) (sig y * 2 ^ (plc y - b).toNat) * ((2 ^ (b+1074).toNat:Nat):Int)=val y:=by
  rw [←sg_mul,Nat.mul_assoc,←Nat.pow_add,show (plc y - b).toNat+(b+1074).toNat=(plc y+1074).toNat by omega,sig_mag];rfl
 unfold Ieee.Format.order;rw [zHb hx,zHb hy];simp only [Ieee.Datum.order,hb,signed_eq];rw [←ex,←ey,compare_mul _ _ _ (Nat.two_pow_pos _)]
theorem order_eq {x y:Nat} (hx:fin x=true) (hy:fin y=true) (h:val x=val y):dbl.order x y=some .eq:=by
 rw [order_fin hx hy,h];simp [compare,compareOfLessAndEq]
theorem xor_mod (x:Nat):(x ^^^ 2 ^ 63) % 2 ^ 63=x % 2 ^ 63:=by
 rw [Nat.xor_mod_two_pow,Nat.mod_self,Nat.xor_zero]
end FV
end
end Go.Proofs.YtejooaeppcjhjaaGreat
