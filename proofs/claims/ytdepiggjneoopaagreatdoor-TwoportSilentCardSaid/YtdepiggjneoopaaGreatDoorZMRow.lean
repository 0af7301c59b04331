/- a part of the proof of the last text -/
import Derived.WalkKit
import Derived.WalkSpells
import Derived.WalkLawsBesides
import Derived.Deep.QuietTactic
import Derived.BigQuiet
import Derived.Handy
import Derived.Deep.RegionHeld3
import Derived.Deep.DeepCutAuto
import Derived.Deep.LoopGhost
import Derived.Deep.DeepFit
import Derived.Test.YtdepiggjneoopaaGreatDoorRows
import Derived.Laws.RangeAny
import Derived.WalkSmall
import Derived.Deep.AppendLies
import Derived.OneCell
import Derived.Deep.RegionLaw
namespace Go.Proofs.YtdepiggjneoopaaGreatDoor
set_option linter.all false
set_option maxHeartbeats 4000000
set_option maxRecDepth 100000
section
open Go.RowKit
theorem hid {p:Prop} (h:p):Hid p:=h
def fnan (b:Nat):Bool:=(FloatKind.f64.format.read b).isNaN
def qnan:Nat:=9221120237041090561
def fc (b:Nat):Nat:=if fnan b then qnan else b
def fop (op:BinOp) (x y:Nat):Nat:=(floatBits op .f64 x y).getD qnan
def fadd (x y:Nat):Nat:=fop .add x y
def fsub (x y:Nat):Nat:=fop .sub x y
def fmul (x y:Nat):Nat:=fop .mul x y
def fdiv (x y:Nat):Nat:=fop .quo x y
def ford (x y:Nat):Option Ordering:=FloatKind.f64.format.order x y
theorem fnan_qnan:fnan qnan=true:=by decide+kernel
theorem fnan_fc (x:Nat):fnan (fc x)=fnan x:=by
 by_cases h:fnan x=true
 · simp [fc,h,fnan_qnan]
 · simp [fc,h]
theorem zBv {x:Nat} (h:fnan x=false):fc x=x:=by simp [fc,h]
theorem zCf {x:Nat} (h:fnan x=true):fc x=qnan:=by simp [fc,h]
theorem fc_eq_qnan {x:Nat}:fc x=qnan ↔ fnan x=true:=by
 constructor
 · intro h;rw [←fnan_fc,h];exact fnan_qnan
 · exact zCf
theorem cut_arith (s u:Nat) (_:s < 2) (h2:u < 4503599627370495):(s * 9223372036854775808+9218868437227405312+1+u) % 9223372036854775808=9218868437227405313+u:=by omega
theorem read_high (x u:Nat) (hx:x % 9223372036854775808=9218868437227405313+u):fnan x=true:=by
 have e1:Ieee.double.signWeight=9223372036854775808:=by decide
 have e2:Ieee.double.binade=4503599627370496:=by decide
 have e3:Ieee.double.infRung=9218868437227405312:=by decide
 simp only [fnan,FloatKind.format,Ieee.Format.read,e1,e2,e3,hx];rw [if_neg (by omega),if_neg (by omega),if_neg (by omega)]
 rfl
theorem fnan_cut (t x y:Nat):fnan ((Question.nanBits .f64 x y).cut t)=true:=by
 have h1:t % 2 < 2:=Nat.mod_lt _ (by decide);have h2:t / 2 % (2 ^ 52 - 1) < 4503599627370495:=Nat.mod_lt _ (by decide);exact read_high _ _ (cut_arith _ _ h1 h2)
theorem read_nan {x:Nat} (h:fnan x=true):∃s t,FloatKind.f64.format.read x=.nan s t:=by
 unfold fnan at h;cases hx:FloatKind.f64.format.read x with
 | nan s t=> exact ⟨s,t,rfl⟩
 | number s m e=> rw [hx] at h;cases h
 | infinity s=> rw [hx] at h;cases h
theorem zEa {op:BinOp} {x y:Nat} (h:fnan x=true):floatBits op .f64 x y=none:=by
 obtain ⟨s,t,e⟩:=read_nan h;cases op <;> simp [floatBits,Ieee.Format.add,Ieee.Format.sub,Ieee.Format.mul,Ieee.Format.div,e,Ieee.Datum.sum,Ieee.Datum.product,Ieee.Datum.quotient]
theorem zFc {op:BinOp} {x y:Nat} (h:fnan y=true):floatBits op .f64 x y=none:=by
 obtain ⟨s,t,e⟩:=read_nan h;cases op <;> simp [floatBits,Ieee.Format.add,Ieee.Format.sub,Ieee.Format.mul,Ieee.Format.div,e] <;>
  cases FloatKind.f64.format.read x <;> simp [Ieee.Datum.sum,Ieee.Datum.product,Ieee.Datum.quotient,Ieee.Datum.opposite]
theorem bits_fc (op:BinOp) (x y:Nat):floatBits op .f64 (fc x) (fc y)=floatBits op .f64 x y:=by
 by_cases hx:fnan x=true
 · rw [zEa (x:=x) hx,zEa (by rw [fnan_fc];exact hx)]
 · by_cases hy:fnan y=true
   · rw [zFc (y:=y) hy,zFc (by rw [fnan_fc];exact hy)]
   · rw [zBv (by simpa using hx),zBv (by simpa using hy)]
theorem nearest_le (neg:Bool) (m:Nat) (e:Int):∃r,r≤Ieee.double.infRung∧Ieee.double.nearest neg m e=Ieee.double.word neg r:=by
 unfold Ieee.Format.nearest
 split
 · exact ⟨0,Nat.zero_le _,rfl⟩
 · exact ⟨_,Nat.min_le_right _ _,rfl⟩
theorem word_not_nan (neg:Bool) (r:Nat) (h:r≤Ieee.double.infRung):(Ieee.double.read (Ieee.double.word neg r)).isNaN=false:=by
 have hi:Ieee.double.infRung=9218868437227405312:=by decide
 rw [hi] at h;have hm:Ieee.double.word neg r % Ieee.double.signWeight=r:=by
  cases neg <;> simp [Ieee.Format.word,Ieee.Format.signWeight,Ieee.double] <;> omega
 simp only [Ieee.Format.read,hm]
 split
 · rfl
 · split
   · rfl
   · rw [if_pos (by rw [hi] at *;omega)];rfl
theorem write_not_nan (d:Ieee.Datum) (h:d.isNaN=false):(Ieee.double.read (Ieee.double.write d)).isNaN=false:=by
 cases d with
 | nan=> cases h
 | infinity s=> exact word_not_nan s _ (Nat.le_refl _)
 | number s m e=>
  obtain ⟨r,hr,he⟩:=nearest_le s m e;show (Ieee.double.read (Ieee.double.nearest s m e)).isNaN=false;rw [he];exact word_not_nan s r hr
theorem sum_not_nan {d e r:Ieee.Datum} (h:d.sum e=some r):r.isNaN=false:=by
 unfold Ieee.Datum.sum at h
 split at h
 · cases h
 · cases h
 · split at h <;> cases h;rfl
 · cases h;rfl
 · cases h;rfl
 · cases h;rfl
theorem product_not_nan {d e r:Ieee.Datum} (h:d.product e=some r):r.isNaN=false:=by
 unfold Ieee.Datum.product at h
 split at h
 · cases h
 · cases h
 · cases h;rfl
 · split at h <;> cases h;rfl
 · split at h <;> cases h;rfl
 · cases h;rfl
theorem quotient_not_nan {n:Nat} {d e r:Ieee.Datum} (h:d.quotient n e=some r):r.isNaN=false:=by
 unfold Ieee.Datum.quotient at h
 split at h
 · cases h
 · cases h
 · cases h
 · cases h;rfl
 · cases h;rfl
 · split at h
   · split at h <;> cases h;rfl
   · cases h;rfl
theorem bits_not_nan {op:BinOp} {x y r:Nat} (h:floatBits op .f64 x y=some r):fnan r=false:=by
 unfold floatBits at h;have key:∀o:Option Ieee.Datum,(∀d,o=some d→d.isNaN=false)→o.map Ieee.double.write=some r→fnan r=false:=by
  intro o ho he;cases o with
  | none=> cases he
  | some d=> cases he;exact write_not_nan d (ho d rfl)
 split at h
 · exact key _ (fun _=> sum_not_nan) h
 · exact key _ (fun _=> sum_not_nan) h
 · exact key _ (fun _=> product_not_nan) h
 · exact key _ (fun _=> quotient_not_nan) h
 · cases h
theorem fop_fc (op:BinOp) (x y:Nat):fop op (fc x) (fc y)=fop op x y:=by unfold fop;rw [bits_fc]
theorem order_nan_left {x y:Nat} (h:fnan x=true):ford x y=none:=by
 obtain ⟨s,t,e⟩:=read_nan h
 simp [ford,Ieee.Format.order,e,Ieee.Datum.order]
theorem order_nan_right {x y:Nat} (h:fnan y=true):ford x y=none:=by
 obtain ⟨s,t,e⟩:=read_nan h;simp only [ford,Ieee.Format.order,e];cases FloatKind.f64.format.read x <;> rfl
theorem ford_fc (x y:Nat):ford (fc x) (fc y)=ford x y:=by
 by_cases hx:fnan x=true
 · rw [order_nan_left (x:=x) hx,order_nan_left (by rw [fnan_fc];exact hx)]
 · by_cases hy:fnan y=true
   · rw [order_nan_right (y:=y) hy,order_nan_right (by rw [fnan_fc];exact hy)]
   · rw [zBv (by simpa using hx),zBv (by simpa using hy)]
theorem ford_self (x:Nat):(ford x x==some .eq)=!fnan x:=by
 unfold ford fnan Ieee.Format.order;cases h:FloatKind.f64.format.read x with
 | nan s t=> rfl
 | infinity s=> simp [Ieee.Datum.order,Ieee.Datum.isNaN]
 | number s m e=> simp [Ieee.Datum.order,Ieee.Datum.isNaN]
theorem run_float_any {P:Program} (op:BinOp) (eQ:op=.add∨op=.sub∨op=.mul∨op=.quo) (t:TypeId) (x y:Nat) (w:World):
 ∃r n,(binOp op t (.float .f64 x) (.float .f64 y)).run P w=.ok (.float .f64 r) (w.drewN n)∧fc r=fop op (fc x) (fc y):=by
 rw [fop_fc];cases h:floatBits op .f64 x y with
 | some r=> exact ⟨r,0,run_float_arith w op t .f64 x y r h,by rw [zBv (bits_not_nan h)];simp [fop,h]⟩
 | none=>
  refine ⟨(Question.nanBits .f64 x y).cut (w.tape w.drawn (.nanBits .f64 x y)),1,?_,by rw [zCf (fnan_cut _ _ _)];simp [fop,h]⟩;rcases eQ with rfl | rfl | rfl | rfl <;> simp only [floatBits] at h <;> simp [binOp,Op.floatArith,h,choose,Sem.run,Question.forced] <;> rfl
def drawsOp:BinOp→Bool
 | .add | .sub | .mul | .quo=> true
 | _=> false
theorem zAo {P:Program} {ops:Array Oper} {Q:Exit→Act→World→Prop} {a:Act} {w:World} {rest:List Oper} {o:Oper}
 (hw:Region.wanted o (yielded ops a.tmps)=true) (op:BinOp) (t:TypeId) (x' y':Operand) (t':TypeId) (ho:o.op=.binOp op t x' y' t') (eQ:drawsOp op=true)
 (x y:Nat) (hx:a.eval x'=.float .f64 x) (hy:a.eval y'=.float .f64 y)
 (h:∀r n,fc r=fop op (fc x) (fc y)→wpList P ops Q rest (a.put o.dst (.float .f64 r)) (w.drewN n)):wpList P ops Q (o::rest) a w:=by
 refine wpList_step fun K hK=> ?_
 rw [if_pos hw];have uJ:op=.add∨op=.sub∨op=.mul∨op=.quo:=by cases op <;> simp [drawsOp] at eQ <;> simp
 obtain ⟨r,n,hr,hf⟩:=run_float_any (P:=P) op uJ t x y w;have:=hK _ _ (h r n hf);rcases uJ with rfl | rfl | rfl | rfl <;> simpa [Oper.wp,Oper.upon,execOp,eqGuard,ho,hx,hy,hr] using this
def zBc (x:Nat):Nat:=x % 9223372036854775808
theorem fsize_walk (x:Nat):(bits .andNot .u64 (x:Int) 9223372036854775808).toNat=zBc x:=by
 have h:BitVec.ofInt 64 (x:Int) &&& ~~~(BitVec.ofInt 64 9223372036854775808)=BitVec.ofNat 64 (zBc x):=by
  have e:BitVec.ofInt 64 (x:Int)=BitVec.ofNat 64 x:=by simp
  rw [e]
  apply BitVec.eq_of_getLsbD_eq
  intro i hi;simp only [BitVec.getLsbD_and,BitVec.getLsbD_not,BitVec.getLsbD_ofNat,zBc];rw [show (9223372036854775808:Nat)=2 ^ 63 from by decide,Nat.testBit_mod_two_pow];have:(BitVec.ofInt 64 9223372036854775808).getLsbD i=decide (i=63):=by
   have:∀j:Fin 64,(BitVec.ofInt 64 9223372036854775808).getLsbD j.val=decide (j.val=63):=by decide
   exact this ⟨i,hi⟩
  rw [this]
  by_cases kH:i=63
  · subst kH;simp
  · have:i < 63:=by omega
    simp [hi,this,kH]
 have aM:zBc x < 9223372036854775808:=Nat.mod_lt _ (by decide);show (IntKind.u64.wrap ((BitVec.ofInt 64 (x:Int) &&& ~~~(BitVec.ofInt 64 9223372036854775808)).toNat:Nat)).toNat=_;rw [h,BitVec.toNat_ofNat,Nat.mod_eq_of_lt (by omega),IntWalk.u64_in _ ⟨by omega,by omega⟩]
 rfl
theorem fnan_fsize (x:Nat):fnan (zBc x)=fnan x:=by
 have e1:Ieee.double.signWeight=9223372036854775808:=by decide
 have e:zBc x % 9223372036854775808=x % 9223372036854775808:=Nat.mod_mod _ _;have key:∀y z:Nat,y % 9223372036854775808=z % 9223372036854775808→fnan y=fnan z:=by
  intro y z uF;simp only [fnan,FloatKind.format,Ieee.Format.read,e1,uF]
  split
  · rfl
  · split
    · rfl
    · split <;> rfl
 exact key _ _ e
theorem fc_fsize (x:Nat):fc (zBc (fc x))=fc (zBc x):=by
 by_cases h:fnan x=true
 · rw [zCf (x:=zBc x) (by rw [fnan_fsize];exact h),zCf (x:=zBc (fc x)) (by rw [fnan_fsize,fnan_fc];exact h)]
 · rw [zBv (x:=x) (by simpa using h)]
def fordz (x y:Nat):Option Ordering:=ford (zBc x) (zBc y)
theorem fordz_fc (x y:Nat):fordz (fc x) (fc y)=fordz x y:=by
 unfold fordz;rw [←ford_fc (zBc (fc x)),fc_fsize,fc_fsize,ford_fc]
abbrev Cx:=Nat × Nat
def cadd (a b:Cx):Cx:=(fadd a.1 b.1,fadd a.2 b.2)
def csub (a b:Cx):Cx:=(fsub a.1 b.1,fsub a.2 b.2)
def cmul (a b:Cx):Cx:=(fsub (fmul a.1 b.1) (fmul a.2 b.2),fadd (fmul a.1 b.2) (fmul a.2 b.1))
def cscale (x:Nat) (a:Cx):Cx:=(fmul x a.1,fmul x a.2)
def isGe (o:Option Ordering):Bool:=o==some .gt || o==some .eq
def cdiv (a b:Cx):Cx:=
 if isGe (fordz b.1 b.2) then
  let r:=fdiv b.2 b.1
  let t:=fadd b.1 (fmul b.2 r)
  (fdiv (fadd a.1 (fmul a.2 r)) t,fdiv (fsub a.2 (fmul a.1 r)) t)
 else
  let r:=fdiv b.1 b.2
  let t:=fadd (fmul b.1 r) b.2
  (fdiv (fadd (fmul a.1 r) a.2) t,fdiv (fsub (fmul a.2 r) a.1) t)
def ffin (x:Nat):Bool:=ford (fsub x x) 0==some .eq
def cfin (a:Cx):Bool:=ffin a.1 && ffin a.2
theorem ffin_fc (x:Nat):ffin (fc x)=ffin x:=by simp [ffin,fsub,fop_fc]
def Ret (S:Value→Prop) (w:World) (e:Ending) (w':World):Prop:=∃v n,e=.returned v∧w'=w.drewN n∧S v
def IsF (x:Nat) (v:Value):Prop:=∃r,v=.float .f64 r∧fc r=x
def IsC (z:Cx) (v:Value):Prop:=∃r i,v=.complex .f64 r i∧(fc r,fc i)=z
def RetB (S:Value→Prop) (w:World) (e:Ending) (w':World):Prop:=∃v,e=.returned v∧Below w.heap.size w w'∧S v
def IsCE (z:Cx × Int) (v:Value):Prop:=∃r i k,v=.tuple #[.complex .f64 r i,.int .i64 k]∧((fc r,fc i),k)=z
theorem fc_zero:fc 0=0:=zBv (by decide+kernel)
theorem zAg {B:Nat} {a w:World} (h:Below B a w) (n:Nat):Below B a (w.drewN n):=h.trans ⟨rfl,rfl,rfl,Nat.le_refl _,fun _ _=> rfl⟩
theorem zBh {w w1 w2:World} (h:Below w.heap.size w w1) (k:Below w1.heap.size w1 w2):Below w.heap.size w w2:=h.trans (k.mono h.size)
@[go_sem] theorem run_store_float {P:Program} {w:World} {a:Addr} {m:Mode} (k:FloatKind) (b:Nat):(store a (.float k b) m).run P w=stored P w a (.float k b) m:=run_store P w a _ m rfl
@[go_sem] theorem run_store_complex {P:Program} {w:World} {a:Addr} {m:Mode} (k:FloatKind) (b c:Nat):(store a (.complex k b c) m).run P w=stored P w a (.complex k b c) m:=run_store P w a _ m rfl
def fval (op:BinOp) (x y:Nat) (w:World):Nat:=match floatBits op .f64 x y with | some r=> r | none=> (Question.nanBits .f64 x y).cut (w.tape w.drawn (.nanBits .f64 x y))
def fdr (op:BinOp) (x y:Nat):Nat:=if (floatBits op .f64 x y).isSome then 0 else 1
theorem run_fval {P:Program} (op:BinOp) (eQ:drawsOp op=true) (t:TypeId) (x y:Nat) (w:World):
 (binOp op t (.float .f64 x) (.float .f64 y)).run P w=.ok (.float .f64 (fval op x y w)) (w.drewN (fdr op x y)):=by
 cases h:floatBits op .f64 x y with
 | some r=>
  rw [run_float_arith w op t .f64 x y r h]
  simp [fval,fdr,h];rfl
 | none=>
  have uJ:op=.add∨op=.sub∨op=.mul∨op=.quo:=by cases op <;> simp [drawsOp] at eQ <;> simp
  rcases uJ with rfl | rfl | rfl | rfl <;> (have h':=h;simp only [floatBits] at h';simp [binOp,Op.floatArith,h',choose,Sem.run,Question.forced,fval,fdr,h];rfl)
theorem run_fsub {P:Program} (t:TypeId) (x y:Nat) (w:World):(binOp .sub t (.float .f64 x) (.float .f64 y)).run P w=.ok (.float .f64 (fval .sub x y w)) (w.drewN (fdr .sub x y)):=run_fval .sub rfl t x y w
theorem fc_fval (op:BinOp) (x y:Nat) (w:World):fc (fval op x y w)=fop op (fc x) (fc y):=by
 rw [fop_fc];unfold fval fop;cases h:floatBits op .f64 x y with
 | some r=> exact zBv (bits_not_nan h)
 | none=> exact zCf (fnan_cut _ _ _)
end
section
open Go.RowKit
def okB (b:UInt8):Bool:=(decide (97≤b.toNat) && decide (b.toNat≤122)) || (decide (48≤b.toNat) && decide (b.toNat≤57)) || decide (b.toNat=95)
def zEu (s:ByteArray):Bool:=s.data.toList.all okB
theorem smallB_no {s:ByteArray} {i:Nat} (h:i < s.size) (hb:okB s[i]=false):zEu s=false:=by
 unfold zEu;rw [List.all_eq_false];exact ⟨s[i],List.mem_of_getElem? (i:=i) (by simp [ByteArray.getElem_eq_getElem_data]),by rw [hb];simp⟩
theorem smallB_yes {s:ByteArray} (h:∀i (hi:i < s.size),okB s[i]=true):zEu s=true:=by
 unfold zEu;rw [List.all_eq_true];intro x hx;obtain ⟨i,hi⟩:=List.mem_iff_getElem?.1 hx;obtain ⟨h1,h2⟩:=List.getElem?_eq_some_iff.1 hi;have:=h i (by simpa using h1);rw [←h2];simpa [ByteArray.getElem_eq_getElem_data] using this
theorem okB_cases (b:UInt8):(okB b=true∧(((97:Int)≤ (b.toNat:Int)∧(b.toNat:Int)≤122)∨((48:Int)≤ (b.toNat:Int)∧(b.toNat:Int)≤57∧(b.toNat:Int) < 97)∨(b.toNat:Int)=95))∨
 (okB b=false∧((b.toNat:Int) < 48∨((57:Int) < (b.toNat:Int)∧(b.toNat:Int) < 95)∨(b.toNat:Int)=96∨(122:Int) < (b.toNat:Int))):=by
 unfold okB
 by_cases h1:97≤b.toNat∧b.toNat≤122
 · left;exact ⟨by simp [h1],by omega⟩
 · by_cases h2:48≤b.toNat∧b.toNat≤57
   · left;exact ⟨by simp [h2],by omega⟩
   · by_cases h3:b.toNat=95
     · left;exact ⟨by simp [h3],by omega⟩
     · right;refine ⟨?_,by omega⟩
       have e1:(decide (97≤b.toNat) && decide (b.toNat≤122))=false:=by rw [←Bool.decide_and];simpa using h1
       have e2:(decide (48≤b.toNat) && decide (b.toNat≤57))=false:=by rw [←Bool.decide_and];simpa using h2
       rw [e1,e2];simpa using h3
def AllOk (s:ByteArray) (i:Nat):Prop:=∀j (hj:j < s.size),j < i→okB s[j]=true
theorem vsmall_any (s:ByteArray) (w:World) (_:s.size≤maxLen):
 Calls Tryz.prog 94 #[.string s] w fun e w'=> e=.returned (.bool (zEu s))∧Below w.heap.size w w':=by
 go_enter Tryz.func94,Tryz.ntmps94;go_wp2
 go_loopw [4] (fun _ wr=> ∃i,i≤s.size∧wr=w.iter s i∧AllOk s i) (fun _ wr=> s.size - wr.iterPos w.heap.size)
 case atStart=> exact ⟨0,Nat.zero_le _,rfl,fun j _ h=> by omega⟩
 case round=>
  obtain ⟨i,hi,qN,bN⟩:=hrel;have mU:=hid bN;clear bN;subst qN
  by_cases aM:i < s.size
  · rcases okB_cases s[i] with ⟨aY,hc⟩ | ⟨aY,hc⟩
    · have cH:=hid aY;have ha:s[i].toNat < 128:=by omega
      have hnx:=fun ty=> run_next_ascii (P:=Tryz.prog) w s i ty aM ha
      clear aY;rcases hc with ⟨h1,h2⟩ | ⟨h1,h2,h3⟩ | h1
      all_goals
       go_wp2;go_roundw
       case rel=>
        refine ⟨i+1,by omega,rfl,fun j hj lI=> ?_⟩
        by_cases e:j=i
        · subst e;exact cH.out
        · exact mU.out j hj (by omega)
       case measure=> rw [World.iterPos_iter,World.iterPos_iter];omega
    · have gF:=hid (smallB_no aM aY);clear aY;have h95:((s[i].toNat:Int) !=95)=true:=by rw [bne_iff_ne];omega
      by_cases ha:s[i].toNat < 128
      · have hnx:=fun ty=> run_next_ascii (P:=Tryz.prog) w s i ty aM ha
        rcases hc with h1 | ⟨h1,h2⟩ | h1 | h1
        all_goals
         go_wp2
         (try rw [Exit.noGoto_ret])
         go_ret;exact ⟨by rw [gF.out];rfl,(Below.refl _ _).alloc (Nat.le_refl _) _⟩
      · have hnx:=fun ty=> run_next_any (P:=Tryz.prog) w s i ty aM
        have hhi:=(decode_high s i aM (by omega)).1;have h122:(122:Int) < ((Utf8.decode s i).1:Int):=by omega
        have h95':(((Utf8.decode s i).1:Int) !=95)=true:=by rw [bne_iff_ne];omega
        clear hhi hc h95;go_wp2
        (try rw [Exit.noGoto_ret])
        go_ret;exact ⟨by rw [gF.out];rfl,(Below.refl _ _).alloc (Nat.le_refl _) _⟩
  · have hnx:=fun ty=> run_next_end (P:=Tryz.prog) w s i ty aM
    have HY:=hid (show zEu s=true from smallB_yes fun j hj=> mU.out j hj (by omega));go_wp2;go_ret;exact ⟨by rw [HY.out];rfl,(Below.refl _ _).alloc (Nat.le_refl _) _⟩
theorem rbytes_any (s:ByteArray) (w:World) (hs:s.size≤maxLen):
 Calls Tryz.prog 110 #[.string s] w fun e w'=> e=.returned (.bool (zEu s))∧w=w':=by
 unfold maxLen at hs;go_enter Tryz.func110,Tryz.ntmps110;go_wp2
 go_loop [3,4] (fun i _=> ∃k:Nat,k≤s.size∧i=.int .i64 k∧AllOk s k) (fun i _=> s.size - (intOf i).toNat)
 case atStart=> exact ⟨0,Nat.zero_le _,rfl,fun j _ h=> by omega⟩
 case round=>
  obtain ⟨i,hi,rfl,bN⟩:=hrel;have mU:=hid bN;clear bN
  by_cases aM:i < s.size
  · rcases okB_cases s[i] with ⟨aY,hc⟩ | ⟨aY,hc⟩
    · have cH:=hid aY;clear aY;rcases hc with ⟨h1,h2⟩ | ⟨h1,h2,h3⟩ | h1
      all_goals
       go_wp2
       all_goals
        go_round
        case rel=>
         refine ⟨i+1,by omega,by go_num,fun j hj lI=> ?_⟩
         by_cases e:j=i
         · subst e;exact cH.out
         · exact mU.out j hj (by omega)
        case measure=> simp [intOf];omega
    · have gF:=hid (smallB_no aM aY);clear aY;have h95:((s[i].toNat:Int)==95)=false:=by rw [beq_eq_false_iff_ne];omega
      rcases hc with h1 | ⟨h1,h2⟩ | h1 | h1
      all_goals
       go_wp2
       all_goals first
        | ((try rw [Exit.noGoto_ret]);go_ret;exact ⟨by rw [gF.out];rfl,rfl⟩)
        | (exfalso;rename_i hx;simp at hx;omega)
  · have HY:=hid (show zEu s=true from smallB_yes fun j hj=> mU.out j hj (by omega));go_wp2;go_ret;exact ⟨by rw [HY.out];rfl,rfl⟩
end
section
open Go.RowKit
def IsSl (w:World) (size:Nat) (v:Value) (n:Nat) (xs:List Value):Prop:=
 xs.length=n * size∧((v=.slice none 0 0∧n=0)∨∃g off c,v=.slice (some ⟨g,off,none⟩) n c∧n≤c∧g < w.heap.size∧∀j,j < n * size→w.cell? ⟨g,off+j,none⟩=xs[j]?)
theorem IsSl.form {w:World} {size:Nat} {v:Value} {n:Nat} {xs:List Value} (h:IsSl w size v n xs):∃a c,v=.slice a n c:=by
 rcases h.2 with ⟨rfl,rfl⟩ | ⟨g,off,c,rfl,_⟩
 · exact ⟨none,0,rfl⟩
 · exact ⟨_,c,rfl⟩
theorem IsSl.nil (w:World) (size:Nat):IsSl w size (.slice none 0 0) 0 []:=⟨by simp,.inl ⟨rfl,rfl⟩⟩
theorem IsSl.of_block {w w':World} {size:Nat} {v:Value} {n:Nat} {xs:List Value} (h:IsSl w size v n xs) (hs:w.heap.size≤w'.heap.size) (hb:∀g,v.ownBlock=some g→w'.heap[g]? =w.heap[g]?):IsSl w' size v n xs:=by
 refine ⟨h.1,?_⟩;rcases h.2 with h0 | ⟨g,off,c,rfl,hc,hg,aA⟩
 · exact .inl h0
 · refine .inr ⟨g,off,c,rfl,hc,Nat.lt_of_lt_of_le hg hs,fun j hj=> ?_⟩;rw [World.cell?_of_block (w:=w) (hb g rfl)];exact aA j hj
theorem IsSl.lt {w:World} {size:Nat} {v:Value} {n:Nat} {xs:List Value} (h:IsSl w size v n xs) {g:Nat} (hg:v.ownBlock=some g):g < w.heap.size:=by
 rcases h.2 with ⟨rfl,_⟩ | ⟨g',off,c,rfl,_,aM,_⟩
 · cases hg
 · cases hg;exact aM
theorem IsSl.below {w w':World} {B size:Nat} {v:Value} {n:Nat} {xs:List Value} (h:IsSl w size v n xs) (hb:Below B w w') (hB:w.heap.size≤B):IsSl w' size v n xs:=
 h.of_block hb.size fun _ hg=> hb.block _ (Nat.lt_of_lt_of_le (h.lt hg) hB)
theorem IsSl.grown {w w':World} {size:Nat} {v:Value} {n:Nat} {xs:List Value} {row:Option Nat} (h:IsSl w size v n xs) (hg:w.grownBy w' row) (aK:∀g,v.ownBlock=some g→row≠some g):IsSl w' size v n xs:=
 h.of_block hg.size fun g e=> hg.block g (h.lt e) (fun e'=> aK g e e'.symm)
theorem IsSl.of_own {w:World} {B e size:Nat} {v:Value} {n:Nat} {xs:List Value} (h:w.ownsRow B e size v n xs):IsSl w size v n xs:=by
 refine ⟨h.1,?_⟩;rcases h.2 with h0 | ⟨g,cap,cur,rfl,hb,hg,hn,hm,hs,ht⟩
 · exact .inl h0
 · refine .inr ⟨g,0,cap,rfl,hn,(Array.getElem?_eq_some_iff.1 hg).1,fun j hj=> ?_⟩;rw [Nat.zero_add];exact World.ownsRow.cellAt h j hj
theorem IsSl.take {w:World} {size:Nat} {a:Option Addr} {n c k:Nat} {xs:List Value} (h:IsSl w size (.slice a n c) n xs) (hk:k≤n):IsSl w size (.slice a k c) k (xs.take (k * size)):=by
 have zD:k * size≤n * size:=Nat.mul_le_mul_right _ hk;refine ⟨by rw [List.length_take,h.1];omega,?_⟩;rcases h.2 with ⟨h0,h1⟩ | ⟨g,off,c',hv,hc,hg,aA⟩
 · cases h0;obtain rfl:k=0:=by omega
   exact .inl ⟨rfl,rfl⟩
 · cases hv;refine .inr ⟨g,off,c,rfl,by omega,hg,fun j hj=> ?_⟩;rw [aA j (by omega),List.getElem?_take,if_pos hj]
theorem IsSl.at1 {P:Program} {t e:TypeId} {i:TypeInfo} (ht:P.underlying t=some (.slice e)) (hi:P.info? e=some i) (hs:i.size=1)
 {w:World} {a:Option Addr} {n c:Nat} {xs:List Value} (h:IsSl w 1 (.slice a n c) n xs) {k:Nat} (hk:k < n):
 ∃g o x,(∀w',(Instr.indexAt t (.slice a n c) (.int .i64 k)).run P w'=.ok (.pointer (some ⟨g,o,none⟩)) w')∧g < w.heap.size∧w.cell? ⟨g,o,none⟩=some x∧xs[k]? =some x:=by
 rcases h.2 with ⟨_,h0⟩ | ⟨g,off,c',hv,hc,hg,aA⟩
 · omega
 · cases hv;have hl:k < xs.length:=by rw [h.1];omega
   refine ⟨g,off+k,xs[k],fun w'=> ?_,hg,?_,by simp [hl]⟩
   · have he:P.elem t=e:=by simp [Program.elem,ht]
     rw [run_indexAt_slice w' t _ n c .i64 k (by rw [he];exact ht),if_pos ⟨by omega,by omega⟩,he]
     simp [sizeOf,typeInfo,hi,hs,Result.andThen,Addr.add]
   · rw [aA k (by omega)];simp [hl]
def InSl (w:World) (size:Nat) (v:Value) (n:Nat) (xs:List Value):Prop:=IsSl w size v n xs∨∃a c,v=.slice a 0 c∧n=0∧xs= []
theorem InSl.of {w:World} {size:Nat} {v:Value} {n:Nat} {xs:List Value} (h:IsSl w size v n xs):InSl w size v n xs:=.inl h
theorem InSl.form {w:World} {size:Nat} {v:Value} {n:Nat} {xs:List Value} (h:InSl w size v n xs):∃a c,v=.slice a n c:=by
 rcases h with h | ⟨a,c,rfl,rfl,rfl⟩
 · exact h.form
 · exact ⟨a,c,rfl⟩
theorem InSl.len {w:World} {size:Nat} {v:Value} {n:Nat} {xs:List Value} (h:InSl w size v n xs):xs.length=n * size:=by
 rcases h with h | ⟨a,c,rfl,rfl,rfl⟩
 · exact h.1
 · simp
theorem InSl.pos {w:World} {size:Nat} {v:Value} {n:Nat} {xs:List Value} (h:InSl w size v n xs) (hn:0 < n):IsSl w size v n xs:=by
 rcases h with h | ⟨a,c,rfl,rfl,rfl⟩
 · exact h
 · omega
theorem InSl.below {w w':World} {B size:Nat} {v:Value} {n:Nat} {xs:List Value} (h:InSl w size v n xs) (hb:Below B w w') (hB:w.heap.size≤B):InSl w' size v n xs:=
 h.imp (fun h=> h.below hb hB) id
theorem InSl.at1 {P:Program} {t e:TypeId} {i:TypeInfo} (ht:P.underlying t=some (.slice e)) (hi:P.info? e=some i) (hs:i.size=1)
 {w:World} {a:Option Addr} {n c:Nat} {xs:List Value} (h:InSl w 1 (.slice a n c) n xs) {k:Nat} (hk:k < n):
 ∃g o x,(∀w',(Instr.indexAt t (.slice a n c) (.int .i64 k)).run P w'=.ok (.pointer (some ⟨g,o,none⟩)) w')∧g < w.heap.size∧w.cell? ⟨g,o,none⟩=some x∧xs[k]? =some x:=
 IsSl.at1 ht hi hs (h.pos (by omega)) hk
theorem map_getElem? {α β:Type} {f:α→β} {l:List α} {k:Nat} {y:β} (h:(l.map f)[k]? =some y):∃x,l[k]? =some x∧y=f x:=by
 rw [List.getElem?_map] at h;obtain ⟨x,h1,h2⟩:=Option.map_eq_some_iff.1 h;exact ⟨x,h1,h2.symm⟩
theorem fold_set:∀ (l:List Value) (k:Nat) (cs:Array Value) (i:Nat),
 ((l.zipIdx k).foldl (fun cs (x:Value × Nat)=> cs.setIfInBounds (0+x.2) x.1) cs)[i]? =if i < cs.size then (if k≤i∧i < k+l.length then l[i - k]? else cs[i]?) else none
 | [],k,cs,i=> by
  simp only [List.zipIdx_nil,List.foldl_nil,List.length_nil]
  split
  · rw [if_neg (by omega)]
  · rename_i h;simp at h;exact Array.getElem?_eq_none h
 | x::l,k,cs,i=> by
  simp only [List.zipIdx_cons,List.foldl_cons];rw [fold_set l (k+1) _ i];simp only [Array.size_setIfInBounds,List.length_cons,Nat.zero_add]
  by_cases hi:i < cs.size
  · rw [if_pos hi,if_pos hi]
    by_cases h1:k+1≤i∧i < k+1+l.length
    · rw [if_pos h1,if_pos (by omega)];obtain ⟨m,rfl⟩:∃m,i=k+1+m:=⟨i - (k+1),by omega⟩;rw [show k+1+m - (k+1)=m from by omega,show k+1+m - k=m+1 from by omega]
      simp
    · rw [if_neg h1]
      by_cases h2:i=k
      · subst h2;rw [if_pos (by omega)]
        simp [hi]
      · rw [if_neg (by omega),Array.getElem?_setIfInBounds_ne (by omega)]
  · rw [if_neg hi,if_neg hi]
theorem fill_one (y:Value) (cs:Array Value) (h:cs.size=y.cells.size):Instr.fill (fun i=> some (i * y.cells.size,y.cells.size)) cs [(0,y)]=some y.cells:=by
 simp only [Instr.fill];rw [if_neg (by simp [h])]
 congr 1
 apply Array.ext_getElem?
 intro i;have:=fold_set y.cells.toList 0 cs i;rw [←Array.toList_zipIdx,Array.foldl_toList] at this;simp only [Nat.zero_mul];rw [this]
 by_cases hi:i < cs.size
 · rw [if_pos hi,if_pos (by simp;omega)];simp
 · rw [if_neg hi];symm;exact Array.getElem?_eq_none (by omega)
theorem run_buildOne {P:Program} {t e size:Nat} {i:TypeInfo} {z:Value} (ht:P.underlying t=some (.slice e)) (hi:P.info? e=some i) (hz:i.zero=some z)
 (bY:i.size=size) (hsz:0 < size) (uI:size≤16777216) (y:Value) (yN:y.cells.size=size) (w:World):
 (Instr.buildSlice t 1 #[(0,y)]).run P w=.ok (.slice (some ⟨w.heap.size,0,none⟩) 1 1) (w.alloc (.cells y.cells e)):=by
 subst yN;have hf:=fill_one y ((Array.range y.cells.size).map (z.cells[· % z.cells.size]!)) (by simp);have h1:¬(16777216 < y.cells.size):=by omega
 have h2:¬y.cells=#[]:=by intro h;rw [h] at hsz;simp at hsz
 simp [Instr.buildSlice,run_underlying ht,sizeOf,typeInfo,hi,bY,h1,h2,zeroValue,hz,hf,newRow]
theorem wpList_push {P:Program} {ops:Array Oper} {Q:Exit→Act→World→Prop} {a:Act} {w:World} {rest:List Oper} {o1 o2:Oper}
 (fM:o1.guard=none) (iR:o2.guard=none) (d1:Tmp) (hd1:o1.dst=some d1) (t:TypeId) (s x:Operand)
 (tE:o1.op=.buildSlice t 1 #[(0,x)]) (tD:o2.op=.call {callee:=.builtin .append,args:=#[s,.tmp d1],argTypes:=#[t,t]})
 (base e size bytes:Nat) (i:TypeInfo) (z:Value) (ht:P.underlying t=some (.slice e)) (hi:P.info? e=some i) (hz:i.zero=some z)
 (bY:i.size=size) (mW:i.bytes=bytes) (nD:z.cells.size=size) (hsz:0 < size) (uI:size≤16777216)
 (v:Value) (n:Nat) (xs:List Value) (aC:w.ownsRow base e size v n xs) (gP:base≤w.heap.size)
 (y:Value) (hx:a.eval x=y) (yN:y.cells.size=size) (h1:∀u∈y.cells.toList,u.oneCell'=true)
 (hs:(a.put (some d1) (.slice (some ⟨w.heap.size,0,none⟩) 1 1)).eval s=v)
 (hd:(a.put (some d1) (.slice (some ⟨w.heap.size,0,none⟩) 1 1)).eval (.tmp d1)=.slice (some ⟨w.heap.size,0,none⟩) 1 1)
 (kH:n+1≤maxLen) (bM:(n+1) * bytes≤140737488355328)
 (h:∀g cap w',w'.ownsRow base e size (.slice (some ⟨g,0,none⟩) (n+1) cap) (n+1) (xs++y.cells.toList)→w.grownBy w' v.ownBlock→(v.ownBlock=some g∨w.heap.size≤g)→g < w'.heap.size→
  wpList P ops Q rest ((a.put (some d1) (.slice (some ⟨w.heap.size,0,none⟩) 1 1)).put o2.dst (.slice (some ⟨g,0,none⟩) (n+1) cap)) w'):wpList P ops Q (o1::o2::rest) a w:=by
 refine wpList_plain fM fun K hK=> ?_
 have nF:=run_buildOne (P:=P) ht hi hz bY hsz uI y yN w;have key:wpList P ops Q (o2::rest) (a.put (some d1) (.slice (some ⟨w.heap.size,0,none⟩) 1 1)) (w.alloc (.cells y.cells e)):=by
  refine wpList_plain iR fun K hK=> ?_
  refine wp_append_lies (w:=w.alloc (.cells y.cells e)) s (.tmp d1) t tD base e i z size bytes ht hi hz bY mW nD hsz v n xs hs (aC.alloc _) ⟨w.heap.size,0,none⟩ 1 1 y.cells.toList hd (by simpa using yN)
   (World.news_of_block (cs:=y.cells) (t:=e) (fr:=(0,0)) (heap_alloc_new w _)) h1 (by omega) kH bM (by simp;omega) (w.heap.size+1) (by simp) ?_
  intro g cap w' hown' aF eD aM;refine hK _ _ (h g cap w' hown' ?_ ?_ aM)
  · refine ⟨aF.os,aF.tape,aF.output,Nat.le_trans (by simp) aF.size,fun k hk aK=> ?_⟩;rw [aF.block k (by simp;omega) aK];exact heap_alloc_old w _ hk
  · rcases eD with eD | eD
    · exact .inl eD
    · exact .inr (by omega)
 have:=hK _ _ (hd1 ▸ key)
 simpa [Oper.wp,Oper.upon,execOp,tE,hx,nF] using this
theorem zBy {P:Program} {ops:Array Oper} {Q:Exit→Act→World→Prop} {a:Act} {w:World} {rest:List Oper} {o:Oper}
 (hg:o.guard=none) (s x:Operand) (t:TypeId) (ho:o.op=.call {callee:=.builtin .append,args:=#[s,x],argTypes:=#[t,t]})
 (base e size bytes:Nat) (i:TypeInfo) (z:Value) (ht:P.underlying t=some (.slice e)) (hi:P.info? e=some i) (hz:i.zero=some z)
 (bY:i.size=size) (mW:i.bytes=bytes) (nD:z.cells.size=size) (hsz:0 < size)
 (v:Value) (n:Nat) (xs:List Value) (aC:w.ownsRow base e size v n xs) (gP:base≤w.heap.size)
 (v2:Value) (m:Nat) (news:List Value) (iG:IsSl w size v2 m news) (hs:a.eval s=v) (hx:a.eval x=v2) (h1:∀u∈news,u.oneCell'=true)
 (kH:n+m≤maxLen) (bM:(n+m) * bytes≤140737488355328)
 (h:∀v' w',w'.ownsRow base e size v' (n+m) (xs++news)→w.grownBy w' v.ownBlock→(v'.ownBlock=v.ownBlock∨v'.ownBlock=some w.heap.size)→
  wpList P ops Q rest (a.put o.dst v') w'):wpList P ops Q (o::rest) a w:=by
 refine wpList_plain hg fun K hK=> ?_
 rcases iG.2 with ⟨rfl,rfl⟩ | ⟨g,off,c,rfl,hc,aM,aA⟩
 · have hn:news= []:=List.eq_nil_of_length_eq_zero (by simpa using iG.1);subst hn;have hr:=run_append_owned_none (P:=P) w base t o.type e i size ht hi v n xs aC;have:=hK _ _ (h v w (by simpa using aC) ⟨rfl,rfl,rfl,Nat.le_refl _,fun _ _ _=> rfl⟩ (.inl rfl));unfold Oper.wp execOp;simp only [ho,resolve,invoke,builtin,Sem.run_bind,Sem.run_pure,Result.andThen_ok,List.map_toArray,List.map_cons,List.map_nil,hs,hx,hr];exact this
 · obtain ⟨v',w',hr,h2,h3,_,h5⟩:=run_append_own_at (P:=P) w base t o.type e i z size bytes ht hi hz bY mW nD hsz v n xs aC ⟨g,off,none⟩ m c news iG.1
    (fun j u hu=> by
     have hj:j < m * size:=by rw [←iG.1];exact (List.getElem?_eq_some_iff.1 hu).1
     have:(⟨g,off,none⟩:Addr).add j=⟨g,off+j,none⟩:=by unfold Addr.add;split <;> simp_all
     rw [this,aA j hj,hu]) h1 kH bM gP
   have:=hK _ _ (h v' w' h2 h3 h5);unfold Oper.wp execOp;simp only [ho,resolve,invoke,builtin,Sem.run_bind,Sem.run_pure,Result.andThen_ok,List.map_toArray,List.map_cons,List.map_nil,hs,hx,hr];exact this
def RetRow (e size n:Nat) (S:List Value→Prop) (w:World) (en:Ending) (w':World):Prop:=∃v xs,en=.returned v∧w'.ownsRow w.heap.size e size v n xs∧S xs∧Below w.heap.size w w'
theorem zBo {w wr w1:World} {row:Option Nat} (h:Below w.heap.size w wr) (hg:wr.grownBy w1 row) (hr:∀k,row=some k→w.heap.size≤k):Below w.heap.size w w1:=h.grown hg h.size hr
theorem Calls.quiet_same {P:Program} {f:FuncId} {args:Array Value} {w:World} {n:Nat} {v:Value}
 (h:Calls P f args (w.drewN n) fun e w'=> e=.returned v∧w.drewN n=w'):Calls P f args (w.drewN n) fun e w''=> e=.returned v∧∃m,w''=w.drewN m:=
 h.mono fun _ _ ⟨he,hm⟩=> ⟨he,n,hm.symm⟩
theorem IsSl.drewN {w:World} {size:Nat} {v:Value} {n:Nat} {xs:List Value} (h:IsSl w size v n xs) (m:Nat):IsSl (w.drewN m) size v n xs:=h
theorem zDx {α β:Type} (f:α→β) (l:List α) (k:Nat) (x:α) (h:l[k]? =some x):(l.take (k+1)).map f=(l.take k).map f++ [f x]:=by
 obtain ⟨hk,hx⟩:=List.getElem?_eq_some_iff.1 h;rw [List.take_succ_eq_append_getElem hk,List.map_append,hx];rfl
theorem range_succ_map {β:Type} (f:Nat→β) (k:Nat):(List.range (k+1)).map f=(List.range k).map f++ [f k]:=by
 rw [List.range_succ,List.map_append];rfl
theorem zEk {P:Program} {t e:TypeId} {i:TypeInfo} (ht:P.underlying t=some (.slice e)) (hi:P.info? e=some i) (hs:i.size=1)
 {w:World} {B:Nat} {a:Option Addr} {n c:Nat} {xs:List Value} (h:w.ownsRow B e 1 (.slice a n c) n xs) {k:Nat} (hk:k < n):
 ∃g x,(∀w',(Instr.indexAt t (.slice a n c) (.int .i64 k)).run P w'=.ok (.pointer (some ⟨g,k,none⟩)) w')∧B≤g∧g < w.heap.size∧w.cell? ⟨g,k,none⟩=some x∧xs[k]? =some x∧
  w.frozen? ⟨g,k,none⟩=false∧(Value.slice a n c).ownBlock=some g∧
  (∀w':World,w'.ownsRow B e 1 (.slice a n c) n xs→∀u,(w'.setCell ⟨g,k,none⟩ u).ownsRow B e 1 (.slice a n c) n (xs.set k u)∧w'.grownBy (w'.setCell ⟨g,k,none⟩ u) (some g)):=by
 rcases h.2 with ⟨_,h0⟩ | ⟨g,cap,cur,hv,hb,hg,hn,hm,hsz,htk⟩
 · omega
 · cases hv;have hl:k < xs.length:=by rw [h.1];omega
   have aM:=(Array.getElem?_eq_some_iff.1 hg).1;refine ⟨g,xs[k],fun w'=> ?_,hb,aM,?_,by simp [hl],h.frozenAt k,rfl,fun w' hw u=> hw.stored k u⟩
   · have he:P.elem t=e:=by simp [Program.elem,ht]
     rw [run_indexAt_slice w' t _ n c .i64 k (by rw [he];exact ht),if_pos ⟨by omega,by omega⟩,he]
     simp [sizeOf,typeInfo,hi,hs,Result.andThen,Addr.add]
     omega
   · rw [h.cellAt k (by omega)];simp [hl]
section
variable {α β:Type} [BEq β] [LawfulBEq β] {key:α→β} {l m:List α} {k:Nat} {b b2:α}
theorem sameL_no (h1:l[k]? =some b) (h2:m[k]? =some b2) (t:(!(key b==key b2))=true):(l.map key==m.map key)=false:=by
 rw [beq_eq_false_iff_ne];intro e;have:=congrArg (fun x:List β=> x[k]?) e;simp only [List.getElem?_map,h1,h2,Option.map_some,Option.some.injEq] at this;rw [this] at t;simp at t
theorem sameL_step (h:(l.take k).map key=(m.take k).map key) (h1:l[k]? =some b) (h2:m[k]? =some b2) (t:(!(key b==key b2))=false):(l.take (k+1)).map key=(m.take (k+1)).map key:=by
 rw [zDx _ _ _ _ h1,zDx _ _ _ _ h2,h]
 simp at t
 rw [t]
theorem sameL_yes (h:(l.take k).map key=(m.take k).map key) (hk:l.length≤k) (hl:l.length=m.length):(l.map key==m.map key)=true:=by
 rw [List.take_of_length_le hk,List.take_of_length_le (by omega)] at h;rw [h];simp
theorem sameL_len (hl:¬l.length=m.length):(l.map key==m.map key)=false:=by
 rw [beq_eq_false_iff_ne];intro e;exact hl (by simpa using congrArg List.length e)
end
theorem zAf {a b c:World} {row:Option Nat} (h:a.grownBy b row) (k:b.grownBy c row):a.grownBy c row:=
 ⟨k.os.trans h.os,k.tape.trans h.tape,k.output.trans h.output,Nat.le_trans h.size k.size,fun j hj aK=> (k.block j (Nat.lt_of_lt_of_le hj h.size) aK).trans (h.block j hj aK)⟩
theorem own_new {w:World} {base e size n cap:Nat} {xs:List Value} {cur:Array Value} (hb:base≤w.heap.size) (hl:xs.length=n * size) (hn:n≤cap) (hm:cap≤maxLen) (hs:cur.size=cap * size)
 (ht:cur.toList.take (n * size)=xs):(w.alloc (.cells cur e)).ownsRow base e size (.slice (some ⟨w.heap.size,0,none⟩) n cap) n xs:=
 ⟨hl,.inr ⟨w.heap.size,cap,cur,rfl,hb,heap_alloc_new w _,hn,hm,hs,ht⟩⟩
theorem step_append_all {P:Program} {ops:Array Oper} {o:Oper} {a:Act} {w:World} {K:Act→World→Prop} {Q:Exit→Act→World→Prop} {E:Prop}
 (hg:o.guard=none) (s x:Operand) (t:TypeId) (eQ:o.op=Op.call {callee:=Callee.builtin Builtin.append,args:=#[s,x],argTypes:=#[t,t]})
 (e size bytes:Nat) (i:TypeInfo) (z:Value) (ht:P.underlying t=some (.slice e)) (hi:P.info? e=some i) (hz:i.zero=some z)
 (bY:i.size=size) (mW:i.bytes=bytes) (nD:z.cells.size=size) (hsz:0 < size)
 (v2:Value) (m:Nat) (news:List Value) (iG:IsSl w size v2 m news) (hs:a.eval s=.slice none 0 0) (hx:a.eval x=v2) (h1:∀u∈news,u.oneCell'=true)
 (kH:m≤maxLen) (bM:m * bytes≤140737488355328)
 (hK:∀v' w',w'.ownsRow w.heap.size e size v' m news→w.grownBy w' none→K (a.put o.dst v') w'):
 if Region.wanted o (yielded ops a.tmps)=true then Oper.wp P o a w K Q else E:=by
 have hw:Region.wanted o (yielded ops a.tmps)=true:=by simp [Region.wanted,hg]
 rw [if_pos hw];rcases iG.2 with ⟨rfl,rfl⟩ | ⟨g,off,c,rfl,hc,aM,aA⟩
 · have hn:news= []:=List.eq_nil_of_length_eq_zero (by simpa using iG.1);subst hn;have hr:=run_append_owned_none (P:=P) w w.heap.size t o.type e i size ht hi (.slice none 0 0) 0 [] (World.ownsRow_nil _ _ _ _);have:=hK (.slice none 0 0) w (World.ownsRow_nil _ _ _ _) ⟨rfl,rfl,rfl,Nat.le_refl _,fun _ _ _=> rfl⟩;unfold Oper.wp execOp;simp only [eQ,resolve,invoke,builtin,Sem.run_bind,Sem.run_pure,Result.andThen_ok,List.map_toArray,List.map_cons,List.map_nil,hs,hx,hr];exact this
 · obtain ⟨v',w',hr,h2,h3,_,h5⟩:=run_append_own_at (P:=P) w w.heap.size t o.type e i z size bytes ht hi hz bY mW nD hsz (.slice none 0 0) 0 [] (World.ownsRow_nil _ _ _ _) ⟨g,off,none⟩ m c news iG.1
    (fun j u hu=> by
     have hj:j < m * size:=by rw [←iG.1];exact (List.getElem?_eq_some_iff.1 hu).1
     have:(⟨g,off,none⟩:Addr).add j=⟨g,off+j,none⟩:=by unfold Addr.add;split <;> simp_all
     rw [this,aA j hj,hu]) h1 (by omega) (by simpa using bM) (Nat.le_refl _)
   have:=hK v' w' (by simpa using h2) h3;unfold Oper.wp execOp;simp only [eQ,resolve,invoke,builtin,Sem.run_bind,Sem.run_pure,Result.andThen_ok,List.map_toArray,List.map_cons,List.map_nil,hs,hx,hr];exact this
theorem run_append_two {P:Program} (w:World) (base:Nat) (t ty e:TypeId) (i:TypeInfo) (z:Value) (size bytes:Nat) (ht:P.underlying t=some (.slice e)) (hi:P.info? e=some i) (hz:i.zero=some z)
 (bY:i.size=size) (mW:i.bytes=bytes) (nD:z.cells.size=size)
 (v:Value) (n:Nat) (xs:List Value) (aC:w.ownsRow base e size v n xs)
 (a:Addr) (m c:Nat) (news:List Value) (hl:news.length=m * size) (iV:∀j u,news[j]? =some u→w.cell? (a.add j)=some u) (h1:∀u∈news,u.oneCell'=true)
 (hm0:0 < m) (kH:n+m≤maxLen) (bM:(n+m) * bytes≤140737488355328) (gP:base≤w.heap.size):
 ∃g cap w',(Builtin.append_ #[t,t] ty #[v,.slice (some a) m c]).run P w=.ok (.slice (some ⟨g,0,none⟩) (n+m) cap) w'∧
  w'.ownsRow base e size (.slice (some ⟨g,0,none⟩) (n+m) cap) (n+m) (xs++news)∧g < w'.heap.size∧
  ((v.ownBlock=some g∧w.grownBy w' (some g))∨(g=w.heap.size∧w.grownBy w' none)):=by
 subst bY mW
 have hM:(maxLen:Nat)=9223372036854775807:=rfl;have hlen:(xs++news).length=(n+m) * i.size:=by rw [List.length_append,aC.1,hl,Nat.add_mul]
 have fresh:∀old,(w.drew.alloc (.cells (xs.toArray++news.toArray++Builtin.zeroCells z.cells (grownCap w (n+m) old e - (n+m))) e)).ownsRow base e i.size
  (.slice (some ⟨w.heap.size,0,none⟩) (n+m) (grownCap w (n+m) old e)) (n+m) (xs++news):=by
  intro old;have lJ:=grownCap_ge w (n+m) old e;refine own_new (w:=w.drew) gP hlen lJ (grownCap_le_maxLen w _ _ _ kH) ?_ ?_
  · simp only [Array.size_append,List.size_toArray,size_zeroCells,nD,aC.1,hl];rw [←Nat.add_mul,←Nat.add_mul]
    congr 1;omega
  · rw [←hlen];simp only [Array.toList_append];exact List.take_left
 have gr:∀o,w.grownBy (w.drew.alloc o) none:=fun o=> ⟨rfl,rfl,rfl,by simp,fun k hk _=> Below.heap_alloc w.drew o k hk⟩
 have fr:∀o,w.heap.size < (w.drew.alloc o).heap.size:=fun o=> by simp
 rcases aC.2 with ⟨rfl,rfl⟩ | ⟨g,cap,cur,rfl,hbg,hg,hnc,hcm,iK,htk⟩
 · obtain rfl:xs= []:=List.eq_nil_of_length_eq_zero (by simpa using aC.1);have hr:=run_append_nil (P:=P) w t ty e i z ht hi hz a m c news hl iV hm0 (by omega) (by simp only [Nat.zero_add] at bM;omega);have f:=fresh 0;simp only [Nat.zero_add,List.nil_append,List.append_toArray] at f hr⊢;exact ⟨_,_,_,hr,f,fr _,.inr ⟨rfl,gr _⟩⟩
 · by_cases hroom:n+m≤cap
   · obtain ⟨w',hr,h2,h3⟩:=run_append_fits (P:=P) w base t ty e i i.size ht hi rfl g n cap xs aC a m c news hl iV h1 hroom;have aM:g < w'.heap.size:=(h2.lt g rfl).2;exact ⟨g,cap,w',hr,h2,aM,.inl ⟨rfl,h3⟩⟩
   · have hr:=run_append_grow (P:=P) w t ty e i z ht hi hz ⟨g,0,none⟩ n cap xs aC.1 (aC.cells (g:=g) rfl) a m c news hl iV (by omega) (by omega) (growslice_fits (by omega) bM);exact ⟨_,_,_,hr,fresh cap,fr _,.inr ⟨rfl,gr _⟩⟩
theorem zBq {P:Program} {ops:Array Oper} {Q:Exit→Act→World→Prop} {a:Act} {w:World} {rest:List Oper} {o1 o2:Oper}
 (fM:o1.guard=none) (iR:o2.guard=none) (d1:Tmp) (hd1:o1.dst=some d1) (t:TypeId) (s x:Operand)
 (tE:o1.op=.buildSlice t 1 #[(0,x)]) (tD:o2.op=.call {callee:=.builtin .append,args:=#[s,.tmp d1],argTypes:=#[t,t]})
 (base e size bytes:Nat) (i:TypeInfo) (z:Value) (ht:P.underlying t=some (.slice e)) (hi:P.info? e=some i) (hz:i.zero=some z)
 (bY:i.size=size) (mW:i.bytes=bytes) (nD:z.cells.size=size) (hsz:0 < size) (uI:size≤16777216)
 (v:Value) (n:Nat) (xs:List Value) (aC:w.ownsRow base e size v n xs) (gP:base≤w.heap.size)
 (y:Value) (hx:a.eval x=y) (yN:y.cells.size=size) (h1:∀u∈y.cells.toList,u.oneCell'=true)
 (hs:(a.put (some d1) (.slice (some ⟨w.heap.size,0,none⟩) 1 1)).eval s=v)
 (hd:(a.put (some d1) (.slice (some ⟨w.heap.size,0,none⟩) 1 1)).eval (.tmp d1)=.slice (some ⟨w.heap.size,0,none⟩) 1 1)
 (kH:n+1≤maxLen) (bM:(n+1) * bytes≤140737488355328)
 (h:∀g cap w',w'.ownsRow base e size (.slice (some ⟨g,0,none⟩) (n+1) cap) (n+1) (xs++y.cells.toList)→g < w'.heap.size→
  ((v.ownBlock=some g∧w.grownBy w' (some g))∨(w.heap.size≤g∧w.grownBy w' none))→
  wpList P ops Q rest ((a.put (some d1) (.slice (some ⟨w.heap.size,0,none⟩) 1 1)).put o2.dst (.slice (some ⟨g,0,none⟩) (n+1) cap)) w'):wpList P ops Q (o1::o2::rest) a w:=by
 refine wpList_plain fM fun K hK=> ?_
 have nF:=run_buildOne (P:=P) ht hi hz bY hsz uI y yN w;have step:∀ {w':World} {row:Option Nat},(w.alloc (.cells y.cells e)).grownBy w' row→w.grownBy w' row:=fun aF=>
  ⟨aF.os,aF.tape,aF.output,Nat.le_trans (by simp) aF.size,fun k hk aK=> by rw [aF.block k (by simp;omega) aK];exact heap_alloc_old w _ hk⟩
 have key:wpList P ops Q (o2::rest) (a.put (some d1) (.slice (some ⟨w.heap.size,0,none⟩) 1 1)) (w.alloc (.cells y.cells e)):=by
  refine wpList_plain iR fun K hK=> ?_
  obtain ⟨g,cap,w',hr,h2,h3,h4⟩:=run_append_two (P:=P) (w.alloc (.cells y.cells e)) base t o2.type e i z size bytes ht hi hz bY mW nD v n xs (aC.alloc _) ⟨w.heap.size,0,none⟩ 1 1 y.cells.toList (by simpa using yN)
   (World.news_of_block (cs:=y.cells) (t:=e) (fr:=(0,0)) (heap_alloc_new w _)) h1 (by omega) kH bM (by simp;omega)
  have:=hK _ _ (h g cap w' h2 h3 (h4.imp (fun x=> ⟨x.1,step x.2⟩) (fun x=> ⟨by have:=x.1;simp at this;omega,step x.2⟩)));unfold Oper.wp execOp;simp only [tD,resolve,invoke,builtin,Sem.run_bind,Sem.run_pure,Result.andThen_ok,List.map_toArray,List.map_cons,List.map_nil,hs,hd,hr];exact this
 have:=hK _ _ (hd1 ▸ key)
 simpa [Oper.wp,Oper.upon,execOp,tE,hx,nF] using this
end
end Go.Proofs.YtdepiggjneoopaaGreatDoor
