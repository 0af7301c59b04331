/- An evaluator of closed runs, and that it is sound. -/
import Derived.Orders
import Derived.Laws.Sem
import Derived.Below
import Derived.Laws.Append
import Derived.Laws.Entries
import Derived.Laws.Cells
import Derived.WalkSpells
import Derived.Laws.BytesString
import Derived.Laws.Tables
set_option linter.all false
namespace Go.Ev
noncomputable section
inductive T (α:Type) where
 | leaf
 | node (v:Option α) (l r:T α)
inductive Pa where
 | z
 | l (p:Pa)
 | r (p:Pa)
def paF:Nat→Nat→Pa
 | 0,_=> .z
 | d+1,k=> bif Nat.beq k 0 then .z else bif Nat.beq (Nat.mod k 2) 1 then .l (paF d (Nat.div k 2)) else .r (paF d (Nat.sub (Nat.div k 2) 1))
def Ob (k:Nat):Pa:=paF (Nat.succ k) k
def T.getP {α:Type} (p:Pa):T α→Option α:=Pa.rec (motive:=fun _=> T α→Option α)
 (fun t=> T.casesOn (motive:=fun _=> Option α) t none (fun v _ _=> v))
 (fun _ ih t=> T.casesOn (motive:=fun _=> Option α) t none (fun _ l _=> ih l))
 (fun _ ih t=> T.casesOn (motive:=fun _=> Option α) t none (fun _ _ r=> ih r)) p
def T.setP {α:Type} (x:α) (p:Pa):T α→T α:=Pa.rec (motive:=fun _=> T α→T α)
 (fun t=> T.casesOn (motive:=fun _=> T α) t (.node (some x) .leaf .leaf) (fun _ l r=> .node (some x) l r))
 (fun _ ih t=> T.casesOn (motive:=fun _=> T α) t (.node none (ih .leaf) .leaf) (fun v l r=> .node v (ih l) r))
 (fun _ ih t=> T.casesOn (motive:=fun _=> T α) t (.node none .leaf (ih .leaf)) (fun v l r=> .node v l (ih r))) p
def T.get {α:Type} (t:T α) (k:Nat):Option α:=T.getP (Ob k) t
def T.set {α:Type} (t:T α) (k:Nat) (x:α):T α:=T.setP x (Ob k) t
def Ur (a b:Option Bool):Bool:=match a,b with | some x,some y=> x || y | _,_=> false
def T.conf:T Bool→T Bool→Bool
 | .leaf,_=> false
 | .node v l r,t=> match t with
  | .leaf=> false
  | .node v' l' r'=> Ur v v' || T.conf l l' || T.conf r r'
inductive Lg where
 | leaf
 | e (id:Nat) (b:Bool) (l:Lg)
def Mt (b:Bool) (o:Option Bool):Option Bool:=match b with | true=> some true | false=> match o with | some true=> some true | _=> some false
def Lg.get:Lg→Nat→Option Bool
 | .leaf,_=> none
 | .e id b l,k=> bif Nat.beq k id then Mt b (Lg.get l k) else Lg.get l k
def Lg.app:Lg→Lg→Lg
 | .leaf,m=> m
 | .e id b l,m=> .e id b (Lg.app l m)
def Lg.put (id:Nat) (b:Bool) (t:T Bool):T Bool:=
 match b with
 | true=> t.set id true
 | false=> match t.get id with
  | some _=> t
  | none=> t.set id false
def Lg.toT:Lg→T Bool→T Bool
 | .leaf,t=> t
 | .e id b l,t=> Lg.toT l (Lg.put id b t)
def Lg.conf (a b:Lg):Bool:=T.conf (Lg.toT a .leaf) (Lg.toT b .leaf)
inductive Cap where
 | exact (n:Nat)
 | rest (es:Nat)
inductive AC where
 | c (v:Value)
 | p (id off:Nat)
 | s (id off len:Nat) (cap:Cap)
 | m (id:Nat)
 | nan
 | nb
 | z (re im:Option Nat)
 | i (t:TypeId) (id off:Nat)
 | ts (id len:Nat)
 | tp (id k:Nat)
 | un
 | ui (k:IntKind)
 | uf
 | us
 | se (id:Nat)
 | f (fn:Fn) (first caps:List (Nat × Nat))
inductive AU where
 | o (a:AC)
 | g (l:List AC)
inductive AV where
 | u (x:AU)
 | t (l:List AU)
structure AE where
 key:Value
 val:AU
 born:Nat
inductive RK where
 | ro
 | ex
 | op
 | fz
inductive AObj where
 | dead
 | row (ty:TypeId) (cells:List AC) (kd:RK)
 | mp (es:List AE) (clk:Nat)
 | it (s:ByteArray) (pos:Nat)
 | tab (cells:List AC)
inductive S where
 | mk (h:T AObj) (n:Nat) (lg:Lg)
def Hy:AV:=.u (.o (.c (.tuple #[])))
def Gw (v:Value):AU:=
 match v with
 | .agg cs=> .g (cs.toList.map .c)
 | v=> .o (.c v)
def Qy (a:AC):Option Value:=
 match a with
 | .c v=> some v
 | _=> none
def Oy (l:List AC):Option (List Value):=
 match l with
 | []=> some []
 | a::l=> match Qy a with
  | some v=> match Oy l with
   | some vs=> some (v::vs)
   | none=> none
  | none=> none
def Ec (x:AU):Option Value:=
 match x with
 | .o a=> Qy a
 | .g l=> match Oy l with
  | some vs=> some (.agg vs.toArray)
  | none=> none
def Fa (l:List AU):Option (List Value):=
 match l with
 | []=> some []
 | a::l=> match Ec a with
  | some v=> match Fa l with
   | some vs=> some (v::vs)
   | none=> none
  | none=> none
def Bn (x:AU):Option (List AC):=
 match x with
 | .o a=> match a with
  | .c (.agg _)=> none
  | a=> some [a]
 | .g l=> some l
def Ay {α:Type} (P:Program) (s:Sem α):Option α:=
 match s with
 | .pure a=> some a
 | .program k=> Ay P (k P)
 | .mark _ k=> Ay P k
 | _=> none
def Eo {α:Type} (n:Nat) (k:Nat→α):α:=
 match n with
 | 0=> k 0
 | m+1=> k (Nat.succ m)
def Pp {α:Type} (n:Int) (k:Int→α):α:=
 match n with
 | .ofNat a=> Eo a fun a=> k (.ofNat a)
 | .negSucc a=> Eo a fun a=> k (.negSucc a)
def forced {α:Type} (v:Value) (k:Value→α):α:=
 match v with
 | .int i n=> Pp n fun n=> k (.int i n)
 | .float i n=> Eo n fun n=> k (.float i n)
 | .complex i a b=> Eo a fun a=> Eo b fun b=> k (.complex i a b)
 | .bool b=> match b with
  | true=> k (.bool true)
  | false=> k (.bool false)
 | v=> k v
inductive OR where
 | v (x:AV) (s:S)
 | call (f:FuncId) (args:List AU)
 | bad
def OR.u (x:AU) (s:S):OR:=.v (.u x) s
def OR.a (x:AC) (s:S):OR:=.v (.u (.o x)) s
def OR.cv (v:Value) (s:S):OR:=forced v fun v=> .v (.u (Gw v)) s
def Be (s:S) (id:Nat):Option AObj:=match s with | .mk h _ _=> h.get id
def Bx (s:S) (id:Nat):S:=
 match s with
 | .mk h n lg=> .mk h n (.e id false lg)
def Bg (s:S) (id:Nat) (ob:AObj):S:=
 match s with
 | .mk h n lg=> .mk (h.set id ob) n (.e id true lg)
def Ci (s:S) (ob:AObj) (k:Nat→S→OR):OR:=
 match s with
 | .mk h n lg=> match h.get n with
  | some _=> .bad
  | none=> Eo n fun n=> k n (.mk (h.set n ob) (Nat.succ n) (.e n true lg))
abbrev Ext:=FuncId→Option (List Value→Option Value)
structure Kn where
 ext:Ext
 fb:FuncId→Bool
 ff:FuncId→Bool
 gl:Nat→Bool
 h0:Nat→Option AObj
 same:FuncId→Bool
 mkNo:FuncId→Option TypeId
 kn:FuncId→Option (List Value→Option Value)
section
variable (P:Program)
def isAggB (t:TypeId):Bool:=
 match P.underlying t with
 | some (.struct _)=> true
 | some (.array _ _)=> true
 | _=> false
def Bq (t:TypeId):Option Nat:=match P.info? t with | some i=> some i.size | none=> none
def Gx (t:TypeId):Option Value:=match P.info? t with | some i=> i.zero | none=> none
def Hg (l:List AC) (off n:Nat):Option (List AC):=
 let r:=(l.drop off).take n
 bif Nat.beq r.length n then some r else none
def Hf (t:TypeId) (l:List AC) (off:Nat):Option AU:=
 match P.underlying t with
 | none=> none
 | some d=> match d with
  | .struct _ | .array _ _=> match Bq P t with
   | some n=> match Hg l off n with
    | some r=> some (.g r)
    | none=> none
   | none=> none
  | _=> match l.drop off with
   | a::_=> some (.o a)
   | []=> none
def one (a:AC):Bool:=match a with | .c v=> v.oneCell' | _=> true
def Dg (l:List AC) (off:Nat) (xs:List AC):List AC:=l.take off++(xs++l.drop (off+xs.length))
def Du (s:S) (id off:Nat) (xs:List AC) (k:S→OR):OR:=
 match Be s id with
 | some (.row ty cells kd)=> match kd with
  | .ro=> .bad
  | .fz=> .bad
  | kd=> bif Nat.ble (off+xs.length) cells.length && xs.all one then k (Bg s id (.row ty (Dg cells off xs) kd)) else .bad
 | _=> .bad
def evU (E:Kn) (tm:T AV) (x:Operand):Option AU:=
 match x with
 | .tmp t=> match tm.get t with
  | some (.u x)=> some x
  | _=> none
 | .const v=> some (Gw v)
 | .func f=> some (.o (.c (.func (.func f) #[] #[])))
 | .global g=> bif E.gl g then some (.o (.p g 0)) else none
def evL (E:Kn) (tm:T AV) (l:List Operand):Option (List AU):=
 match l with
 | []=> some []
 | x::l=> match evU E tm x with
  | some a=> match evL E tm l with
   | some as=> some (a::as)
   | none=> none
  | none=> none
def Ff (op:BinOp) (eq:Bool) (s:S):OR:=
 match op with
 | .eql=> .cv (.bool eq) s
 | .neq=> .cv (.bool !eq) s
 | _=> .bad
def Fb (op:BinOp) (s:S):OR:=
 match op with
 | .eql | .lss | .leq | .gtr | .geq=> .cv (.bool false) s
 | .neq=> .cv (.bool true) s
 | .add | .sub | .mul | .quo=> .a .nan s
 | _=> .bad
def Bt (d:TypeDesc) (v:Value):Bool:=
 match d,v with
 | .pointer _,.pointer none=> true
 | .slice _,.slice none _ _=> true
 | .map _ _,.map none=> true
 | _,_=> false
def mxK (k:IntKind):Nat:=
 match k with
 | .u8=> 255
 | .u16=> 65535
 | .u32=> 4294967295
 | .u64=> 18446744073709551615
 | .i8=> 127
 | .i16=> 32767
 | .i32=> 2147483647
 | .i64=> 9223372036854775807
def kNo (k:IntKind):Nat:=match k with | .u8=> 0 | .u16=> 1 | .u32=> 2 | .u64=> 3 | .i8=> 4 | .i16=> 5 | .i32=> 6 | .i64=> 7
def Pm (op:BinOp) (k:IntKind) (m n:Nat):Option Value:=
 match op with
 | .add=> bif Nat.ble (Nat.add m n) (mxK k) then some (.int k (.ofNat (Nat.add m n))) else none
 | .sub=> bif Nat.ble n m && Nat.ble m (mxK k) then some (.int k (.ofNat (Nat.sub m n))) else none
 | .mul=> bif Nat.ble (Nat.mul m n) (mxK k) then some (.int k (.ofNat (Nat.mul m n))) else none
 | .lss=> some (.bool (Nat.blt m n))
 | .leq=> some (.bool (Nat.ble m n))
 | .gtr=> some (.bool (Nat.blt n m))
 | .geq=> some (.bool (Nat.ble n m))
 | .eql=> some (.bool (Nat.beq m n))
 | .neq=> some (.bool (Bool.not (Nat.beq m n)))
 | _=> none
def Qw (op:BinOp) (a b:AU):Option Value:=
 match a with
 | .o (.c (.int k (.ofNat m)))=> match b with
  | .o (.c (.int k' (.ofNat n)))=> bif Nat.beq (kNo k) (kNo k') then Pm op k m n else none
  | _=> none
 | _=> none
def Gq (op:BinOp) (xT:TypeId) (x y:Operand) (a b:AU) (s:S):OR:=
 match Ec a,Ec b with
 | some va,some vb=> match Ay P (do eqGuard op xT x y va vb;binOp op xT va vb) with
  | some v=> .cv v s
  | none=> match op,va,vb with
   | .add,.float .f64 _,.float .f64 _=> .a .nan s
   | .sub,.float .f64 _,.float .f64 _=> .a .nan s
   | .mul,.float .f64 _,.float .f64 _=> .a .nan s
   | .quo,.float .f64 _,.float .f64 _=> .a .nan s
   | _,_,_=> .bad
 | _,_=> match a,b with
  | .o .nb,.o (.c (.int .u64 (.ofNat n)))=> bif Nat.beq n 9223372036854775808 then (match op with
   | .xor=> .a .nb s
   | .andNot=> .a .nb s
   | _=> .bad) else .bad
  | .o .nan,.o .nan=> Fb op s
  | .o .nan,.o (.c (.float .f64 _))=> Fb op s
  | .o (.c (.float .f64 _)),.o .nan=> Fb op s
  | .o (.p _ _),.o (.c v)=> match P.underlying xT with
   | some (.pointer e)=> bif Bt (.pointer e) v then Ff op false s else .bad
   | _=> .bad
  | .o (.c v),.o (.p _ _)=> match P.underlying xT with
   | some (.pointer e)=> bif Bt (.pointer e) v then Ff op false s else .bad
   | _=> .bad
  | .o (.s _ _ _ _),.o (.c v)=> match P.underlying xT with
   | some (.slice e)=> bif Bt (.slice e) v then Ff op false s else .bad
   | _=> .bad
  | .o (.m _),.o (.c v)=> match P.underlying xT with
   | some (.map k e)=> bif Bt (.map k e) v then Ff op false s else .bad
   | _=> .bad
  | .o (.p id off),.o (.p id' off')=> match P.underlying xT with
   | some (.pointer e)=> match Bq P e with
    | some n=> bif Nat.blt 0 n && Nat.beq id id' then Ff op (Nat.beq off off') s else .bad
    | none=> .bad
   | _=> .bad
  | .o (.i _ _ _),.o (.c .nilIface)=> match P.underlying xT with
   | some (.interface _)=> Ff op false s
   | _=> .bad
  | _,_=> .bad
def Kx (op:BinOp) (xT:TypeId) (x y:Operand) (a b:AU) (s:S):OR:=
 match Qw op a b with
 | some v=> .cv v s
 | none=> Gq P op xT x y a b s
def Iq (l:List AC):Option (List UInt8):=
 match l with
 | []=> some []
 | .c (.int .u8 n)::l=> match Iq l with
  | some bs=> some (UInt8.ofNat n.toNat::bs)
  | none=> none
 | _=> none
def Ih (src dst:TypeId) (id off:Nat) (s:S):OR:=
 match P.underlying src,P.underlying dst with
 | some (.pointer t),some .unsafePointer=> match Bq P t with
  | some n=> match Be s id with
   | some (.row _ cells _)=> bif Nat.blt 0 n && Nat.blt off cells.length then .a (.p id off) (Bx s id) else .bad
   | _=> .bad
  | none=> .bad
 | some .unsafePointer,some (.pointer u)=> match Be s id with
  | some (.row ty cells .ex)=> match Bq P u with
   | some _=> match liesAt P P.depth ty (cells.length / P.cellsOf ty) off u 1 with
    | true=> .a (.p id off) (Bx s id)
    | false=> .bad
   | none=> .bad
  | _=> .bad
 | _,_=> .bad
def Cv (src dst:TypeId) (a:AU) (s:S):OR:=
 match a with
 | .o (.p id off)=> Ih P src dst id off s
 | .o (.ui _)=> match P.underlying src,P.underlying dst with
  | some _,some (.int k)=> .a (.ui k) s
  | _,_=> .bad
 | .o .us=> match P.underlying src,P.underlying dst with
  | some _,some .string=> .a .us s
  | _,_=> .bad
 | .o (.s id off len _)=> match P.underlying src,P.underlying dst with
  | some (.slice e),some .string=> match P.underlying e with
   | some (.int .u8)=> match Be s id with
    | some (.row _ cells _)=> match Hg cells off len with
     | some r=> match Iq r with
      | some bs=> .cv (.string ⟨bs.toArray⟩) (Bx s id)
      | none=> .bad
     | none=> .bad
    | _=> .bad
   | _=> .bad
  | _,_=> .bad
 | a=> match Ec a with
  | some v=> match Ay P (convert src dst v) with
   | some v=> .cv v s
   | none=> match P.underlying src,P.underlying dst,v with
    | some _,some (.slice e),.string b=> match P.underlying e with
     | some (.int .u8)=> Ci s (.row e (b.data.toList.map fun x=> .c (.int .u8 x.toNat)) .op) fun id s=> .a (.s id 0 b.size (.rest 1)) s
     | _=> .bad
    | _,_,_=> .bad
  | none=> .bad
def Kh (place:Nat→Option (Nat × Nat)) (cells:List AC) (ps:List (Nat × AU)):Option (List AC):=
 match ps with
 | []=> some cells
 | (i,v)::rest=> match place i with
  | none=> none
  | some (off,size)=> match Bn v with
   | some xs=> bif Nat.beq xs.length size && Nat.ble (off+xs.length) cells.length then Kh place (Dg cells off xs) rest else none
   | none=> none
def Fv (E:Kn) (tm:T AV) (l:List (Nat × Operand)):Option (List (Nat × AU)):=
 match l with
 | []=> some []
 | (i,x)::l=> match evU E tm x with
  | some a=> match Fv E tm l with
   | some as=> some ((i,a)::as)
   | none=> none
  | none=> none
def Fo (fields:List Field):Option (List (Nat × Nat)):=
 match fields with
 | []=> some []
 | f::l=> match Bq P f.type with
  | some n=> match Fo l with
   | some r=> some ((f.offset,n)::r)
   | none=> none
  | none=> none
def Ez (t:TypeId) (ps:List (Nat × AU)) (s:S):OR:=
 match Gx P t with
 | none=> .bad
 | some z=> match P.underlying t with
  | some (.struct fields)=> match Fo P fields.toList with
   | some pl=> match Kh (fun i=> pl[i]?) (z.cells.toList.map .c) ps with
    | some cs=> .u (.g cs) s
    | none=> .bad
   | none=> .bad
  | some (.array _ e)=> match Bq P e with
   | some n=> match Kh (fun i=> some (i * n,n)) (z.cells.toList.map .c) ps with
    | some cs=> .u (.g cs) s
    | none=> .bad
   | none=> .bad
  | _=> .bad
def Np (z:List Value) (n:Nat):List AC:=
 match n with
 | 0=> []
 | n+1=> z.map .c++Np z n
def Bu (t:TypeId) (len:Nat) (ps:List (Nat × AU)) (s:S):OR:=
 match P.underlying t with
 | some (.slice e)=> match Bq P e,Gx P e with
  | some n,some z=> bif Nat.ble (len * n) 16777216 && Nat.beq z.cells.size n then match Kh (fun i=> some (i * n,n)) (Np z.cells.toList len) ps with
   | some cs=> Ci s (.row e cs .ex) fun id s=> .a (.s id 0 len (.exact len)) s
   | none=> .bad
   else .bad
  | _,_=> .bad
 | _=> .bad
def Ho (t:TypeId) (id k:Nat) (s:S):OR:=
 match Be s id with
 | some (.tab cells)=> match Hf P t cells k with
  | some x=> .u x (Bx s id)
  | none=> .bad
 | _=> .bad
def Dv (t:TypeId) (a:AU) (s:S):OR:=
 match a with
 | .o (.p id off)=> match Be s id with
  | some (.row _ cells _)=> match Hf P t cells off with
   | some x=> .u x (Bx s id)
   | none=> .bad
  | _=> .bad
 | .o (.tp id k)=> Ho P t id k s
 | _=> .bad
def Es (t:TypeId) (a:AU) (x:AU) (s:S):OR:=
 match a with
 | .o (.p id off)=> match Bq P t with
  | some n=> match Bn x with
   | some xs=> bif Nat.beq xs.length n then Du s id off xs fun s=> .v Hy s else .bad
   | none=> .bad
  | none=> .bad
 | _=> .bad
def Lb (len:Nat) (cap:Cap):Nat:=match cap with | .exact n=> n | .rest _=> len
def Ja (a:Option AU):Option Nat:=
 match a with
 | some (.o (.c (.int _ n)))=> match n with
  | .ofNat n=> some n
  | .negSucc _=> none
 | _=> none
def leA (v:AU) (y:Nat):Option Nat:=
 match Ja (some v) with
 | some n=> bif Nat.ble n y then some n else none
 | none=> none
def Ug (lo:Option AU) (h:Nat):Option Nat:=
 match lo with
 | none=> some 0
 | some v=> leA v h
def Uu (len cap:Nat) (hi:Option AU):Option Nat:=
 match hi with
 | none=> some len
 | some v=> leA v cap
def Jp (len cap:Nat) (lo hi mx:Option AU):Option (Nat × Nat × Nat):=
 match mx with
 | none=> match Uu len cap hi with
  | some h=> match Ug lo h with
   | some l=> some (l,h,cap)
   | none=> none
  | none=> none
 | some v=> match leA v cap with
  | some m=> match hi with
   | some u=> match leA u m with
    | some h=> match Ug lo h with
     | some l=> some (l,h,m)
     | none=> none
    | none=> none
   | none=> none
  | none=> none
def evO? (E:Kn) (tm:T AV) (x:Option Operand):Option (Option AU):=
 match x with
 | none=> some none
 | some x=> match evU E tm x with
  | some a=> some (some a)
  | none=> none
def concO? (a:Option AU):Option (Option Value):=
 match a with
 | none=> some none
 | some a=> match Ec a with
  | some v=> some (some v)
  | none=> none
def Et (t:TypeId) (x:AU) (lo hi mx:Option AU) (s:S):OR:=
 match x with
 | .o (.c v)=> match concO? lo,concO? hi,concO? mx with
  | some l,some h,some m=> match Ay P (Instr.sliceAt t v l h m) with
   | some v=> .cv v s
   | none=> .bad
  | _,_,_=> .bad
 | .o (.s id off len cap)=> match P.underlying t with
  | some (.slice e)=> match Bq P e with
   | some n=> match Jp len (Lb len cap) lo hi mx with
    | some (l,h,m)=> match cap,mx with
     | .exact _,_ | _,some _=> .a (.s id (bif Nat.beq m l then off else off+l * n) (h - l) (.exact (m - l))) s
     | .rest es,none=> bif Nat.beq es n && Nat.blt l len || Nat.beq l 0 then .a (.s id (off+l * n) (h - l) (.rest es)) s else bif Nat.beq (h - l) 0 then .a (.se id) s else .bad
    | none=> .bad
   | none=> .bad
  | _=> .bad
 | .o (.p id off)=> match P.underlying t with
  | some (.array k e)=> match Bq P e with
   | some n=> match Jp k k lo hi mx with
    | some (l,h,m)=> .a (.s id (bif Nat.beq m l then off else off+l * n) (h - l) (.exact (m - l))) s
    | none=> .bad
   | none=> .bad
  | _=> .bad
 | _=> .bad
def Cd (t:TypeId) (x:AU) (i:Nat) (s:S):OR:=
 match P.underlying t with
 | some (.struct fields)=> match fields[i]? with
  | some f=> match Bq P f.type with
   | some 0=> .bad
   | some _=> match x with
    | .o (.p id off)=> .a (.p id (off+f.offset)) s
    | .o (.tp id k)=> .a (.tp id (k+f.offset)) s
    | _=> .bad
   | none=> .bad
  | none=> .bad
 | _=> .bad
def Ey (t:TypeId) (x:AU) (i:Nat) (s:S):OR:=
 match P.underlying t with
 | some (.struct fields)=> match fields[i]? with
  | some f=> match x with
   | .g l=> match Hf P f.type l f.offset with
    | some y=> .u y s
    | none=> .bad
   | _=> .bad
  | none=> .bad
 | _=> .bad
def Cc (t:TypeId) (x ix:AU) (s:S):OR:=
 match Ja (some ix) with
 | some i=> match P.underlying t,x with
  | some (.array len e),.o (.p id off)=> match Bq P e with
   | some n=> bif Nat.blt i len then .a (.p id (off+i * n)) s else .bad
   | none=> .bad
  | some (.slice e),.o (.s id off len _)=> match Bq P e with
   | some n=> bif Nat.blt i len then .a (.p id (off+i * n)) s else .bad
   | none=> .bad
  | some (.slice e),.o (.ts id len)=> match Bq P e with
   | some n=> bif Nat.blt i len then .a (.tp id (i * n)) s else .bad
   | none=> .bad
  | _,_=> .bad
 | none=> .bad
def Ex (t:TypeId) (x ix:AU) (s:S):OR:=
 match x with
 | .g l=> match Ja (some ix),P.underlying t with
  | some i,some (.array len e)=> match Bq P e with
   | some n=> bif Nat.blt i len then match Hf P e l (i * n) with
    | some y=> .u y s
    | none=> .bad
    else .bad
   | none=> .bad
  | _,_=> .bad
 | .o (.c v)=> match Ec ix with
  | some i=> match Ay P (Instr.index t v i) with
   | some v=> .cv v s
   | none=> .bad
  | none=> .bad
 | _=> .bad
def Mf (kind:TypeDesc) (k:Value) (l:List AE) (i:Nat):Option (Option (Nat × AU)):=
 match l with
 | []=> some none
 | e::es=> match Instr.sameNow kind k e.key with
  | some true=> some (some (i,e.val))
  | some false=> Mf kind k es (i+1)
  | none=> none
def Bo (d:TypeDesc):Bool:=match d with | .int _ | .string | .bool=> true | _=> false
def Ga (x:AU) (ok commaOk:Bool) (s:S):OR:=
 bif commaOk then .v (.t [x,.o (.c (.bool ok))]) s else .u x s
def Cu (t:TypeId) (x k:AU) (commaOk:Bool) (s:S):OR:=
 match x,k with
 | .o (.c (.map none)),.o .us=> match P.underlying t with
  | some (.map kt et)=> match P.underlying kt,Gx P et with
   | some .string,some z=> Ga (Gw z) false commaOk s
   | _,_=> .bad
  | _=> .bad
 | _,_=> .bad
def Dj (t:TypeId) (x k:AU) (commaOk:Bool) (s:S):OR:=
 match P.underlying t,Ec k with
 | some (.map kt et),some kv=> match P.underlying kt,Gx P et with
  | some kd,some z=> bif Bo kd then match x with
   | .o (.c (.map none))=> Ga (Gw z) false commaOk s
   | .o (.m id)=> match Be s id with
    | some (.mp es _)=> match Mf kd kv es 0 with
     | some (some (_,v))=> Ga v true commaOk (Bx s id)
     | some none=> Ga (Gw z) false commaOk (Bx s id)
     | none=> .bad
    | _=> .bad
   | _=> .bad
   else .bad
  | _,_=> .bad
 | _,_=> Cu P t x k commaOk s
def Rf (l:List AE) (i:Nat) (v:AU):List AE:=
 match l,i with
 | [],_=> []
 | e::es,0=> {e with val:=v}::es
 | e::es,i+1=> e::Rf es i v
def Ca (t:TypeId) (x k v:AU) (s:S):OR:=
 match P.underlying t,Ec k with
 | some (.map kt _),some kv=> match P.underlying kt with
  | some kd=> bif Bo kd then match x with
   | .o (.m id)=> match Be s id with
    | some (.mp es clk)=> match Mf kd kv es 0 with
     | some (some (i,_))=> .v Hy (Bg s id (.mp (Rf es i v) clk))
     | some none=> .v Hy (Bg s id (.mp (es++ [⟨kv,v,clk⟩]) (clk+1)))
     | none=> .bad
    | _=> .bad
   | _=> .bad
   else .bad
  | none=> .bad
 | _,_=> .bad
def Eu (t:TypeId) (x:AU) (s:S):OR:=
 match P.underlying t,x with
 | some .string,.o (.c (.string b))=> Ci s (.it b 0) fun id s=> .a (.p id 0) s
 | _,_=> .bad
def Gj (x:AU) (isString:Bool) (s:S):OR:=
 match isString,x with
 | true,.o (.p id 0)=> match Be s id with
  | some (.it b pos)=> bif Nat.blt pos b.size then match Utf8.decode b pos with
   | (c,width)=> Eo c fun c=> Eo (pos+width) fun pos'=> .v (.t [.o (.c (.bool true)),.o (.c (goInt pos)),.o (.c (.int .i32 c))]) (Bg s id (.it b pos'))
   else .v (.t [.o (.c (.bool false))]) (Bx s id)
  | _=> .bad
 | _,_=> .bad
def Cb (t:TypeId) (len cap:AU) (s:S):OR:=
 match P.underlying t,Ja (some len),Ja (some cap) with
 | some (.slice e),some l,some c=> match P.info? e with
  | some i=> match i.zero with
   | some z=> bif Nat.ble l c && Nat.ble c 281474976710656 && Nat.ble (i.bytes * c) 281474976710656 && Nat.beq z.cells.size i.size && Nat.ble 1 i.size then
    Ci s (.row e (Np z.cells.toList c) .ex) fun id s=> .a (.s id 0 l (.exact c)) s
    else .bad
   | none=> .bad
  | none=> .bad
 | _,_,_=> .bad
def Dx (es:Nat) (x:AU) (s:S):Option (Nat × List AC × S):=
 match x with
 | .o (.s id off len _)=> match Be s id with
  | some (.row _ cells _)=> match Hg cells off (len * es) with
   | some r=> some (len,r,Bx s id)
   | none=> none
  | _=> none
 | .o (.c (.slice none 0 0))=> some (0, [],s)
 | .o (.se _)=> some (0, [],s)
 | .o (.c (.string b))=> bif Nat.beq es 1 then some (b.size,b.data.toList.map (fun x=> .c (.int .u8 x.toNat)),s) else none
 | _=> none
def Eg (d:TypeDesc):Bool:=match d with | .slice _=> true | .string=> true | _=> false
def isOp (k:RK):Bool:=match k with | .op=> true | _=> false
def Dm (e sz bs n:Nat) (new:List AC) (id off len:Nat) (cap:Cap) (s:S):OR:=
 match Be s id with
 | some (.row ty cells kd)=> match cap with
  | .exact c=> match Nat.ble (len+n) c with
   | true=> Du s id (off+len * sz) new fun s=> .a (.s id off (len+n) (.exact c)) s
   | false=> match Nat.ble ((len+n) * bs) 1000000000 with
    | true=> match Hg cells off (len * sz) with
     | some old=> Ci (Bx s id) (.row e (old++new) .op) fun id s=> .a (.s id 0 (len+n) (.rest sz)) s
     | none=> .bad
    | false=> .bad
  | .rest es=> match Nat.beq es sz with
   | false=> .bad
   | true=> match Nat.ble (off+(len+n) * sz) cells.length with
    | true=> Du s id (off+len * sz) new fun s=> .a (.s id off (len+n) (.rest es)) s
    | false=> match isOp kd && (Nat.beq off 0 && (Nat.beq (len * sz) cells.length && (Nat.beq ty e && Nat.ble ((len+n) * bs) 1000000000))) with
     | true=> Ci (Bg s id .dead) (.row e (cells++new) .op) fun id s=> .a (.s id 0 (len+n) (.rest sz)) s
     | false=> .bad
 | _=> .bad
def Ht (e sz bs n:Nat) (new:List AC) (d:AU) (s:S):OR:=
 match new.all one && Nat.ble (n * bs) 1000000000 with
 | false=> .bad
 | true=> match d with
  | .o (.c (.slice none 0 0))=> match Nat.beq n 0 with
   | true=> .cv (.slice none 0 0) s
   | false=> Ci s (.row e new .op) fun id s=> .a (.s id 0 n (.rest sz)) s
  | .o (.s id off len cap)=> Dm e sz bs n new id off len cap s
  | _=> .bad
def Dk (ts:List TypeId) (args:List AU) (s:S):OR:=
 match ts,args with
 | [t,u], [d,x]=> match P.underlying t,P.underlying u with
  | some (.slice e),some ud=> match P.info? e with
   | some i=> match i.zero with
    | some z=> match Eg ud && (Nat.beq z.cells.size i.size && (Nat.ble 1 i.size && Nat.ble 1 i.bytes)) with
     | true=> match Dx i.size x s with
      | some (n,new,s)=> Ht e i.size i.bytes n new d s
      | none=> .bad
     | false=> .bad
    | none=> .bad
   | none=> .bad
  | _,_=> .bad
 | _,_=> .bad
def Gp (ts:List TypeId) (args:List AU) (s:S):OR:=
 match ts,args with
 | t::_, [d,x]=> match P.underlying t with
  | some (.slice e)=> match Bq P e,d with
   | some es,.o (.s id off len _)=> match Dx es x s with
    | some (n,new,s)=> let k:=Nat.min n len
     Du s id off (new.take (k * es)) fun s=> .cv (goInt k) s
    | none=> .bad
   | _,_=> .bad
  | _=> .bad
 | _,_=> .bad
def Jd (cap?:Bool) (ts:List TypeId) (args:List AU) (type:TypeId) (s:S):OR:=
 match ts,args with
 | t::_, [.o (.s _ _ len cap)]=> match P.underlying t with
  | some (.slice _)=> bif cap? then (match cap with | .exact c=> .cv (goInt c) s | .rest _=> .bad) else .cv (goInt len) s
  | _=> .bad
 | t::_, [.o (.ts _ len)]=> match P.underlying t with
  | some (.slice _)=> bif cap? then .bad else .cv (goInt len) s
  | _=> .bad
 | t::_, [.o (.p _ _)]=> match P.underlying t with
  | some (.pointer arr)=> match P.underlying arr with
   | some (.array n _)=> .cv (goInt n) s
   | _=> .bad
  | _=> .bad
 | t::_, [.o (.m id)]=> match P.underlying t with
  | some (.map _ _)=> bif cap? then .bad else match Be s id with
   | some (.mp es _)=> .cv (goInt es.length) (Bx s id)
   | _=> .bad
  | _=> .bad
 | _, [x]=> match Ec x with
  | some v=> match Ay P (if cap? then Builtin.cap_ ts.toArray type #[v] else Builtin.len_ ts.toArray type #[v]) with
   | some v=> .cv v s
   | none=> .bad
  | none=> .bad
 | _,_=> .bad
def Gi (ts:List TypeId) (args:List AU) (s:S):OR:=
 match ts,args with
 | pt::_, [.o (.p id off),.o (.c (.int .i64 (.ofNat n)))]=> match P.underlying pt with
  | some (.pointer e)=> match Be s id with
   | some (.row ty cells kd)=> match kd with
    | .ro=> .bad
    | kd=> bif Nat.beq off 0 && (Nat.beq ty e && (Nat.beq (P.cellsOf e) 1 && (Nat.blt 0 n && Nat.ble n 9223372036854775807))) then match Hg cells 0 n with
     | some r=> match Iq r with
      | some bs=> .cv (.string ⟨bs.toArray⟩) (Bg s id (.row ty cells .fz))
      | none=> .bad
     | none=> .bad
     else .bad
   | _=> .bad
  | _=> .bad
 | _,_=> .bad
def Er (args:List AU) (s:S):OR:=
 match args with
 | [.o (.s id off len cap)]=> bif Nat.blt 0 len then .a (.p id off) s else (match cap with | .exact c=> bif Nat.blt 0 c then .a (.p id off) s else .bad | .rest _=> .bad)
 | _=> .bad
def He (a:AC):Option (Option Nat):=
 match a with
 | .nan=> some none
 | .c (.float .f64 b)=> some (some b)
 | _=> none
def Gh (x:Option Nat) (s:S):OR:=
 match x with
 | none=> .a .nan s
 | some b=> .a (.c (.float .f64 b)) s
def Cn (b:Builtin) (ts:List TypeId) (consts:List Bool) (args:List AU) (type:TypeId) (s:S):OR:=
 match b with
 | .append=> Dk P ts args s
 | .copy=> Gp P ts args s
 | .len=> Jd P false ts args type s
 | .cap=> Jd P true ts args type s
 | b=> match Fa args with
  | some vs=> match Ay P (builtin b ts.toArray type consts.toArray vs.toArray) with
   | some (.value v)=> .cv v s
   | _=> .bad
  | none=> match b with
   | .unsafeString=> Gi P ts args s
   | .unsafeSliceData=> Er args s
   | .complex=> match args with
    | [.o a,.o b]=> match He a,He b with
     | some x,some y=> .a (.z x y) s
     | _,_=> .bad
    | _=> .bad
   | .real=> match args with
    | [.o (.z x _)]=> Gh x s
    | _=> .bad
   | .imag=> match args with
    | [.o (.z _ y)]=> Gh y s
    | _=> .bad
   | _=> .bad
def Cy (E:Kn) (f:FuncId) (args:List AU) (s:S):OR:=
 match E.ext f with
 | some g=> match Fa args with
  | some vs=> match g vs with
   | some v=> .cv v s
   | none=> .bad
  | none=> match args with
   | [.o .nan]=> bif E.fb f then .a .nb s else .bad
   | [.o .nb]=> bif E.ff f then .a .nan s else .bad
   | [.o (.ui .u64)]=> bif E.ff f then .a .uf s else .bad
   | _=> .bad
 | none=> match E.mkNo f with
  | some e=> (match args with
   | [.o (.c (.int .i64 (.ofNat n)))]=> bif Nat.ble n 1000000000 then Ci s (.row e [] .op) fun id s=> .a (.s id 0 n (.rest 1)) s else .bad
   | _=> .bad)
  | none=> match E.same f with
   | true=> (match args with
    | [x]=> .u x s
    | _=> .bad)
   | false=> match P.funcs[f]? with
    | some fn => bif fn.body.isSome && !(fn.name == "runtime.NumGoroutine") then .call f args else .bad
    | none=> .bad
def Ik (E:Kn) (tm:T AV) (c:Call) (type:TypeId) (s:S):OR:=
 match evL E tm c.args.toList with
 | none=> .bad
 | some args=> match c.callee with
  | .builtin b=> Cn P b c.argTypes.toList (c.args.toList.map fun x=> match x with | .const _=> true | _=> false) args type s
  | .value x=> match evU E tm x with
   | some (.o (.c (.func (.func f) first captured)))=> Cy P E f (first.toList.map Gw++(args++captured.toList.map Gw)) s
   | some (.o (.f (.func f) first caps))=> Cy P E f ((first.map fun x=> .o (.p x.1 x.2))++(args++caps.map fun x=> .o (.p x.1 x.2))) s
   | _=> .bad
  | .invoke _ _=> .bad
def Ri (l:List AU):Option (List (Nat × Nat)):=
 match l with
 | []=> some []
 | .o (.p id off)::l=> match Ri l with
  | some r=> some ((id,off)::r)
  | none=> none
 | _=> none
def Bb (E:Kn) (tm:T AV) (x:Operand) (s:S):OR:=
 match evU E tm x with | some a=> .u a s | none=> (match x with | .tmp t=> (match tm.get t with | some v=> .v v s | none=> .bad) | _=> .bad)
def Am (E:Kn) (tm:T AV) (x:Operand) (s:S):OR:=
 match evU E tm x with | some a=> .u a s | none=> .bad
def Az (E:Kn) (tm:T AV) (c a b:Operand) (s:S):OR:=
 match evU E tm c with
  | some (.o (.c (.bool true)))=> (match evU E tm a with | some a=> .u a s | none=> .bad)
  | some (.o (.c (.bool false)))=> (match evU E tm b with | some a=> .u a s | none=> .bad)
  | _=> .bad
def Aw (t:TypeId) (s:S):OR:=
 match Gx P t with
  | some z=> Ci s (.row t (z.cells.toList.map .c) .ex) fun id s=> .a (.p id 0) s
  | none=> .bad
def Bj (E:Kn) (tm:T AV) (t:TypeId) (x:Operand) (s:S):OR:=
 match evU E tm x with
  | some a=> match Bn a with
   | some xs=> Ci s (.row t xs .ex) fun id s=> .a (.p id 0) s
   | none=> .bad
  | none=> .bad
def Av (E:Kn) (tm:T AV) (t:TypeId) (ps:Array (Nat × Operand)) (s:S):OR:=
 match Fv E tm ps.toList with
  | some l=> Ez P t l s
  | none=> .bad
def Ab (E:Kn) (tm:T AV) (t:TypeId) (n:Nat) (ps:Array (Nat × Operand)) (s:S):OR:=
 match Fv E tm ps.toList with
  | some l=> Bu P t n l s
  | none=> .bad
def Bc (E:Kn) (tm:T AV) (t:TypeId) (a:Operand) (s:S):OR:=
 match evU E tm a with
  | some a=> Dv P t a s
  | none=> .bad
def Ap (E:Kn) (tm:T AV) (t:TypeId) (a x:Operand) (s:S):OR:=
 match evU E tm a,evU E tm x with
  | some a,some x=> Es P t a x s
  | _,_=> .bad
def Ag (E:Kn) (tm:T AV) (x:Operand) (s:S):OR:=
 match evU E tm x with
  | some (.o (.p id off))=> .a (.p id off) s
  | some (.o (.f fn first caps))=> (match fn with | .func _=> .a (.f fn first caps) s | _=> .bad)
  | some (.o (.s id off len cap))=> .a (.s id off len cap) s
  | some (.o (.ts id len))=> .a (.ts id len) s
  | some (.o (.tp id k))=> .a (.tp id k) s
  | some (.o (.c (.func (.func f) a b)))=> .a (.c (.func (.func f) a b)) s
  | _=> .bad
def Bk (E:Kn) (tm:T AV) (op:BinOp) (t:TypeId) (x y:Operand) (s:S):OR:=
 match evU E tm x,evU E tm y with
  | some a,some b=> Kx P op t x y a b s
  | _,_=> .bad
def Cf (E:Kn) (tm:T AV) (op:UnOp) (x:Operand) (s:S):OR:=
 match evU E tm x with
  | some a=> (match Ec a with
   | some v=> (match Ay P (Op.unary op v) with | some v=> .cv v s | none=> .bad)
   | none=> .bad)
  | none=> .bad
def Ak (E:Kn) (tm:T AV) (src dst:TypeId) (x:Operand) (s:S):OR:=
 match evU E tm x with
  | some a=> Cv P src dst a s
  | none=> .bad
def Aa (E:Kn) (tm:T AV) (t:TypeId) (x:Operand) (s:S):OR:=
 (match P.underlying t with
  | none=> .bad
  | some (.interface _)=> .bad
  | some _=> match evU E tm x with
   | some (.o (.p id off))=> .a (.i t id off) s
   | some x=> (match Ec x with | some v=> .a (.c (.iface t v)) s | none=> .bad)
   | none=> .bad)
def Ah (E:Kn) (tm:T AV) (fn:Fn) (first captured:Array Operand) (s:S):OR:=
 match evL E tm first.toList,evL E tm captured.toList with
  | some l,some m=> (match Fa l,Fa m with
   | some vs,some us=> .a (.c (.func fn vs.toArray us.toArray)) s
   | _,_=> (match Ri l,Ri m with | some first,some caps=> .a (.f fn first caps) s | _,_=> .bad))
  | _,_=> .bad
def Ai (E:Kn) (tm:T AV) (t:TypeId) (r:Option Operand) (s:S):OR:=
 match r with
  | none=> Ci s (.mp [] 0) fun id s=> .a (.m id) s
  | some x=> (match Ja (evU E tm x),P.underlying t with
   | some _,some (.map _ _)=> Ci s (.mp [] 0) fun id s=> .a (.m id) s
   | _,_=> .bad)
def Ad (E:Kn) (tm:T AV) (t:TypeId) (l c:Operand) (s:S):OR:=
 match evU E tm l,evU E tm c with
  | some l,some c=> Cb P t l c s
  | _,_=> .bad
def Aq (E:Kn) (tm:T AV) (t:TypeId) (x:Operand) (lo hi mx:Option Operand) (s:S):OR:=
 match evU E tm x,evO? E tm lo,evO? E tm hi,evO? E tm mx with
  | some x,some lo,some hi,some mx=> Et P t x lo hi mx s
  | _,_,_,_=> .bad
def Af (E:Kn) (tm:T AV) (t:TypeId) (x:Operand) (i:Nat) (s:S):OR:=
 match evU E tm x with
  | some x=> Cd P t x i s
  | none=> .bad
def Au (E:Kn) (tm:T AV) (t:TypeId) (x:Operand) (i:Nat) (s:S):OR:=
 match evU E tm x with
  | some x=> Ey P t x i s
  | none=> .bad
def Ae (E:Kn) (tm:T AV) (t:TypeId) (x i:Operand) (s:S):OR:=
 match evU E tm x,evU E tm i with
  | some x,some i=> Cc P t x i s
  | _,_=> .bad
def As (E:Kn) (tm:T AV) (t:TypeId) (x i:Operand) (s:S):OR:=
 match evU E tm x,evU E tm i with
  | some x,some i=> Ex P t x i s
  | _,_=> .bad
def Al (E:Kn) (tm:T AV) (t:TypeId) (x i:Operand) (ok:Bool) (s:S):OR:=
 match evU E tm x,evU E tm i with
  | some x,some i=> Dj P t x i ok s
  | _,_=> .bad
def Ac (E:Kn) (tm:T AV) (t:TypeId) (m k x:Operand) (s:S):OR:=
 match evU E tm m,evU E tm k,evU E tm x with
  | some m,some k,some x=> Ca P t m k x s
  | _,_,_=> .bad
def Ar (E:Kn) (tm:T AV) (t:TypeId) (x:Operand) (s:S):OR:=
 match evU E tm x with
  | some x=> Eu P t x s
  | none=> .bad
def Ba (E:Kn) (tm:T AV) (x:Operand) (isString:Bool) (s:S):OR:=
 match evU E tm x with
  | some x=> Gj x isString s
  | none=> .bad
def Aj (tm:T AV) (x:Operand) (i:Nat) (s:S):OR:=
 (match x with
  | .tmp t=> (match tm.get t with
   | some (.t l)=> (match l[i]? with | some a=> .u a s | none=> .bad)
   | _=> .bad)
  | _=> .bad)
def Nb (E:Kn) (tm:T AV) (o:Oper) (s:S):OR:=
 match o.op with
 | .move x=> Bb E tm x s
 | .assign x=> Am E tm x s
 | .pick c a b=> Az E tm c a b s
 | .alloc t=> Aw P t s
 | .box t x=> Bj E tm t x s
 | .build t ps=> Av P E tm t ps s
 | .buildSlice t n ps=> Ab P E tm t n ps s
 | .load t a=> Bc P E tm t a s
 | .store t a x=> Ap P E tm t a x s
 | .nilCheck x=> Ag E tm x s
 | .binOp op t x y _=> Bk P E tm op t x y s
 | .unOp op _ x=> Cf P E tm op x s
 | .convert src dst x=> Ak P E tm src dst x s
 | .makeInterface t x=> Aa P E tm t x s
 | .makeFunc fn first captured=> Ah E tm fn first captured s
 | .makeMap t r=> Ai P E tm t r s
 | .makeSlice t l c=> Ad P E tm t l c s
 | .slice t x lo hi mx=> Aq P E tm t x lo hi mx s
 | .fieldAddr t x i=> Af P E tm t x i s
 | .field t x i=> Au P E tm t x i s
 | .indexAddr t x i=> Ae P E tm t x i s
 | .index t x i=> As P E tm t x i s
 | .lookup t x i ok=> Al P E tm t x i ok s
 | .mapUpdate t m k x | .insert t m k x=> Ac P E tm t m k x s
 | .range t x=> Ar P E tm t x s
 | .next x isString=> Ba E tm x isString s
 | .extract x i=> Aj tm x i s
 | .call c=> Ik P E tm c o.type s
 | _=> .bad
def St (nt:Nat) (tm:T AV) (dst:Option Tmp) (x:AV):Option (T AV):=
 match dst with
 | none=> some tm
 | some d=> bif Nat.blt d nt && Nat.ble nt 100000 then some (tm.set d x) else none
def Mn (ops:Array Oper) (o:Oper) (tm:T AV):Option Bool:=
 match o.guard with
 | none=> some true
 | some (j,want)=> match (ops[j]?).bind (·.dst) with
  | none=> some false
  | some t=> match tm.get t with
   | some (.u (.o (.c (.bool b))))=> some (b==want)
   | some (.u (.o (.c (.tuple _))))=> some false
   | _=> none
abbrev Co:=FuncId→List AU→S→Option (AV × S)
def opA (E:Kn) (cf:Co) (nt:Nat) (ops:Array Oper) (o:Oper) (tm:T AV) (s:S):Option (T AV × S):=
 match Mn ops o tm with
 | none=> none
 | some false=> match St nt tm o.dst Hy with
  | some tm=> some (tm,s)
  | none=> none
 | some true=> match Nb P E tm o s with
  | .bad=> none
  | .v x s=> match St nt tm o.dst x with
   | some tm=> some (tm,s)
   | none=> none
  | .call f args=> match cf f args s with
   | none=> none
   | some (x,s)=> match St nt tm o.dst x with
    | some tm=> some (tm,s)
    | none=> none
def Oc (E:Kn) (cf:Co) (nt:Nat) (ops:Array Oper) (l:List Oper) (tm:T AV) (s:S):Option (T AV × S):=
 match l with
 | []=> some (tm,s)
 | o::l=> match opA P E cf nt ops o tm s with
  | some (tm,s)=> Oc E cf nt ops l tm s
  | none=> none
def Ox (E:Kn) (cf:Co) (nt:Nat) (ops:Array Oper) (l:List Oper) (tm:T AV) (s:S) (bs:List Lg):Option (T AV × S × List Lg):=
 match l with
 | []=> some (tm,s,bs)
 | o::l=> match s with
  | .mk h n _=> match opA P E cf nt ops o tm (.mk h n .leaf) with
   | some (tm,.mk h n lg)=> Ox E cf nt ops l tm (.mk h n .leaf) (bs++ [lg])
   | none=> none
def Mw (acc:List Nat) (o:Oper):Nat:=
 o.after.toList.foldl (fun s e=> bif Region.binds .any e then s ||| (2 ^ e.on ||| acc.getD e.on 0) else s) 0
def Fp (l:List Oper) (acc:List Nat):List Nat:=
 match l with
 | []=> acc
 | o::l=> Fp l (acc++ [Mw acc o])
def Ck (ops:List Oper):List (Nat × Nat):=
 let b:=Fp ops []
 (List.range ops.length).flatMap fun j=> ((List.range j).filter fun i=> !(b.getD j 0).testBit i).map fun i=> (i,j)
def Ky (ops:Array Oper):Bool:=
 (ops.toList.zipIdx.all fun q=> q.1.after.toList.all fun e=> !Region.binds .any e || Nat.blt e.on q.2) &&
 (Ck ops.toList).all fun q=> (ops.toList.getD q.1 default).apart ops (ops.toList.getD q.2 default)
def Gu (bs:List Lg) (l:List (Nat × Nat)):Bool:=
 match l with
 | []=> true
 | (i,j)::l=> !(Lg.conf (bs.getD i .leaf) (bs.getD j .leaf)) && Gu bs l
def Gb (lg:Lg) (bs:List Lg):Lg:=
 match bs with
 | []=> lg
 | b::bs=> Gb (Lg.app b lg) bs
def Hc (E:Kn) (cf:Co) (nt:Nat) (ops:Array Oper) (draw:Bool) (tm:T AV) (s:S):Option (T AV × S):=
 match draw with
 | false=> Oc P E cf nt ops ops.toList tm s
 | true=> match s with
  | .mk h n lg=> match Ox P E cf nt ops ops.toList tm (.mk h n .leaf) [] with
   | none=> none
   | some (tm,.mk h n _,bs)=> bif Ky ops && Gu bs (Ck ops.toList) then some (tm,.mk h n (Gb lg bs)) else none
inductive ST where
 | go (todo:List Item) (tm:T AV) (s:S)
 | ret (tm:T AV) (s:S)
 | bad
def Iv (E:Kn) (cf:Co) (nt:Nat) (todo:List Item) (tm:T AV) (s:S):ST:=
 match todo with
 | []=> .ret tm s
 | it::k=> match it with
  | .code c=> match c with
   | .ret=> .ret tm s
   | .skip=> .go k tm s
   | .label _=> .go k tm s
   | .seq a b=> .go (.code a::.code b::k) tm s
   | .cond x a b=> match evU E tm x with
    | some (.o (.c (.bool true)))=> .go (.code a::k) tm s
    | some (.o (.c (.bool false)))=> .go (.code b::k) tm s
    | _=> .bad
   | .block id b=> .go (.code b::.inBlock id::k) tm s
   | .loop b=> .go (.code b::.inLoop b::k) tm s
   | .scope b=> .go (.code b::.inScope b::k) tm s
   | .exit id=> match exitTo id k with
    | some k=> .go k tm s
    | none=> .bad
   | .goto l=> match gotoIn l k with
    | some k=> .go k tm s
    | none=> .bad
   | .region _ ops draw=> match Hc P E cf nt ops draw tm s with
    | some (tm,s)=> .go k tm s
    | none=> .bad
   | _=> .bad
  | .inBlock _=> .go k tm s
  | .inScope _=> .go k tm s
  | .inLoop b=> .go (.code b::.inLoop b::k) tm s
  | _=> .bad
def Ia (E:Kn) (cf:Co) (nt:Nat) (k:Nat) (st:ST):ST:=
 match k with
 | 0=> match st with
  | .go todo tm s=> Iv P E cf nt todo tm s
  | st=> st
 | k+1=> match Ia E cf nt k st with
  | .go todo tm s=> Ia E cf nt k (.go todo tm s)
  | st=> st
def Ed (args:List AU) (i:Nat) (tm:T AV):T AV:=
 match args with
 | []=> tm
 | a::l=> Ed l (i+1) (tm.set i (.u a))
def Ln (l:List ResultVar) (tm:T AV) (s:S):Option (List AU × S):=
 match l with
 | []=> some ([],s)
 | r::l=> match r with
  | .tmp t=> match tm.get t with
   | some (.u x)=> match Ln l tm s with
    | some (xs,s)=> some (x::xs,s)
    | none=> none
   | _=> none
  | .cell a t=> match tm.get a with
   | some (.u x)=> match Dv P t x s with
    | .v (.u y) s=> match Ln l tm s with
     | some (xs,s)=> some (y::xs,s)
     | none=> none
    | _=> none
   | _=> none
def Sx (l:List AU):AV:=match l with | [x]=> .u x | l=> .t l
def Vl (v:Value):AV:=match v with | .tuple vs=> .t (vs.toList.map Gw) | v=> .u (Gw v)
def To (E:Kn) (f:FuncId) (args:List AU):Option Value:=
 match E.kn f with
 | none=> none
 | some g=> match Fa args with
  | none=> none
  | some vs=> g vs
def isDef (ops:Array Oper):Bool:=match ops.toList with | [_,o]=> (match o.op with | .defer _=> true | _=> false) | _=> false
def Nn (todo:List Item):Bool:=match todo with | .code (.region _ ops false)::_=> isDef ops | _=> false
def Cx (E:Kn) (cf:Co) (nt:Nat) (n:Nat) (st:ST):ST:=
 match n with
 | 0=> st
 | n+1=> match st with
  | .go todo tm s=> (match Nn todo with | true=> .go todo tm s | false=> Cx E cf nt n (Iv P E cf nt todo tm s))
  | st=> st
def Kz (E:Kn) (cf:Co) (nt:Nat) (ops:Array Oper) (tm:T AV) (s:S):Option (T AV × S × FuncId × List AU):=
 match ops.toList with
 | [o1,o2]=> match o2.op with
  | .defer c=> (match o2.guard,o2.dst,c.callee,c.args.toList with
   | none,none,.value x, []=> (match opA P E cf nt ops o1 tm s with
    | some (tm1,s1)=> (match evU E tm1 x with
     | some (.o (.f (.func f) first caps))=> some (tm1,s1,f,(first.map fun x=> .o (.p x.1 x.2))++caps.map fun x=> .o (.p x.1 x.2))
     | _=> none)
    | none=> none)
   | _,_,_,_=> none)
  | _=> none
 | _=> none
def La (E:Kn) (cf:Co) (K:Nat) (g:FuncId) (args:List AU) (s:S):Option S:=
 match Cy P E g args s with
 | .call _ _=> (match P.funcs[g]? with
  | some gn=> (match gn.body with
   | some c=> bif Nat.ble args.length gn.ntmps && gn.results.isEmpty then
    match Ia P E cf gn.ntmps K (.go [.code c] (Ed args 0 .leaf) s) with
    | .ret _ s=> some s
    | _=> none
    else none
   | none=> none)
  | none=> none)
 | _=> none
def Hw (E:Kn) (cf:Co) (K:Nat) (fn:Func) (st:ST):Option (AV × S):=
 match Cx P E cf fn.ntmps 16 st with
 | .go (.code (.region _ ops false)::k) tm s=> (match Kz P E cf fn.ntmps ops tm s with
  | some (tm1,s1,g,gargs)=> (match Ia P E cf fn.ntmps K (.go k tm1 s1) with
   | .ret tm2 s2=> (match La P E cf K g gargs s2 with
    | some s3=> (match Ln P fn.results.toList tm2 s3 with
     | some (l,s)=> some (Sx l,s)
     | none=> none)
    | none=> none)
   | _=> none)
  | none=> none)
 | _=> none
def Lc (E:Kn) (K:Nat) (d:Nat) (f:FuncId) (args:List AU) (s:S):Option (AV × S):=
 match d with
 | 0=> none
 | d+1=> match To E f args with
  | some v=> some (Vl v,s)
  | none=> match P.funcs[f]? with
   | none=> none
   | some fn=> match fn.body with
    | none=> none
    | some c=> bif Nat.ble args.length fn.ntmps && Nat.ble fn.ntmps 100000 then
     match Ia P E (Lc E K d) fn.ntmps K (.go [.code c] (Ed args 0 .leaf) s) with
     | .ret tm s=> match Ln P fn.results.toList tm s with
      | some (l,s)=> some (Sx l,s)
      | none=> none
     | _=> Hw P E (Lc E K d) K fn (.go [.code c] (Ed args 0 .leaf) s)
     else none
end
end
end Go.Ev
namespace Go.Ev
open Go.RowKit
section
variable {α:Type}
theorem Ta (k:Nat):Nat.mod k 2=k % 2:=rfl
theorem Tu (k:Nat):Nat.div k 2=k / 2:=rfl
theorem Ss (k:Nat):Nat.sub k 1=k - 1:=rfl
theorem Dq {β:Type} (a b:Nat) (x y:β):(bif Nat.beq a b then x else y)=if a=b then x else y:=by
 by_cases h:a=b
 · subst h;simp
 · have h1:Nat.beq a b=false:=by
    cases hb:Nat.beq a b with
    | false=> rfl
    | true=> exact absurd (Nat.eq_of_beq_eq_true hb) h
   simp [h,h1]
theorem Ul {β:Type} (a b:Nat) (x y:β):(bif Nat.ble a b then x else y)=if a≤b then x else y:=by
 by_cases h:a≤b
 · have h1:Nat.ble a b=true:=Nat.ble_eq_true_of_le h
   simp [h,h1]
 · have h1:Nat.ble a b=false:=by
    cases hb:Nat.ble a b with
    | false=> rfl
    | true=> exact absurd (Nat.le_of_ble_eq_true hb) h
   simp [h,h1]
theorem T.getP_leaf:∀p:Pa,T.getP p (T.leaf:T α)=none
 | .z=> rfl
 | .l _=> rfl
 | .r _=> rfl
theorem T.get_leaf (k:Nat):(T.leaf:T α).get k=none:=T.getP_leaf _
def Pa.num:Pa→Nat
 | .z=> 0
 | .l p=> 2 * p.num+1
 | .r p=> 2 * p.num+2
theorem Pa.num_inj:∀ {p q:Pa},p.num=q.num→p=q
 | .z,.z,_=> rfl
 | .l p,.l q,h=> by rw [Pa.num_inj (p:=p) (q:=q) (by simp only [Pa.num] at h;omega)]
 | .r p,.r q,h=> by rw [Pa.num_inj (p:=p) (q:=q) (by simp only [Pa.num] at h;omega)]
 | .z,.l q,h=> by simp only [Pa.num] at h;omega
 | .z,.r q,h=> by simp only [Pa.num] at h;omega
 | .l p,.z,h=> by simp only [Pa.num] at h;omega
 | .r p,.z,h=> by simp only [Pa.num] at h;omega
 | .l p,.r q,h=> by simp only [Pa.num] at h;omega
 | .r p,.l q,h=> by simp only [Pa.num] at h;omega
theorem Jm:∀ (d k:Nat),k < d→(paF d k).num=k
 | 0,k,h=> by omega
 | d+1,k,h=> by
  rw [paF];simp only [Ta,Tu,Ss,Dq]
  by_cases h0:k=0
  · simp [h0,Pa.num]
  · by_cases h1:k % 2=1
    · simp only [h0,h1,if_true,if_false,Pa.num,Jm d (k / 2) (by omega)]
      omega
    · simp only [h0,h1,if_false,Pa.num,Jm d (k / 2 - 1) (by omega)]
      omega
theorem Ka (k:Nat):(Ob k).num=k:=Jm _ _ (by omega)
theorem Sv {d k:Nat} (h:k < d):paF d k=Ob k:=Pa.num_inj (by rw [Jm d k h,Ka])
theorem Rj (k:Nat):Ob k=if k=0 then .z else if k % 2=1 then .l (Ob (k / 2)) else .r (Ob (k / 2 - 1)):=by
 rw [Ob,paF];simp only [Ta,Tu,Ss,Dq]
 by_cases h0:k=0
 · simp [h0]
 · by_cases h1:k % 2=1
   · simp only [h0,h1,if_true,if_false];rw [Sv (by omega)]
   · simp only [h0,h1,if_false];rw [Sv (by omega)]
theorem T.get_node (v:Option α) (l r:T α) (k:Nat):(T.node v l r).get k=if k=0 then v else if k % 2=1 then l.get (k / 2) else r.get (k / 2 - 1):=by
 unfold T.get;rw [Rj k]
 by_cases h0:k=0
 · simp only [h0,if_true];rfl
 · by_cases h1:k % 2=1
   · simp only [h0,h1,if_true,if_false];rfl
   · simp only [h0,h1,if_false];rfl
theorem T.getP_set (x:α):∀ (p q:Pa) (t:T α),T.getP q (T.setP x p t)=if q.num=p.num then some x else T.getP q t
 | .z,.z,t=> by rw [if_pos rfl];cases t <;> rfl
 | .z,.l q,t=> by rw [if_neg (by simp only [Pa.num];omega)];cases t <;> first | rfl | exact T.getP_leaf q
 | .z,.r q,t=> by rw [if_neg (by simp only [Pa.num];omega)];cases t <;> first | rfl | exact T.getP_leaf q
 | .l p,.z,t=> by rw [if_neg (by simp only [Pa.num];omega)];cases t <;> rfl
 | .r p,.z,t=> by rw [if_neg (by simp only [Pa.num];omega)];cases t <;> rfl
 | .l p,.r q,t=> by rw [if_neg (by simp only [Pa.num];omega)];cases t <;> first | rfl | exact T.getP_leaf q
 | .r p,.l q,t=> by rw [if_neg (by simp only [Pa.num];omega)];cases t <;> first | rfl | exact T.getP_leaf q
 | .l p,.l q,t=> by
  have key:∀l:T α,T.getP q (T.setP x p l)=if (Pa.l q).num=(Pa.l p).num then some x else T.getP q l:=fun l=> by
   rw [T.getP_set x p q l]
   by_cases h:q.num=p.num
   · rw [if_pos h,if_pos (by simp only [Pa.num];omega)]
   · rw [if_neg h,if_neg (by simp only [Pa.num];omega)]
  cases t with
  | leaf=> have:=key .leaf;rw [T.getP_leaf q] at this;exact this
  | node v l r=> exact key l
 | .r p,.r q,t=> by
  have key:∀l:T α,T.getP q (T.setP x p l)=if (Pa.r q).num=(Pa.r p).num then some x else T.getP q l:=fun l=> by
   rw [T.getP_set x p q l]
   by_cases h:q.num=p.num
   · rw [if_pos h,if_pos (by simp only [Pa.num];omega)]
   · rw [if_neg h,if_neg (by simp only [Pa.num];omega)]
  cases t with
  | leaf=> have:=key .leaf;rw [T.getP_leaf q] at this;exact this
  | node v l r=> exact key r
theorem T.get_set (t:T α) (k:Nat) (x:α) (j:Nat):(t.set k x).get j=if j=k then some x else t.get j:=by
 unfold T.get T.set;rw [T.getP_set,Ka,Ka]
end
theorem T.conf_spec:∀ (a b:T Bool),T.conf a b=false→∀k x y,a.get k=some x→b.get k=some y→x=false∧y=false
 | .leaf,b,_,k,x,y,ha,_=> by simp [T.get_leaf] at ha
 | .node v l r,.leaf,_,k,x,y,_,hb=> by simp [T.get_leaf] at hb
 | .node v l r,.node v' l' r',h,k,x,y,ha,hb=> by
  rw [T.conf] at h;simp only [Bool.or_eq_false_iff] at h;rw [T.get_node] at ha hb
  by_cases h0:k=0
  · simp only [h0,if_true] at ha hb;subst ha;subst hb
    simpa [Ur] using h.1.1
  · simp only [h0,if_false] at ha hb
    by_cases h1:k % 2=1
    · simp only [h1,if_true] at ha hb;exact T.conf_spec l l' h.1.2 _ x y ha hb
    · simp only [h1,if_false] at ha hb;exact T.conf_spec r r' h.2 _ x y ha hb
theorem Lg.get_e (i:Nat) (b:Bool) (l:Lg) (k:Nat):(Lg.e i b l).get k=if k=i then Mt b (l.get k) else l.get k:=by
 rw [Lg.get,Dq]
theorem Cm (b:Bool) (o:Option Bool):∃c,Mt b o=some c∧(b=true→c=true)∧(o=some true→c=true)∧(c=true→b=true∨o=some true):=by
 cases b with
 | true=> exact ⟨true,rfl,fun _=> rfl,fun _=> rfl,fun _=> .inl rfl⟩
 | false=>
  cases o with
  | none=> exact ⟨false,rfl,(fun e=> by cases e),(fun e=> by cases e),(fun e=> by cases e)⟩
  | some x=> cases x with
   | true=> exact ⟨true,rfl,fun _=> rfl,fun _=> rfl,fun _=> .inr rfl⟩
   | false=> exact ⟨false,rfl,(fun e=> by cases e),(fun e=> by cases e),(fun e=> by cases e)⟩
theorem Lg.get_app:∀ (a b:Lg) (k:Nat),((Lg.app a b).get k=some true ↔ (a.get k=some true∨b.get k=some true))∧((Lg.app a b).get k=none ↔ (a.get k=none∧b.get k=none))
 | .leaf,b,k=> by simp [Lg.app,Lg.get]
 | .e i c l,b,k=> by
  obtain ⟨h1,h2⟩:=Lg.get_app l b k;rw [Lg.app,Lg.get_e,Lg.get_e]
  by_cases e:k=i
  · subst e;rw [if_pos rfl,if_pos rfl];obtain ⟨x,hx,x1,x2,x3⟩:=Cm c (l.get k);obtain ⟨y,hy,y1,y2,y3⟩:=Cm c ((Lg.app l b).get k);rw [hx,hy];refine ⟨?_,by simp⟩
    constructor
    · intro h;have:y=true:=by simpa using h
      rcases y3 this with h | h
      · exact .inl (by rw [x1 h])
      · rcases h1.1 h with h | h
        · exact .inl (by rw [x2 h])
        · exact .inr h
    · rintro (h | h)
      · have:x=true:=by simpa using h
        rcases x3 this with h | h
        · rw [y1 h]
        · rw [y2 (h1.2 (.inl h))]
      · rw [y2 (h1.2 (.inr h))]
  · rw [if_neg e,if_neg e];exact ⟨h1,h2⟩
theorem Lg.get_toT:∀ (l:Lg) (t:T Bool) (k:Nat),((Lg.toT l t).get k=some true ↔ (l.get k=some true∨t.get k=some true))∧((Lg.toT l t).get k=none ↔ (l.get k=none∧t.get k=none))
 | .leaf,t,k=> by simp [Lg.toT,Lg.get]
 | .e i b l,t,k=> by
  rw [Lg.toT];have key:∀t':T Bool,(t'.get k=some true ↔ ((k=i∧b=true)∨t.get k=some true))→(t'.get k=none ↔ (k≠i∧t.get k=none))→
   ((Lg.toT l t').get k=some true ↔ ((Lg.e i b l).get k=some true∨t.get k=some true))∧((Lg.toT l t').get k=none ↔ ((Lg.e i b l).get k=none∧t.get k=none)):=by
   intro t' a1 a2;obtain ⟨h1,h2⟩:=Lg.get_toT l t' k;rw [h1,h2,a1,a2,Lg.get_e]
   by_cases e:k=i
   · subst e;obtain ⟨x,hx,x1,x2,x3⟩:=Cm b (l.get k);rw [if_pos rfl,hx];refine ⟨?_,by simp⟩
     constructor
     · rintro (h | ⟨_,h⟩ | h)
       · exact .inl (by rw [x2 h])
       · exact .inl (by rw [x1 h])
       · exact .inr h
     · rintro (h | h)
       · have:x=true:=by simpa using h
         rcases x3 this with h | h
         · exact .inr (.inl ⟨rfl,h⟩)
         · exact .inl h
       · exact .inr (.inr h)
   · simp [e]
  unfold Lg.put;cases b with
  | true=>
   refine key _ ?_ ?_
   · rw [T.get_set];by_cases e:k=i <;> simp [e]
   · rw [T.get_set];by_cases e:k=i <;> simp [e]
  | false=>
   dsimp only;cases ht:t.get i with
   | some y=>
    refine key _ ?_ ?_
    · simp
    · by_cases e:k=i
      · subst e;simp [ht]
      · simp [e]
   | none=>
    refine key _ ?_ ?_
    · rw [T.get_set];by_cases e:k=i
      · subst e;simp [ht]
      · simp [e]
    · rw [T.get_set];by_cases e:k=i <;> simp [e]
theorem Lg.conf_spec (a b:Lg) (h:Lg.conf a b=false) (k:Nat) (x y:Bool) (ha:a.get k=some x) (hb:b.get k=some y):x=false∧y=false:=by
 have up:∀ (l:Lg) (x:Bool),l.get k=some x→∃x',(Lg.toT l .leaf).get k=some x'∧(x=true→x'=true):=by
  intro l x hl;obtain ⟨h1,h2⟩:=Lg.get_toT l .leaf k;cases hx:(Lg.toT l .leaf).get k with
  | none=> rw [(h2.1 hx).1] at hl;cases hl
  | some x'=>
   refine ⟨x',rfl,fun e=> ?_⟩;subst e;have:=h1.2 (.inl hl);rw [hx] at this
   simpa using this
 obtain ⟨x',hx,ex⟩:=up a x ha;obtain ⟨y',hy,ey⟩:=up b y hb;obtain ⟨e1,e2⟩:=T.conf_spec _ _ h k x' y' hx hy
 constructor
 · cases x with
   | false=> rfl
   | true=> rw [ex rfl] at e1;cases e1
 · cases y with
   | false=> rfl
   | true=> rw [ey rfl] at e2;cases e2
def All2 {α β:Type} (R:α→β→Prop):List α→List β→Prop
 | [], []=> True
 | a::l,b::m=> R a b∧All2 R l m
 | _,_=> False
section
variable {α β:Type} {R:α→β→Prop}
theorem All2.length:∀ {l:List α} {m:List β},All2 R l m→l.length=m.length
 | [], [],_=> rfl
 | a::l,b::m,h=> by simp [All2.length h.2]
theorem All2.mono {R':α→β→Prop} (hr:∀a b,R a b→R' a b):∀ {l:List α} {m:List β},All2 R l m→All2 R' l m
 | [], [],_=> trivial
 | a::l,b::m,h=> ⟨hr _ _ h.1,All2.mono hr h.2⟩
theorem All2.append:∀ {l l':List α} {m m':List β},All2 R l m→All2 R l' m'→All2 R (l++l') (m++m')
 | [],_, [],_,_,h'=> h'
 | a::l,_,b::m,_,h,h'=> ⟨h.1,All2.append h.2 h'⟩
theorem All2.take:∀ (n:Nat) {l:List α} {m:List β},All2 R l m→All2 R (l.take n) (m.take n)
 | 0,_,_,_=> by simp [All2]
 | n+1, [], [],_=> trivial
 | n+1,a::l,b::m,h=> ⟨h.1,All2.take n h.2⟩
theorem All2.drop:∀ (n:Nat) {l:List α} {m:List β},All2 R l m→All2 R (l.drop n) (m.drop n)
 | 0,_,_,h=> h
 | n+1, [], [],_=> trivial
 | n+1,a::l,b::m,h=> All2.drop n h.2
theorem All2.get:∀ {l:List α} {m:List β},All2 R l m→∀ (i:Nat) (a:α),l[i]? =some a→∃b,m[i]? =some b∧R a b
 | a::l,b::m,h,0,x,hx=> by simp at hx;subst hx;exact ⟨b,by simp,h.1⟩
 | a::l,b::m,h,i+1,x,hx=> by simp at hx;simpa using All2.get h.2 i x hx
 | [], [],h,i,x,hx=> by simp at hx
theorem All2.map_left {γ:Type} {R':γ→β→Prop} {f:α→γ} (hf:∀a b,R a b→R' (f a) b):∀ {l:List α} {m:List β},All2 R l m→All2 R' (l.map f) m
 | [], [],_=> trivial
 | a::l,b::m,h=> ⟨hf _ _ h.1,All2.map_left hf h.2⟩
end
theorem All2.self {α:Type} {R:α→α→Prop} (h:∀a,R a a):∀l:List α,All2 R l l
 | []=> trivial
 | a::l=> ⟨h a,All2.self h l⟩
abbrev Env:=Nat→Option (Nat × Nat)
def Hb (ρ:Env):AC→Value→Prop
 | .c v,x=> x=v
 | .p id off,x=> ∃b n,ρ id=some (b,n)∧x=.pointer (some ⟨b,off,none⟩)
 | .s id off len cap,x=> ∃b n c,ρ id=some (b,n)∧x=.slice (some ⟨b,off,none⟩) len c∧(match cap with | .exact m=> c=m | .rest es=> off+c * es=n)∧len≤c
 | .m id,x=> ∃b n,ρ id=some (b,n)∧x=.map (some b)
 | .nan,x=> ∃bits,x=.float .f64 bits∧(FloatKind.f64.format.read bits).isNaN=true∧bits < 18446744073709551616
 | .nb,x=> ∃bits:Nat,x=.int .u64 bits∧(FloatKind.f64.format.read bits).isNaN=true∧bits < 18446744073709551616
 | .z re im,x=> ∃a b,x=.complex .f64 a b∧(∀r,re=some r→a=r)∧(re=none→(FloatKind.f64.format.read a).isNaN=true∧a < 18446744073709551616)∧(∀r,im=some r→b=r)∧(im=none→(FloatKind.f64.format.read b).isNaN=true∧b < 18446744073709551616)
 | .f fn first caps,x=> ∃us vs:List Value,x=.func fn us.toArray vs.toArray∧All2 (fun (q:Nat × Nat) v=> ∃b n,ρ q.1=some (b,n)∧v=Value.pointer (some ⟨b,q.2,none⟩)) first us∧All2 (fun (q:Nat × Nat) v=> ∃b n,ρ q.1=some (b,n)∧v=Value.pointer (some ⟨b,q.2,none⟩)) caps vs
 | .i t id off,x=> ∃b n,ρ id=some (b,n)∧x=.iface t (.pointer (some ⟨b,off,none⟩))
 | .ts id len,x=> ∃b o c,ρ id=some (b,o)∧x=.slice (some ⟨b,o,none⟩) len c
 | .tp id k,x=> ∃b o,ρ id=some (b,o)∧x=.pointer (some ⟨b,o+k,none⟩)
 | .un,x=> x.oneCell'=true
 | .ui k,x=> ∃n:Int,x=.int k n
 | .uf,x=> ∃b:Nat,x=.float .f64 b
 | .us,x=> ∃b,x=.string b
 | .se id,x=> ∃b n o c,ρ id=some (b,n)∧x=.slice (some ⟨b,o,none⟩) 0 c
def Bv (ρ:Env) (l:List AC) (xs:List Value):Prop:=All2 (Hb ρ) l xs
def Ao (ρ:Env):AU→Value→Prop
 | .o a,x=> Hb ρ a x
 | .g l,x=> ∃cs:List Value,x=.agg cs.toArray∧Bv ρ l cs
def Cq (ρ:Env):AV→Value→Prop
 | .u a,x=> Ao ρ a x
 | .t l,x=> ∃vs:List Value,x=.tuple vs.toArray∧All2 (Ao ρ) l vs
def Lo (ρ:Env) (e:AE) (m:MapEntry):Prop:=m.key=e.key∧Ao ρ e.val m.val∧m.born=e.born
def It (ρ:Env) (n:Nat):AObj→Option Obj→Prop
 | .dead,_=> True
 | .row ty cells kd,o=> ∃ (cur:List Value) (fr:Nat × Nat) (ty':TypeId),o=some (.cells cur.toArray ty' fr)∧(kd≠ .ro→ty'=ty)∧(kd≠ .ro→kd≠ .fz→∀i,i < cur.length→¬(fr.1≤i∧i < fr.2))∧cur.length=n∧(kd=.ex→cells.length=n)∧∃rest,∃head,cur=head++rest∧Bv ρ cells head
 | .mp es clk,o=> ∃es':List MapEntry,o=some (.map es'.toArray clk)∧All2 (Lo ρ) es es'
 | .it s pos,o=> o=some (.stringIter s pos)
 | .tab cells,o=> ∃ (pre head rest:List Value) (ty:TypeId) (fr:Nat × Nat),o=some (.cells (pre++(head++rest)).toArray ty fr)∧pre.length=n∧Bv ρ cells head
def AObj.old:AObj→Bool
 | .row _ _ .ro=> true
 | .tab _=> true
 | _=> false
abbrev Heap:=Nat→Option AObj
structure Rel (E:Kn) (B0:Nat) (w0:World) (ρ:Env) (G:Heap) (w:World):Prop where
 below:Below B0 w0 w
 size:B0≤w.heap.size
 real:∀id ob,G id=some ob→ob≠ .dead→∃b n,ρ id=some (b,n)∧(ob.old=true∨B0≤b)∧It ρ n ob w.heap[b]?
 inj:∀i j oi oj b n m,i≠j→G i=some oi→oi≠ .dead→oi.old=false→G j=some oj→oj≠ .dead→ρ i=some (b,n)→ρ j=some (b,m)→False
 dom:∀id p,ρ id=some p→G id≠none
 glob:∀g,E.gl g=true→∃n,ρ g=some (g,n)
 base:∀id ob,E.h0 id=some ob→G id=some ob∧ob.old=true
def S.lg (s:S) (id:Nat):Option Bool:=match s with | .mk _ _ lg=> lg.get id
structure Up (s s':S):Prop where
 lg:∀id b,s.lg id=some b→∃b',s'.lg id=some b'∧(b=true→b'=true)
 same:∀id,s'.lg id≠some true→Be s' id=Be s id
def Agree (s' s:S) (G:Heap):Prop:=∀id,s'.lg id≠none→Be s id=G id
def Env.le (ρ ρ':Env):Prop:=∀id p,ρ id=some p→ρ' id=some p
structure Lift (E:Kn) (B0:Nat) (w0:World) (s s':S) (ρ:Env) (G:Heap) (w:World) (ρ':Env) (G':Heap) (w':World):Prop where
 rel:Rel E B0 w0 ρ' G' w'
 ext:ρ.le ρ'
 agree:Agree s' s' G'
 same:∀id,s'.lg id≠some true→G' id=G id
theorem Env.le_refl (ρ:Env):ρ.le ρ:=fun _ _ h=> h
theorem Env.le_trans {a b c:Env} (h:a.le b) (h':b.le c):a.le c:=fun id p e=> h' id p (h id p e)
theorem Up.refl (s:S):Up s s:=⟨fun _ b h=> ⟨b,h,fun e=> e⟩,fun _ _=> rfl⟩
theorem Up.trans {a b c:S} (h:Up a b) (h':Up b c):Up a c:=by
 refine ⟨fun id x hx=> ?_,fun id hid=> ?_⟩
 · obtain ⟨y,hy,h1⟩:=h.lg id x hx;obtain ⟨z,hz,h2⟩:=h'.lg id y hy;exact ⟨z,hz,fun e=> h2 (h1 e)⟩
 · rw [h'.same id hid];refine h.same id fun e=> hid ?_
   obtain ⟨z,hz,h2⟩:=h'.lg id true e;rw [hz,h2 rfl]
theorem Up.dom {a b:S} (h:Up a b) {id:Nat} (hd:a.lg id≠none):b.lg id≠none:=by
 cases hx:a.lg id with
 | none=> exact absurd hx hd
 | some x=>
  obtain ⟨y,hy,_⟩:=h.lg id x hx;rw [hy];simp
theorem Agree.first {s s1 s2:S} {G:Heap} (h:Agree s2 s G) (u:Up s1 s2):Agree s1 s G:=fun id hd=> h id (u.dom hd)
section
variable {E:Kn} {B0:Nat} {w0:World} {s s1 s2:S} {ρ ρ1 ρ2:Env} {G G1 G2:Heap} {w w1 w2:World}
theorem Lift.agree2 (h:Lift E B0 w0 s s1 ρ G w ρ1 G1 w1) (u:Up s s1) (ha:Agree s2 s G):Agree s2 s1 G1:=by
 intro id hd
 by_cases h1:s1.lg id=none
 · rw [u.same id (by rw [h1];simp),h.same id (by rw [h1];simp)];exact ha id hd
 · exact h.agree id h1
theorem Lift.trans (h:Lift E B0 w0 s s1 ρ G w ρ1 G1 w1) (h':Lift E B0 w0 s1 s2 ρ1 G1 w1 ρ2 G2 w2) (u:Up s1 s2):Lift E B0 w0 s s2 ρ G w ρ2 G2 w2:=by
 refine ⟨h'.rel,Env.le_trans h.ext h'.ext,h'.agree,fun id hid=> ?_⟩;rw [h'.same id hid];refine h.same id fun e=> hid ?_
 obtain ⟨z,hz,h2⟩:=u.lg id true e;rw [hz,h2 rfl]
theorem Lift.refl (h:Rel E B0 w0 ρ G w) (ha:Agree s s G):Lift E B0 w0 s s ρ G w ρ G w:=⟨h,Env.le_refl ρ,ha,fun _ _=> rfl⟩
end
section
variable {ρ ρ':Env}
theorem Ma (h:ρ.le ρ'):∀ {a:AC} {x:Value},Hb ρ a x→Hb ρ' a x
 | .c v,x,hx=> hx
 | .p id off,x,⟨b,n,hb,hx⟩=> ⟨b,n,h _ _ hb,hx⟩
 | .s id off len cap,x,⟨b,n,c,hb,hx⟩=> ⟨b,n,c,h _ _ hb,hx⟩
 | .m id,x,⟨b,n,hb,hx⟩=> ⟨b,n,h _ _ hb,hx⟩
 | .nan,x,hx=> hx
 | .nb,x,hx=> hx
 | .z re im,x,hx=> hx
 | .i t id off,x,⟨b,n,hb,hx⟩=> ⟨b,n,h _ _ hb,hx⟩
 | .ts id len,x,⟨b,o,c,hb,hx⟩=> ⟨b,o,c,h _ _ hb,hx⟩
 | .tp id k,x,⟨b,o,hb,hx⟩=> ⟨b,o,h _ _ hb,hx⟩
 | .un,x,hx=> hx
 | .ui k,x,hx=> hx
 | .uf,x,hx=> hx
 | .us,x,hx=> hx
 | .se id,x,⟨b,n,o,c,hb,hx⟩=> ⟨b,n,o,c,h _ _ hb,hx⟩
 | .f fn first caps,x,⟨us,vs,hx,hu,hv⟩=> ⟨us,vs,hx,All2.mono (fun _ _ ⟨b,n,hb,hx⟩=> ⟨b,n,h _ _ hb,hx⟩) hu,All2.mono (fun _ _ ⟨b,n,hb,hx⟩=> ⟨b,n,h _ _ hb,hx⟩) hv⟩
theorem Dy (h:ρ.le ρ') {l:List AC} {xs:List Value} (hl:Bv ρ l xs):Bv ρ' l xs:=All2.mono (fun _ _=> Ma h) hl
theorem Ic (h:ρ.le ρ'):∀ {a:AU} {x:Value},Ao ρ a x→Ao ρ' a x
 | .o a,x,hx=> Ma (ρ:=ρ) h hx
 | .g l,x,⟨cs,hx,hl⟩=> ⟨cs,hx,Dy h hl⟩
theorem Jx (h:ρ.le ρ') {l:List AU} {xs:List Value} (hl:All2 (Ao ρ) l xs):All2 (Ao ρ') l xs:=All2.mono (fun _ _=> Ic h) hl
theorem Lz (h:ρ.le ρ'):∀ {a:AV} {x:Value},Cq ρ a x→Cq ρ' a x
 | .u a,x,hx=> Ic (ρ:=ρ) h hx
 | .t l,x,⟨vs,hx,hl⟩=> ⟨vs,hx,Jx h hl⟩
theorem Rh (h:ρ.le ρ') {e:AE} {m:MapEntry} (he:Lo ρ e m):Lo ρ' e m:=⟨he.1,Ic h he.2.1,he.2.2⟩
theorem Ml (h:ρ.le ρ') {n:Nat}:∀ {ob:AObj} {o:Option Obj},It ρ n ob o→It ρ' n ob o
 | .dead,_,_=> trivial
 | .row ..,_,⟨cur,fr,ty',h0,h1,h2,h3,h4,rest,head,h5,h6⟩=> ⟨cur,fr,ty',h0,h1,h2,h3,h4,rest,head,h5,Dy h h6⟩
 | .mp ..,_,⟨es',h1,h2⟩=> ⟨es',h1,All2.mono (fun _ _=> Rh h) h2⟩
 | .it ..,_,h1=> h1
 | .tab _,_,⟨pre,head,rest,ty,fr,h1,h2,h3⟩=> ⟨pre,head,rest,ty,fr,h1,h2,Dy h h3⟩
end
section
variable {E:Kn} {B0:Nat} {w0:World} {ρ:Env} {G:Heap} {w w':World}
def Heap.put (G:Heap) (id:Nat) (ob:AObj):Heap:=fun i=> if i=id then some ob else G i
def Env.put (ρ:Env) (id:Nat) (p:Nat × Nat):Env:=fun i=> if i=id then some p else ρ i
theorem Env.le_put {id:Nat} (p:Nat × Nat) (h:ρ id=none):ρ.le (ρ.put id p):=fun i q hq=> by
 unfold Env.put
 by_cases hi:i=id
 · subst hi;rw [h] at hq;cases hq
 · simp [hi,hq]
theorem Pk {n:Nat} {ob:AObj} {o:Option Obj} (hd:ob≠ .dead) (h:It ρ n ob o):∃x,o=some x:=by
 cases ob with
 | dead=> exact absurd rfl hd
 | row=> obtain ⟨cur,fr,ty',h1,_⟩:=h;exact ⟨_,h1⟩
 | mp=> obtain ⟨es,h1,_⟩:=h;exact ⟨_,h1⟩
 | it=> exact ⟨_,h⟩
 | tab=> obtain ⟨_,_,_,_,_,h1,_⟩:=h;exact ⟨_,h1⟩
theorem Rel.lt (h:Rel E B0 w0 ρ G w) {id b n:Nat} {ob:AObj} (hG:G id=some ob) (hd:ob≠ .dead) (hr:ρ id=some (b,n)):b < w.heap.size:=by
 obtain ⟨b',n',hr',_,hR⟩:=h.real id ob hG hd;rw [hr] at hr';cases hr';obtain ⟨x,hx⟩:=Pk hd hR;exact (Array.getElem?_eq_some_iff.1 hx).1
theorem Rel.world (h:Rel E B0 w0 ρ G w) (hb:Below w.heap.size w w'):Rel E B0 w0 ρ G w':=by
 refine ⟨h.below.trans (hb.mono h.size),Nat.le_trans h.size hb.size,fun id ob hG hd=> ?_,h.inj,h.dom,h.glob,h.base⟩;obtain ⟨b,n,h1,h2,h3⟩:=h.real id ob hG hd;exact ⟨b,n,h1,h2,by rw [hb.block b (h.lt hG hd h1)];exact h3⟩
theorem Rel.new (h:Rel E B0 w0 ρ G w) (hb:Below w.heap.size w w') {id b n:Nat} {ob:AObj} (hG:G id=none) (hbl:w.heap.size≤b) (hR:It (ρ.put id (b,n)) n ob w'.heap[b]?):Rel E B0 w0 (ρ.put id (b,n)) (G.put id ob) w':=by
 have hn:ρ id=none:=by
  cases hx:ρ id with
  | none=> rfl
  | some p=> exact absurd hG (h.dom id p hx)
 have hle:=Env.le_put (b,n) hn;refine ⟨h.below.trans (hb.mono h.size),Nat.le_trans h.size hb.size,fun i o hi hd=> ?_,?_,fun i p hp=> ?_,fun g hg=> ?_,fun i o hi=> ?_⟩
 · unfold Heap.put at hi
   by_cases e:i=id
   · subst e
     simp at hi
     subst hi;exact ⟨b,n,by simp [Env.put],.inr (Nat.le_trans h.size hbl),hR⟩
   · simp [e] at hi
     obtain ⟨b',n',h1,h2,h3⟩:=h.real i o hi hd;exact ⟨b',n',hle _ _ h1,h2,by rw [hb.block b' (h.lt hi hd h1)];exact Ml hle h3⟩
 · intro i j oi oj c m m' hij hi hdi hoi hj hdj hri hrj;unfold Heap.put at hi hj;unfold Env.put at hri hrj
   by_cases ei:i=id
   · by_cases ej:j=id
     · exact hij (ei.trans ej.symm)
     · simp [ei,ej] at hi hj hri hrj
       have:=h.lt hj hdj hrj
       omega
   · by_cases ej:j=id
     · simp [ei,ej] at hi hj hri hrj
       have:=h.lt hi hdi hri
       omega
     · simp [ei,ej] at hi hj hri hrj
       exact h.inj i j oi oj c m m' hij hi hdi hoi hj hdj hri hrj
 · unfold Env.put at hp;unfold Heap.put
   by_cases e:i=id
   · simp [e]
   · simp [e] at hp⊢
     exact h.dom i p hp
 · obtain ⟨m,hm⟩:=h.glob g hg;exact ⟨m,hle _ _ hm⟩
 · obtain ⟨h1,h2⟩:=h.base i o hi;refine ⟨?_,h2⟩;unfold Heap.put
   by_cases e:i=id
   · subst e;rw [hG] at h1;cases h1
   · simp [e];exact h1
theorem Rel.set (h:Rel E B0 w0 ρ G w) {id b n:Nat} {ob ob':AObj} (hG:G id=some ob) (hd:ob≠ .dead) (ho:ob.old=false) (hr:ρ id=some (b,n)) (hB:B0≤b)
 (hb:Below B0 w w') (hblk:∀k,k < w.heap.size→k≠b→w'.heap[k]? =w.heap[k]?) (hR:ob'≠ .dead→It ρ n ob' w'.heap[b]?):Rel E B0 w0 ρ (G.put id ob') w':=by
 refine ⟨h.below.trans hb,Nat.le_trans h.size hb.size,fun i o hi hdo=> ?_,?_,fun i p hp=> ?_,h.glob,fun i o hi=> ?_⟩
 · unfold Heap.put at hi
   by_cases e:i=id
   · subst e
     simp at hi
     subst hi;exact ⟨b,n,hr,.inr hB,hR hdo⟩
   · simp [e] at hi
     obtain ⟨b',n',h1,h2,h3⟩:=h.real i o hi hdo;refine ⟨b',n',h1,h2,?_⟩;rw [hblk b' (h.lt hi hdo h1) fun eb=> h.inj id i ob o b' n n' (fun e2=> e e2.symm) hG hd ho hi hdo (eb ▸ hr) h1];exact h3
 · intro i j oi oj c m m' hij hi hdi hoi hj hdj hri hrj;unfold Heap.put at hi hj
   by_cases ei:i=id
   · by_cases ej:j=id
     · exact hij (ei.trans ej.symm)
     · simp [ei,ej] at hi hj
       subst ei;exact h.inj i j ob oj c m m' hij hG hd ho hj hdj hri hrj
   · by_cases ej:j=id
     · simp [ei,ej] at hi hj
       subst ej;exact h.inj i j oi ob c m m' hij hi hdi hoi hG hd hri hrj
     · simp [ei,ej] at hi hj
       exact h.inj i j oi oj c m m' hij hi hdi hoi hj hdj hri hrj
 · unfold Heap.put
   by_cases e:i=id
   · simp [e]
   · simp [e];exact h.dom i p hp
 · obtain ⟨h1,h2⟩:=h.base i o hi;refine ⟨?_,h2⟩;unfold Heap.put
   by_cases e:i=id
   · subst e;rw [hG] at h1;cases h1;rw [ho] at h2;cases h2
   · simp [e];exact h1
theorem Rel.hand (h:Rel E B0 w0 ρ G w) {id id' b n:Nat} {ob ob':AObj} (hG:G id=some ob) (hd:ob≠ .dead) (ho:ob.old=false) (hr:ρ id=some (b,n)) (hB:B0≤b) (hG':G id'=none)
 (hb:Below B0 w w') (hblk:∀k,k < w.heap.size→k≠b→w'.heap[k]? =w.heap[k]?) (hR:It (ρ.put id' (b,n)) n ob' w'.heap[b]?):Rel E B0 w0 (ρ.put id' (b,n)) ((G.put id .dead).put id' ob') w':=by
 have hne:id≠id':=fun e=> by subst e;rw [hG] at hG';cases hG'
 have hn:ρ id'=none:=by
  cases hx:ρ id' with
  | none=> rfl
  | some p=> exact absurd hG' (h.dom id' p hx)
 have hle:=Env.le_put (b,n) hn;have h1:=h.set (ob':=.dead) hG hd ho hr hB hb hblk (fun e=> absurd rfl e);refine ⟨h1.below,h1.size,fun i o hi hdo=> ?_,?_,fun i p hp=> ?_,fun g hg=> ?_,fun i o hi=> ?_⟩
 · unfold Heap.put at hi
   by_cases e:i=id'
   · subst e
     simp at hi
     subst hi;exact ⟨b,n,by simp [Env.put],.inr hB,hR⟩
   · simp [e] at hi
     obtain ⟨b',n',h2,h3,h4⟩:=h1.real i o (by unfold Heap.put;exact hi) hdo;exact ⟨b',n',hle _ _ h2,h3,Ml hle h4⟩
 · intro i j oi oj c m m' hij hi hdi hoi hj hdj hri hrj;have key:∀i oi m,i≠id'→((G.put id .dead).put id' ob') i=some oi→oi≠ .dead→(ρ.put id' (b,n)) i=some (c,m)→G i=some oi∧i≠id∧ρ i=some (c,m):=by
    intro i oi m hi' hi hdi hri;unfold Heap.put at hi;unfold Env.put at hri
    simp [hi'] at hi hri
    by_cases ei:i=id
    · simp [ei] at hi;exact absurd hi.symm hdi
    · simp [ei] at hi;exact ⟨hi,ei,hri⟩
   by_cases ei:i=id'
   · by_cases ej:j=id'
     · exact hij (ei.trans ej.symm)
     · obtain ⟨k1,k2,k3⟩:=key j oj m' ej hj hdj hrj;have:c=b:=by subst ei;simp [Env.put] at hri;exact hri.1.symm
       subst this;exact h.inj id j ob oj c n m' (fun e=> k2 e.symm) hG hd ho k1 hdj hr k3
   · obtain ⟨k1,k2,k3⟩:=key i oi m ei hi hdi hri
     by_cases ej:j=id'
     · have:c=b:=by subst ej;simp [Env.put] at hrj;exact hrj.1.symm
       subst this;exact h.inj id i ob oi c n m (fun e=> k2 e.symm) hG hd ho k1 hdi hr k3
     · obtain ⟨l1,l2,l3⟩:=key j oj m' ej hj hdj hrj;exact h.inj i j oi oj c m m' hij k1 hdi hoi l1 hdj k3 l3
 · unfold Env.put at hp;unfold Heap.put
   by_cases e:i=id'
   · simp [e]
   · simp [e] at hp⊢
     split
     · simp
     · exact h.dom i p hp
 · obtain ⟨m,hm⟩:=h.glob g hg;exact ⟨m,hle _ _ hm⟩
 · obtain ⟨h2,h3⟩:=h1.base i o hi;refine ⟨?_,h3⟩;unfold Heap.put
   by_cases e:i=id'
   · subst e;obtain ⟨h4,_⟩:=h.base i o hi;rw [hG'] at h4;cases h4
   · simp [e];unfold Heap.put at h2;exact h2
end
end Go.Ev
namespace Go.Ev
open Go.RowKit
theorem Ct {α:Type} (n:Nat) (k:Nat→α):Eo n k=k n:=by cases n <;> rfl
theorem Rt {α:Type} (n:Int) (k:Int→α):Pp n k=k n:=by cases n <;> simp [Pp,Ct]
theorem Rs {α:Type} (v:Value) (k:Value→α):forced v k=k v:=by
 cases v <;> simp [forced,Ct,Rt];rename_i b;cases b <;> rfl
theorem Bz (v:Value) (s:S):OR.cv v s=.v (.u (Gw v)) s:=by simp [OR.cv,Rs]
theorem Tn (h:T AObj) (n:Nat) (i:Nat) (b:Bool) (lg:Lg) (id:Nat):(S.mk h n (.e i b lg)).lg id=if id=i then Mt b (lg.get id) else lg.get id:=Lg.get_e i b lg id
theorem Sq (h h':T AObj) (n n':Nat) (i:Nat) (b:Bool) (lg:Lg) (hh:∀j,(j=i→b=false)→h'.get j=h.get j):Up (.mk h n lg) (.mk h' n' (.e i b lg)):=by
 refine ⟨fun id c hc=> ?_,fun id hid=> ?_⟩
 · have hc:lg.get id=some c:=hc;rw [Tn]
   split
   · obtain ⟨x,hx,_,x2,_⟩:=Cm b (lg.get id);exact ⟨x,hx,fun e=> x2 (by rw [hc,e])⟩
   · exact ⟨c,hc,fun e=> e⟩
 · rw [Tn] at hid;refine hh id fun e=> ?_
   subst e;rw [if_pos rfl] at hid;obtain ⟨x,hx,x1,_,_⟩:=Cm b (lg.get id);rw [hx] at hid;cases b with
   | false=> rfl
   | true=> exact absurd (by rw [x1 rfl]) hid
theorem Fj (s:S) (id:Nat):Up s (Bx s id):=by
 cases s with
 | mk h n lg=> exact Sq h h n n id false lg fun _ _=> rfl
theorem Hx (s:S) (id:Nat) (ob:AObj):Up s (Bg s id ob):=by
 cases s with
 | mk h n lg=> exact Sq h _ n n id true lg fun j hj=> by rw [T.get_set];rw [if_neg fun e=> by cases hj e]
theorem Sr (s:S) (id i:Nat):Be (Bx s id) i=Be s i:=by
 cases s with
 | mk h n lg=> rfl
theorem Gy (s:S) (id:Nat):(Bx s id).lg id≠none:=by
 cases s with
 | mk h n lg=>
  unfold Bx;rw [Tn,if_pos rfl];obtain ⟨x,hx,_⟩:=Cm false (lg.get id);rw [hx];simp
theorem Di (s:S) (id:Nat) (ob:AObj):(Bg s id ob).lg id=some true:=by
 cases s with
 | mk h n lg=>
  unfold Bg;rw [Tn,if_pos rfl];rfl
theorem Ms (s:S) (id:Nat) (ob:AObj) (i:Nat):Be (Bg s id ob) i=if i=id then some ob else Be s i:=by
 cases s with
 | mk h n lg=> simp [Be,Bg,T.get_set]
noncomputable def Ax (s:S) (ob:AObj):Nat × S:=match s with | .mk h n lg=> (n,.mk (h.set n ob) (Nat.succ n) (.e n true lg))
theorem Cj {s:S} {ob:AObj} {k:Nat→S→OR} {x:AV} {s':S} (h:Ci s ob k=.v x s'):
 Be s (Ax s ob).1=none∧k (Ax s ob).1 (Ax s ob).2=.v x s':=by
 cases s with
 | mk t n lg=>
  unfold Ci at h;dsimp only at h
  split at h
  · cases h
  · rename_i hn;rw [Ct] at h;exact ⟨hn,h⟩
theorem Kd {s:S} {ob:AObj} {k:Nat→S→OR} {f:FuncId} {args:List AU} (h:Ci s ob k=.call f args):
 k (Ax s ob).1 (Ax s ob).2=.call f args:=by
 cases s with
 | mk t n lg=>
  unfold Ci at h;dsimp only at h
  split at h
  · cases h
  · rw [Ct] at h;exact h
theorem Fk (s:S) (ob:AObj):Up s (Ax s ob).2:=by
 cases s with
 | mk h n lg=> exact Sq h _ n _ n true lg fun j hj=> by rw [T.get_set];rw [if_neg fun e=> by cases hj e]
theorem Lj (s:S) (ob:AObj):(Ax s ob).2.lg (Ax s ob).1=some true:=by
 cases s with
 | mk h n lg=>
  unfold Ax;dsimp only;rw [Tn,if_pos rfl];rfl
theorem Tx (s:S) (ob:AObj) (i:Nat):Be (Ax s ob).2 i=if i=(Ax s ob).1 then some ob else Be s i:=by
 cases s with
 | mk h n lg=> exact T.get_set h n ob i
section
variable {E:Kn} {B0:Nat} {w0:World} {s:S} {ρ:Env} {G:Heap} {w w':World}
theorem En (h:Rel E B0 w0 ρ G w) {id:Nat} (ha:Agree (Bx s id) s G):Lift E B0 w0 s (Bx s id) ρ G w ρ G w:=
 ⟨h,Env.le_refl ρ,fun i hi=> by rw [Sr];exact ha i hi,fun _ _=> rfl⟩
theorem Of {id b n:Nat} {ob:AObj} (h:Rel E B0 w0 ρ G w) (hb:Below w.heap.size w w') (hn:Be s (Ax s ob).1=none) (ha:Agree (Ax s ob).2 s G) (hid:(Ax s ob).1=id)
 (hbl:w.heap.size≤b) (hR:It (ρ.put id (b,n)) n ob w'.heap[b]?):Lift E B0 w0 s (Ax s ob).2 ρ G w (ρ.put id (b,n)) (G.put id ob) w':=by
 subst hid;have hG:G (Ax s ob).1=none:=by rw [←ha _ (by rw [Lj];simp)];exact hn
 have hr:ρ (Ax s ob).1=none:=by
  cases hx:ρ (Ax s ob).1 with
  | none=> rfl
  | some p=> exact absurd hG (h.dom _ p hx)
 refine ⟨h.new hb hG hbl hR,Env.le_put _ hr,fun i hi=> ?_,fun i hi=> ?_⟩
 · rw [Tx];unfold Heap.put
   by_cases e:i=(Ax s ob).1
   · simp [e]
   · simp [e];exact ha i hi
 · unfold Heap.put
   by_cases e:i=(Ax s ob).1
   · rw [e,Lj] at hi;exact absurd rfl hi
   · simp [e]
theorem Ea {id b n:Nat} {ob ob':AObj} (h:Rel E B0 w0 ρ G w) (hG:G id=some ob) (hd:ob≠ .dead) (ho:ob.old=false) (hr:ρ id=some (b,n)) (hB:B0≤b) (ha:Agree (Bg s id ob') s G)
 (hb:Below B0 w w') (hblk:∀k,k < w.heap.size→k≠b→w'.heap[k]? =w.heap[k]?) (hR:ob'≠ .dead→It ρ n ob' w'.heap[b]?):Lift E B0 w0 s (Bg s id ob') ρ G w ρ (G.put id ob') w':=by
 refine ⟨h.set hG hd ho hr hB hb hblk hR,Env.le_refl ρ,fun i hi=> ?_,fun i hi=> ?_⟩
 · rw [Ms];unfold Heap.put
   by_cases e:i=id
   · simp [e]
   · simp [e];exact ha i hi
 · unfold Heap.put
   by_cases e:i=id
   · rw [e,Di] at hi;exact absurd rfl hi
   · simp [e]
end
theorem Bm (ρ:Env) (v:Value):Ao ρ (Gw v) v:=by
 cases v
 case agg cs=> exact ⟨cs.toList,by simp,All2.map_left (R:=fun a b=> b=a) (fun a b h=> h) (All2.self (R:=fun a b=> b=a) (fun _=> rfl) _)⟩
 all_goals exact rfl
theorem Mi {ρ:Env} {a:AC} {v x:Value} (h:Qy a=some v) (hr:Hb ρ a x):x=v:=by
 cases a <;> simp [Qy] at h;subst h;exact hr
theorem Mh {ρ:Env}:∀ {l:List AC} {vs xs:List Value},Oy l=some vs→Bv ρ l xs→xs=vs
 | [],vs, [],h,_=> by simp [Oy] at h;exact h.symm
 | [],vs,x::xs,h,hr=> hr.elim
 | a::l,vs, [],h,hr=> hr.elim
 | a::l,vs,x::xs,h,hr=> by
  unfold Oy at h
  split at h
  · rename_i v hv
    split at h
    · rename_i vs' hvs;cases h;rw [Mi hv hr.1,Mh hvs hr.2]
    · cases h
  · cases h
theorem Bp {ρ:Env} {a:AU} {v x:Value} (h:Ec a=some v) (hr:Ao ρ a x):x=v:=by
 cases a with
 | o a=> exact Mi (ρ:=ρ) h hr
 | g l=>
  unfold Ec at h;dsimp only at h
  split at h
  · rename_i vs hvs;cases h;obtain ⟨cs,rfl,hl⟩:=hr;rw [Mh hvs hl]
  · cases h
theorem Cw {ρ:Env}:∀ {l:List AU} {vs xs:List Value},Fa l=some vs→All2 (Ao ρ) l xs→xs=vs
 | [],vs, [],h,_=> by simp [Fa] at h;exact h.symm
 | [],vs,x::xs,h,hr=> hr.elim
 | a::l,vs, [],h,hr=> hr.elim
 | a::l,vs,x::xs,h,hr=> by
  unfold Fa at h
  split at h
  · rename_i v hv
    split at h
    · rename_i vs' hvs;cases h;rw [Bp hv hr.1,Cw hvs hr.2]
    · cases h
  · cases h
theorem Gs {ρ:Env} {a:AU} {l:List AC} {x:Value} (h:Bn a=some l) (hr:Ao ρ a x):Bv ρ l x.cells.toList:=by
 cases a with
 | g m=> simp [Bn] at h;subst h;obtain ⟨cs,rfl,hl⟩:=hr;simpa [Value.cells] using hl
 | o a=>
  have key:∀y:Value,x=y→(∀cs,y≠ .agg cs)→x.cells.toList= [x]:=by
   intro y e hy;subst e;cases x <;> simp [Value.cells] at hy⊢
  have fin:x.cells.toList= [x]→l= [a]→Bv ρ l x.cells.toList:=by
   rintro e rfl;rw [e];exact ⟨hr,trivial⟩
  cases a with
  | c v=>
   have hx:x=v:=hr;cases v <;> simp [Bn] at h <;> exact fin (key _ hx (by simp)) h.symm
  | p id off=> simp [Bn] at h;obtain ⟨b,n,_,e⟩:=hr;exact fin (key _ e (by simp)) h.symm
  | s id off len cap=> simp [Bn] at h;obtain ⟨b,n,c,_,e,_⟩:=hr;exact fin (key _ e (by simp)) h.symm
  | m id=> simp [Bn] at h;obtain ⟨b,n,_,e⟩:=hr;exact fin (key _ e (by simp)) h.symm
  | nan=> simp [Bn] at h;obtain ⟨b,e,_⟩:=hr;exact fin (key _ e (by simp)) h.symm
  | nb=> simp [Bn] at h;obtain ⟨b,e,_⟩:=hr;exact fin (key _ e (by simp)) h.symm
  | z re im=> simp [Bn] at h;obtain ⟨a,b,e,_⟩:=hr;exact fin (key _ e (by simp)) h.symm
  | i t id off=> simp [Bn] at h;obtain ⟨b,n,_,e⟩:=hr;exact fin (key _ e (by simp)) h.symm
  | ts id len=> simp [Bn] at h;obtain ⟨b,n,c,_,e⟩:=hr;exact fin (key _ e (by simp)) h.symm
  | tp id k=> simp [Bn] at h;obtain ⟨b,n,_,e⟩:=hr;exact fin (key _ e (by simp)) h.symm
  | un=> simp [Bn] at h;have h1:x.oneCell'=true:=hr;exact fin (key x rfl (fun cs e=> by rw [e] at h1;cases h1)) h.symm
  | ui k=> simp [Bn] at h;obtain ⟨n,e⟩:=hr;exact fin (key _ e (by simp)) h.symm
  | uf=> simp [Bn] at h;obtain ⟨n,e⟩:=hr;exact fin (key _ e (by simp)) h.symm
  | us=> simp [Bn] at h;obtain ⟨n,e⟩:=hr;exact fin (key _ e (by simp)) h.symm
  | se id=> simp [Bn] at h;obtain ⟨b,n,o,c,_,e⟩:=hr;exact fin (key _ e (by simp)) h.symm
  | f fn first caps=> simp [Bn] at h;obtain ⟨us,vs,e,_⟩:=hr;exact fin (key _ e (by simp)) h.symm
theorem Qt {ρ:Env} {a:AC} {x:Value} (h:one a=true) (hr:Hb ρ a x):x.oneCell'=true:=by
 cases a with
 | c v=> have e:x=v:=hr;subst e;exact h
 | p id off=> obtain ⟨b,n,_,e⟩:=hr;subst e;rfl
 | s id off len cap=> obtain ⟨b,n,c,_,e,_⟩:=hr;subst e;rfl
 | m id=> obtain ⟨b,n,_,e⟩:=hr;subst e;rfl
 | nan=> obtain ⟨b,e,_⟩:=hr;subst e;rfl
 | nb=> obtain ⟨b,e,_⟩:=hr;subst e;rfl
 | z re im=> obtain ⟨a,b,e,_⟩:=hr;subst e;rfl
 | f fn first caps=> obtain ⟨us,vs,e,_⟩:=hr;subst e;rfl
 | i t id off=> obtain ⟨b,n,_,e⟩:=hr;subst e;rfl
 | ts id len=> obtain ⟨b,n,c,_,e⟩:=hr;subst e;rfl
 | tp id k=> obtain ⟨b,n,_,e⟩:=hr;subst e;rfl
 | un=> exact hr
 | ui k=> obtain ⟨n,e⟩:=hr;subst e;rfl
 | uf=> obtain ⟨n,e⟩:=hr;subst e;rfl
 | us=> obtain ⟨n,e⟩:=hr;subst e;rfl
 | se id=> obtain ⟨b,n,o,c,_,e⟩:=hr;subst e;rfl
theorem Br {α:Type} {P:Program}:∀ {m:Sem α} {a:α},Ay P m=some a→∀w,m.run P w=.ok a w:=by
 intro m
 induction m with
 | pure a=> intro b h w;simp [Ay] at h;subst h;rfl
 | program k ih=> intro b h w;simp only [Ay] at h;simp only [Sem.run];exact ih _ h w
 | mark m k ih=> intro b h w;simp only [Ay] at h;simp only [Sem.run];exact ih h w
 | load=> intro b h;simp [Ay] at h
 | store=> intro b h;simp [Ay] at h
 | new=> intro b h;simp [Ay] at h
 | shape=> intro b h;simp [Ay] at h
 | freeze=> intro b h;simp [Ay] at h
 | frozen=> intro b h;simp [Ay] at h
 | getObj=> intro b h;simp [Ay] at h
 | setObj=> intro b h;simp [Ay] at h
 | choose=> intro b h;simp [Ay] at h
 | sys=> intro b h;simp [Ay] at h
 | halt=> intro b h;simp [Ay] at h
def TmRel (ρ:Env) (tm:T AV) (tmps:Array Value):Prop:=∀t v,tm.get t=some v→∃x,tmps[t]? =some x∧Cq ρ v x
theorem TmRel.mono {ρ ρ':Env} {tm:T AV} {tmps:Array Value} (h:TmRel ρ tm tmps) (hle:ρ.le ρ'):TmRel ρ' tm tmps:=fun t v hv=> by
 obtain ⟨x,h1,h2⟩:=h t v hv;exact ⟨x,h1,Lz hle h2⟩
section
variable {E:Kn} {B0:Nat} {w0:World} {ρ:Env} {G:Heap} {w:World} {tm:T AV} {a:Act}
theorem Ep (h:Rel E B0 w0 ρ G w) (ht:TmRel ρ tm a.tmps) {x:Operand} {u:AU} (he:evU E tm x=some u):Ao ρ u (a.eval x):=by
 cases x with
 | tmp t=>
  unfold evU at he;dsimp only at he
  split at he
  · rename_i y hy;cases he;obtain ⟨z,h1,h2⟩:=ht t _ hy;have:a.eval (.tmp t)=z:=by simp [Act.eval,Array.getD_eq_getD_getElem?,h1]
    rw [this];exact h2
  · cases he
 | const v=> simp [evU] at he;subst he;exact Bm ρ v
 | func f=> simp [evU] at he;subst he;rfl
 | global g=>
  unfold evU at he;dsimp only at he;cases hg:E.gl g with
  | false=> simp [hg] at he
  | true=>
   simp [hg] at he;subst he
   obtain ⟨n,hn⟩:=h.glob g hg;exact ⟨g,n,hn,rfl⟩
end
end Go.Ev
namespace Go.Ev
open Go.RowKit
def MV (P:Program) (E:Kn) (s:S) (ρ:Env) (r:OR) (m:Sem Value):Prop:=
 ∀x s',r=.v x s'→∀B0 w0 G w,Rel E B0 w0 ρ G w→Agree s' s G→∃ρ' G' w' v,m.run P w=.ok v w'∧Cq ρ' x v∧Lift E B0 w0 s s' ρ G w ρ' G' w'
def MU (P:Program) (E:Kn) (s:S) (ρ:Env) (r:OR) (m:Sem Unit):Prop:=
 ∀x s',r=.v x s'→∀B0 w0 G w,Rel E B0 w0 ρ G w→Agree s' s G→∃ρ' G' w',m.run P w=.ok () w'∧x=Hy∧Lift E B0 w0 s s' ρ G w ρ' G' w'
def UpR (s:S) (r:OR):Prop:=∀x s',r=.v x s'→Up s s'
section
variable {P:Program} {E:Kn} {s:S} {ρ:Env} {m:Sem Value}
theorem MV.bad:MV P E s ρ .bad m:=fun _ _ h=> by cases h
theorem MU.bad {m:Sem Unit}:MU P E s ρ .bad m:=fun _ _ h=> by cases h
theorem UpR.bad:UpR s .bad:=fun _ _ h=> by cases h
theorem UpR.v {x:AV}:UpR s (.v x s):=fun _ _ h=> by cases h;exact Up.refl _
theorem UpR.vt {x:AV} {id:Nat}:UpR s (.v x (Bx s id)):=fun _ _ h=> by cases h;exact Fj s id
theorem UpR.vp {x:AV} {id:Nat} {ob:AObj}:UpR s (.v x (Bg s id ob)):=fun _ _ h=> by cases h;exact Hx s id ob
theorem UpR.new {ob:AObj} {k:Nat→S→OR} (h:∀n s',UpR s' (k n s')):UpR s (Ci s ob k):=fun x s' e=> by
 obtain ⟨_,e2⟩:=Cj e;exact (Fk s ob).trans (h _ _ _ _ e2)
theorem UpR.of {s1:S} {r:OR} (u:Up s s1) (h:UpR s1 r):UpR s r:=fun x s' e=> u.trans (h x s' e)
theorem MV.pure {v:Value} {x:AV} (hm:∀w,m.run P w=.ok v w) (hx:Cq ρ x v):MV P E s ρ (.v x s) m:=by
 intro y s' e B0 w0 G w h ha;cases e;exact ⟨ρ,G,w,v,hm w,hx,Lift.refl h ha⟩
theorem MV.cv {v:Value} (hm:∀w,m.run P w=.ok v w):MV P E s ρ (.cv v s) m:=by
 rw [Bz];exact MV.pure hm (Bm ρ v)
theorem MV.look {id:Nat} {x:AV} (hm:∀B0 w0 G w,Rel E B0 w0 ρ G w→G id=Be s id→∃v,m.run P w=.ok v w∧Cq ρ x v):MV P E s ρ (.v x (Bx s id)) m:=by
 intro y s' e B0 w0 G w h ha;cases e;obtain ⟨v,h1,h2⟩:=hm B0 w0 G w h (ha id (Gy s id)).symm;exact ⟨ρ,G,w,v,h1,h2,En h ha⟩
end
theorem Bh (b off j:Nat):(⟨b,off,none⟩:Addr).add j=⟨b,off+j,none⟩:=by
 unfold Addr.add;split <;> simp_all
section
variable {E:Kn} {B0:Nat} {w0:World} {ρ:Env} {G:Heap} {w:World}
theorem Rel.row (h:Rel E B0 w0 ρ G w) {id b n:Nat} {ty:TypeId} {cells:List AC} {kd:RK} (hG:G id=some (.row ty cells kd)) (hr:ρ id=some (b,n)):
 ∃head rest fr ty',w.heap[b]? =some (.cells (head++rest).toArray ty' fr)∧Bv ρ cells head∧(head++rest).length=n∧(kd=.ex→cells.length=n)∧(kd≠ .ro→ty'=ty∧B0≤b∧(kd≠ .fz→∀i,i < n→¬(fr.1≤i∧i < fr.2))):=by
 obtain ⟨b',n',h1,h2,cur,fr,ty',h3,hty,h4,h5,h6,rest,head,h7,h8⟩:=h.real id _ hG (by simp);rw [hr] at h1;cases h1;subst h7;refine ⟨head,rest,fr,ty',h3,h8,h5,h6,fun hk=> ⟨hty hk,?_,fun hf i hi=> h4 hk hf i (by omega)⟩⟩;cases h2 with
 | inl h2=> cases kd <;> simp [AObj.old] at h2 hk
 | inr h2=> exact h2
end
theorem Da {w:World} {b:Nat} {cur:List Value} {ty:TypeId} {fr:Nat × Nat} (h:w.heap[b]? =some (.cells cur.toArray ty fr)) (i:Nat):w.cell? ⟨b,i,none⟩=cur[i]?:=by
 simp [World.cell?,h]
theorem Dc {ρ:Env} {cells r:List AC} {off n:Nat} {head:List Value} (h:Hg cells off n=some r) (hr:Bv ρ cells head):
 ∃vs,Bv ρ r vs∧vs.length=n∧vs=(head.drop off).take n∧∀ (rest:List Value) j v,vs[j]? =some v→(head++rest)[off+j]? =some v:=by
 unfold Hg at h;rw [Dq] at h
 split at h
 · rename_i hl;cases h;have hrel:Bv ρ ((cells.drop off).take n) ((head.drop off).take n):=All2.take n (All2.drop off hr);refine ⟨_,hrel,by rw [←hrel.length];exact hl,rfl,fun rest j v hv=> ?_⟩;rw [List.getElem?_take] at hv
   split at hv
   · rw [List.getElem?_drop] at hv;have hlt:off+j < head.length:=(List.getElem?_eq_some_iff.1 hv).1;rw [List.getElem?_append_left hlt];exact hv
   · cases hv
 · cases h
theorem Oh {ρ:Env} {cells t:List AC} {a:AC} {off:Nat} {head:List Value} (h:cells.drop off=a::t) (hr:Bv ρ cells head):
 ∃v,Hb ρ a v∧∀rest:List Value,(head++rest)[off]? =some v:=by
 have h1:=All2.drop off hr;rw [h] at h1;cases hd:head.drop off with
 | nil=> rw [hd] at h1;exact h1.elim
 | cons v l=>
  rw [hd] at h1;refine ⟨v,h1.1,fun rest=> ?_⟩;have e:head[off]? =some v:=by
   have:=List.getElem?_drop (xs:=head) (i:=off) (j:=0);rw [hd] at this
   simpa using this.symm
  rw [List.getElem?_append_left (List.getElem?_eq_some_iff.1 e).1];exact e
theorem Bf {P:Program} {t:TypeId} {n:Nat} (h:Bq P t=some n) (w:World):(sizeOf t).run P w=.ok n w:=by
 unfold Bq at h;cases hi:P.info? t with
 | none=> simp [hi] at h
 | some i=> simp [hi] at h;subst h;simp [sizeOf,typeInfo,hi]
theorem Dw {P:Program} {t:TypeId} {z:Value} (h:Gx P t=some z) (w:World):(zeroValue t).run P w=.ok z w:=by
 unfold Gx at h;cases hi:P.info? t with
 | none=> simp [hi] at h
 | some i=> simp [hi] at h;simp [zeroValue,typeInfo,hi,h]
theorem Em {P:Program} {t:TypeId} {cells:List AC} {off:Nat} {x:AU} {ρ:Env} {pre head rest:List Value} {w:World} {b:Nat} {ty:TypeId} {fr:Nat × Nat}
 (h:Hf P t cells off=some x) (hr:Bv ρ cells head) (hb:w.heap[b]? =some (.cells (pre++(head++rest)).toArray ty fr)):
 ∃v,(loadVar t ⟨b,pre.length+off,none⟩).run P w=.ok v w∧Ao ρ x v:=by
 have hpre:∀ (l:List Value) (j:Nat),(pre++l)[pre.length+j]? =l[j]?:=fun l j=> by
  rw [List.getElem?_append_right (by omega)];congr 1;omega
 unfold Hf at h;cases hu:P.underlying t with
 | none=> simp [hu] at h
 | some d=>
  simp only [hu] at h;have agg:∀n r,Bq P t=some n→Hg cells off n=some r→((∃fs,d=.struct fs)∨∃k e,d=.array k e)→∃v,(loadVar t ⟨b,pre.length+off,none⟩).run P w=.ok v w∧Ao ρ (.g r) v:=by
   intro n r hn hp hd;obtain ⟨vs,h1,h2,_,h3⟩:=Dc hp hr;refine ⟨.agg vs.toArray,?_,vs,rfl,h1⟩;have hl:=run_loadCells_list (P:=P) w ⟨b,pre.length+off,none⟩ vs (fun j v hv=> by rw [Bh,Da hb,Nat.add_assoc,hpre];exact h3 rest j v hv);rw [h2] at hl;rcases hd with ⟨fs,rfl⟩ | ⟨k,e,rfl⟩ <;> simp [loadVar,isAgg,run_underlying hu,Bf hn,hl]
  have cell:∀a t',cells.drop off=a::t'→(∀fs,d≠ .struct fs)→(∀k e,d≠ .array k e)→∃v,(loadVar t ⟨b,pre.length+off,none⟩).run P w=.ok v w∧Ao ρ (.o a) v:=by
   intro a t' hc h1 h2;obtain ⟨v,h3,h4⟩:=Oh hc hr;refine ⟨v,?_,h3⟩;have h5:w.cell? ⟨b,pre.length+off,none⟩=some v:=by rw [Da hb,hpre];exact h4 rest
   have h6:(isAgg t).run P w=.ok false w:=by
    cases d <;> first | exact absurd rfl (h1 _) | exact absurd rfl (h2 _ _) | simp [isAgg,run_underlying hu]
   simp [loadVar,h6,h5]
  split at h
  · rename_i fs
    split at h
    · rename_i n hn
      split at h
      · rename_i r hp;cases h;exact agg n r hn hp (.inl ⟨_,rfl⟩)
      · cases h
    · cases h
  · rename_i k e
    split at h
    · rename_i n hn
      split at h
      · rename_i r hp;cases h;exact agg n r hn hp (.inr ⟨_,_,rfl⟩)
      · cases h
    · cases h
  · rename_i h1 h2
    split at h
    · rename_i a t' hc;cases h;exact cell a t' hc (fun fs e=> h1 fs e) (fun k e he=> h2 k e he)
    · cases h
theorem Jb {P:Program} {t:TypeId} {cells:List AC} {off:Nat} {x:AU} {ρ:Env} {head rest:List Value} {w:World} {b:Nat} {ty:TypeId} {fr:Nat × Nat}
 (h:Hf P t cells off=some x) (hr:Bv ρ cells head) (hb:w.heap[b]? =some (.cells (head++rest).toArray ty fr)):
 ∃v,(loadVar t ⟨b,off,none⟩).run P w=.ok v w∧Ao ρ x v:=by
 have:=Em (pre:= []) h hr (by simpa using hb)
 simpa using this
section
variable {P:Program} {E:Kn} {s:S} {ρ:Env}
theorem Mg {t:TypeId} {a:AU}:UpR s (Dv P t a s):=by
 unfold Dv Ho
 repeat' split
 all_goals first | exact UpR.bad | exact UpR.vt
theorem Sb {t:TypeId} {a:AU} {va:Value} (hr:Ao ρ a va):MV P E s ρ (Dv P t a s) (Instr.loadAt t va):=by
 unfold Dv
 split
 · rename_i id off
   split
   · rename_i ty cells kd hob
     split
     · rename_i x hx;refine MV.look fun B0 w0 G w h hG=> ?_
       obtain ⟨b,n,hb,rfl⟩:=hr;rw [hob] at hG;obtain ⟨head,rest,fr,tyb,h1,h2,_⟩:=h.row hG hb;obtain ⟨v,h3,h4⟩:=Jb hx h2 h1;exact ⟨v,by simp [Instr.loadAt,Instr.sureAddr,h3],h4⟩
     · exact MV.bad
   · exact MV.bad
 · rename_i id k;unfold Ho
   split
   · rename_i cells hob
     split
     · rename_i x hx;refine MV.look fun B0 w0 G w h hG=> ?_
       obtain ⟨b,o,hb,rfl⟩:=hr;rw [hob] at hG;obtain ⟨b',n',h1,_,pre,head,rest,ty,fr,h2,h3,h4⟩:=h.real id _ hG (by simp);rw [hb] at h1;cases h1;obtain ⟨v,h5,h6⟩:=Em hx h4 h2;rw [h3] at h5;exact ⟨v,by simp [Instr.loadAt,Instr.sureAddr,h5],h6⟩
     · exact MV.bad
   · exact MV.bad
 · exact MV.bad
end
end Go.Ev
namespace Go.Ev
open Go.RowKit
def spl {α:Type} (l:List α) (off:Nat) (xs:List α):List α:=l.take off++(xs++l.drop (off+xs.length))
theorem Ge {ρ:Env} {l xs:List AC} {m ys:List Value} (off:Nat) (h:Bv ρ l m) (h':Bv ρ xs ys):Bv ρ (Dg l off xs) (spl m off ys):=by
 unfold Dg spl;rw [h'.length];exact All2.append (All2.take _ h) (All2.append h' (All2.drop _ h))
theorem Pf {α:Type} (l:List α) (off:Nat) (xs:List α) (h:off+xs.length≤l.length):(spl l off xs).length=l.length:=by
 simp [spl];omega
theorem Pg {α:Type} (l r:List α) (off:Nat) (xs:List α) (h:off+xs.length≤l.length):spl (l++r) off xs=spl l off xs++r:=by
 unfold spl;rw [List.take_append_of_le_length (by omega),List.drop_append_of_le_length h]
 simp [List.append_assoc]
theorem Nu {α:Type} (l:List α) (off:Nat) (x:α) (xs:List α) (h:off+(x::xs).length≤l.length):spl (l.set off x) (off+1) xs=spl l off (x::xs):=by
 have hlt:off < l.length:=by simp at h;omega
 unfold spl
 apply List.ext_getElem?
 intro i;simp only [List.getElem?_append,List.getElem?_take,List.getElem?_drop,List.getElem?_set,List.length_take,List.length_set,List.length_cons,List.cons_append];have e1:min (off+1) l.length=off+1:=by omega
 have e2:min off l.length=off:=by omega
 rw [e1,e2]
 by_cases h1:i < off
 · rw [if_pos (by omega),if_pos (by omega),if_pos h1,if_pos h1,if_neg (by omega)]
 · by_cases h2:i=off
   · subst h2
     simp [hlt]
   · rw [if_neg (by omega),if_neg h1];obtain ⟨k,rfl⟩:∃k,i=off+1+k:=⟨i - off - 1,by omega⟩;have e3:off+1+k - (off+1)=k:=by omega
     have e4:off+1+k - off=k+1:=by omega
     rw [e3,e4];simp only [List.getElem?_cons_succ,List.getElem?_append,List.getElem?_drop,List.getElem?_set]
     split
     · rfl
     · rw [if_neg (by omega)]
       congr 1
       omega
theorem Nw (w:World) (b i:Nat) (cur:List Value) (ty:TypeId) (fr:Nat × Nat) (v:Value) (h:w.heap[b]? =some (.cells cur.toArray ty fr)):
 (w.setCell ⟨b,i,none⟩ v).heap[b]? =some (.cells (cur.set i v).toArray ty fr):=by
 simp only [World.setCell,Array.getElem?_modify]
 simp [h]
structure Turned (w w':World) (b:Nat):Prop where
 os:w'.os=w.os
 tape:w'.tape=w.tape
 output:w'.output=w.output
 size:w'.heap.size=w.heap.size
 block:∀k,k≠b→w'.heap[k]? =w.heap[k]?
theorem Turned.refl (w:World) (b:Nat):Turned w w b:=⟨rfl,rfl,rfl,rfl,fun _ _=> rfl⟩
theorem Turned.trans {w1 w2 w3:World} {b:Nat} (h:Turned w1 w2 b) (h':Turned w2 w3 b):Turned w1 w3 b:=
 ⟨h'.os.trans h.os,h'.tape.trans h.tape,h'.output.trans h.output,h'.size.trans h.size,fun k hk=> (h'.block k hk).trans (h.block k hk)⟩
theorem Turned.setCell (w:World) (a:Addr) (v:Value):Turned w (w.setCell a v) a.block:=
 ⟨rfl,rfl,rfl,by simp,fun k hk=> Below.heap_setCell _ _ _ _ hk⟩
theorem Turned.below {w w':World} {b B:Nat} (h:Turned w w' b) (hB:B≤b):Below B w w':=
 ⟨h.os,h.tape,h.output,by rw [h.size];exact Nat.le_refl _,fun k hk=> h.block k (by omega)⟩
theorem Dh {P:Program} {b off:Nat} {ty:TypeId} {fr:Nat × Nat}:∀ (xs:List Value) (i:Nat) (cur:List Value) (w:World),
 w.heap[b]? =some (.cells cur.toArray ty fr)→(∀i,i < cur.length→¬(fr.1≤i∧i < fr.2))→off+i+xs.length≤cur.length→(∀x∈xs,x.oneCell'=true)→
 ∃w',(storeCells ⟨b,off,none⟩ xs i).run P w=.ok () w'∧Turned w w' b∧w'.heap[b]? =some (.cells (spl cur (off+i) xs).toArray ty fr)
 | [],i,cur,w,hb,_,_,_=> ⟨w,by simp [storeCells],Turned.refl w b,by simp [spl,hb]⟩
 | x::xs,i,cur,w,hb,hf,hl,h1=> by
  have hlt:off+i < cur.length:=by simp at hl;omega
  have hc:w.cell? ⟨b,off+i,none⟩=some cur[off+i]:=by rw [Da hb];exact List.getElem?_eq_getElem hlt
  have hfz:w.frozen? ⟨b,off+i,none⟩=false:=by
   simp only [World.frozen?,hb];have:=hf (off+i) hlt;simp only [Bool.and_eq_false_iff,decide_eq_false_iff_not]
   by_cases h:fr.1≤off+i
   · exact .inr (fun h'=> this ⟨h,h'⟩)
   · exact .inl h
  have hb':=Nw w b (off+i) cur ty fr x hb;obtain ⟨w',h2,h3,h4⟩:=Dh (P:=P) (b:=b) (off:=off) (ty:=ty) (fr:=fr) xs (i+1) (cur.set (off+i) x) _ hb' (fun j hj=> hf j (by simpa using hj)) (by simp at hl⊢;omega) (fun y hy=> h1 y (by simp [hy]));refine ⟨w',?_,(Turned.setCell w ⟨b,off+i,none⟩ x).trans h3,?_⟩
  · rw [storeCells,Sem.run_bind,run_store _ _ _ _ _ (h1 x (by simp)),Bh,hc]
    simp [hfz,h2]
  · rw [h4,←Nat.add_assoc,Nu cur (off+i) x xs (by simpa using hl)]
section
variable {P:Program} {E:Kn} {s:S} {ρ:Env}
theorem Fl {id off:Nat} {xs:List AC} {k:S→OR} {x:AV} {s':S} (h:Du s id off xs k=.v x s'):
 ∃ty cells kd,Be s id=some (.row ty cells kd)∧kd≠ .ro∧kd≠ .fz∧off+xs.length≤cells.length∧(∀a∈xs,one a=true)∧k (Bg s id (.row ty (Dg cells off xs) kd))=.v x s':=by
 unfold Du at h
 split at h
 · rename_i ty cells kd hob;have key:kd≠ .ro→kd≠ .fz→(bif Nat.ble (off+xs.length) cells.length && xs.all one then k (Bg s id (.row ty (Dg cells off xs) kd)) else .bad)=.v x s'→∃ty' cells' kd',Be s id=some (.row ty' cells' kd')∧kd'≠ .ro∧kd'≠ .fz∧off+xs.length≤cells'.length∧(∀a∈xs,one a=true)∧k (Bg s id (.row ty' (Dg cells' off xs) kd'))=.v x s':=fun hk hk2 h=> by
    cases hc:(Nat.ble (off+xs.length) cells.length && xs.all one) with
    | false=> simp [hc] at h
    | true=>
     simp only [hc,cond_true] at h;simp only [Bool.and_eq_true,List.all_eq_true] at hc;exact ⟨ty,cells,kd,hob,hk,hk2,Nat.le_of_ble_eq_true hc.1,hc.2,h⟩
   cases kd with
   | ro=> cases h
   | fz=> cases h
   | ex=> exact key (by simp) (by simp) h
   | op=> exact key (by simp) (by simp) h
 · cases h
theorem UpR.store {id off:Nat} {xs:List AC} {k:S→OR} (h:∀s',UpR s' (k s')):UpR s (Du s id off xs k):=fun x s' e=> by
 obtain ⟨_,_,_,_,_,_,_,_,h1⟩:=Fl e;exact (Hx s id _).trans (h _ _ _ h1)
theorem Hz {B0:Nat} {w0:World} {G:Heap} {w:World} {id off b n:Nat} {ty:TypeId} {cells xs:List AC} {kd:RK} {vs:List Value} (h:Rel E B0 w0 ρ G w)
 (hG:G id=some (.row ty cells kd)) (hr:ρ id=some (b,n)) (hk:kd≠ .ro) (hk2:kd≠ .fz) (hl:off+xs.length≤cells.length) (h1:∀a∈xs,one a=true) (hx:Bv ρ xs vs)
 (ha:Agree (Bg s id (.row ty (Dg cells off xs) kd)) s G):
 ∃w',(storeCells ⟨b,off,none⟩ vs).run P w=.ok () w'∧Lift E B0 w0 s (Bg s id (.row ty (Dg cells off xs) kd)) ρ G w ρ (G.put id (.row ty (Dg cells off xs) kd)) w':=by
 obtain ⟨head,rest,fr,tyb,hb,hh,hn,hex,hro⟩:=h.row hG hr;obtain ⟨hty,hB,hfz⟩:=hro hk;subst hty;have hfz:=hfz hk2;have hlen:=hh.length;have hxl:=hx.length;have hone:∀x∈vs,x.oneCell'=true:=by
  intro x hxm;obtain ⟨i,hi⟩:=List.getElem?_of_mem hxm;have hil:i < xs.length:=by rw [hxl];exact (List.getElem?_eq_some_iff.1 hi).1
  obtain ⟨y,hy,hrel⟩:=All2.get hx i xs[i] (List.getElem?_eq_getElem hil);rw [hi] at hy;cases hy;exact Qt (h1 _ (List.getElem_mem hil)) hrel
 obtain ⟨w',hw,ht,hb'⟩:=Dh (P:=P) (b:=b) (off:=off) (ty:=tyb) (fr:=fr) vs 0 (head++rest) w hb (fun i hi=> hfz i (by omega)) (by simp;omega) hone;refine ⟨w',hw,Ea h hG (by simp) (by cases kd <;> first | rfl | exact absurd rfl hk) hr hB ha (ht.below hB) (fun k _ hk=> ht.block k hk) fun _=> ?_⟩;rw [Nat.add_zero,Pg head rest off vs (by omega)] at hb';have hsl:(spl head off vs).length=head.length:=Pf _ _ _ (by omega);refine ⟨_,fr,_,hb',fun _=> rfl,fun _ _ i hi=> hfz i ?_,?_,fun e=> ?_,rest,_,rfl,Ge off hh hx⟩
 · simp [hsl] at hi;simp at hn;omega
 · simp [hsl];simpa using hn
 · have:=(Ge off hh hx).length;rw [this,hsl,←hlen];exact hex e
theorem Ps {t:TypeId} {a x:AU}:UpR s (Es P t a x s):=by
 unfold Es
 repeat' split
 all_goals first | exact UpR.bad | skip
 rename_i xs _;rw [Dq]
 split
 · exact UpR.store fun s'=> UpR.v
 · exact UpR.bad
theorem Pt {t:TypeId} {a x:AU} {va vx:Value} (hr:Ao ρ a va) (hx:Ao ρ x vx):MU P E s ρ (Es P t a x s) (Instr.storeAt t va vx):=by
 unfold Es
 split
 · rename_i id off
   split
   · rename_i n hn
     split
     · rename_i xs hxs;rw [Dq]
       split
       · rename_i hl;intro y s' e B0 w0 G w h ha;obtain ⟨ty,cells,kd,hob,hk,hk2,hle,h1,e1⟩:=Fl e;cases e1;obtain ⟨b,m,hb,rfl⟩:=hr;have hG:G id=some (.row ty cells kd):=by rw [←ha id (by rw [Di];simp)];exact hob
         have hrel:=Gs hxs hx;obtain ⟨w',h2,h3⟩:=Hz (P:=P) h hG hb hk hk2 hle h1 hrel ha;have hsz:¬vx.cells.size≠n:=by
          have:=hrel.length
          simp at this
          omega
         exact ⟨ρ,_,w',by simp [Instr.storeAt,Instr.sureAddr,storeVar,Bf hn,hsz,h2],rfl,h3⟩
       · exact MU.bad
     · exact MU.bad
   · exact MU.bad
 · exact MU.bad
theorem El {B0:Nat} {w0:World} {G:Heap} {w w':World} {ty:TypeId} {cells:List AC} {kd:RK} {cur:List Value} {rest:List Value} {fr:Nat × Nat} (h:Rel E B0 w0 ρ G w) (hw:Below w.heap.size w w')
 (hn:Be s (Ax s (.row ty cells kd)).1=none) (ha:Agree (Ax s (.row ty cells kd)).2 s G) {b:Nat} (hbl:w.heap.size≤b)
 (hb:w'.heap[b]? =some (.cells (cur++rest).toArray ty fr)) (hf:∀i,i < (cur++rest).length→¬(fr.1≤i∧i < fr.2)) (hr:Bv ρ cells cur) (hex:kd=.ex→rest= []):
 Lift E B0 w0 s (Ax s (.row ty cells kd)).2 ρ G w (ρ.put (Ax s (.row ty cells kd)).1 (b,(cur++rest).length)) (G.put (Ax s (.row ty cells kd)).1 (.row ty cells kd)) w':=by
 refine Of h hw hn ha rfl hbl ?_;have hG:G (Ax s (.row ty cells kd)).1=none:=by rw [←ha _ (by rw [Lj];simp)];exact hn
 have hrn:ρ (Ax s (.row ty cells kd)).1=none:=by
  cases hx:ρ (Ax s (.row ty cells kd)).1 with
  | none=> rfl
  | some p=> exact absurd hG (h.dom _ p hx)
 refine ⟨cur++rest,fr,ty,hb,fun _=> rfl,fun _ _=> hf,rfl,fun e=> ?_,rest,cur,rfl,Dy (Env.le_put _ hrn) hr⟩;rw [hex e,List.append_nil];exact hr.length
theorem Ei (ρ:Env) (vs:List Value):Bv ρ (vs.map .c) vs:=All2.map_left (R:=fun a b=> b=a) (fun _ _ h=> h) (All2.self (R:=fun a b=> b=a) (fun _=> rfl) _)
theorem Ch (ρ:Env) (id:Nat) (p:Nat × Nat):(ρ.put id p) id=some p:=by simp [Env.put]
theorem Qg {t:TypeId} {z:Value} (hz:Gx P t=some z):MV P E s ρ (Ci s (.row t (z.cells.toList.map .c) .ex) fun id s=> .a (.p id 0) s) (Instr.alloc t true (.tuple #[])):=by
 intro x s' e B0 w0 G w h ha;obtain ⟨hn,e1⟩:=Cj e;cases e1;have hb:(w.alloc (.cells z.cells t)).heap[w.heap.size]? =some (.cells (z.cells.toList++ []).toArray t (0,0)):=by simpa using heap_alloc_new w (.cells z.cells t)
 have hl:=El (cur:=z.cells.toList) (rest:= []) h (Below.alloc (Below.refl _ _) (Nat.le_refl _) (.cells z.cells t)) hn ha (Nat.le_refl _) hb (fun i _=> by simp) (Ei ρ _) (fun _=> rfl);refine ⟨_,_,_,.pointer (some ⟨w.heap.size,0,none⟩),?_,?_,hl⟩
 · simp [Instr.alloc,Dw hz,newVar,newRow]
 · exact ⟨_,_,Ch _ _ _,rfl⟩
theorem Tr {t:TypeId} {a:AU} {xs:List AC} {va:Value} (hxs:Bn a=some xs) (hr:Ao ρ a va):MV P E s ρ (Ci s (.row t xs .ex) fun id s=> .a (.p id 0) s) (Instr.box t va):=by
 intro x s' e B0 w0 G w h ha;obtain ⟨hn,e1⟩:=Cj e;cases e1;have hb:(w.alloc (.cells va.cells t)).heap[w.heap.size]? =some (.cells (va.cells.toList++ []).toArray t (0,0)):=by simpa using heap_alloc_new w (.cells va.cells t)
 have hl:=El (cur:=va.cells.toList) (rest:= []) h (Below.alloc (Below.refl _ _) (Nat.le_refl _) (.cells va.cells t)) hn ha (Nat.le_refl _) hb (fun i _=> by simp) (Gs hxs hr) (fun _=> rfl);refine ⟨_,_,_,.pointer (some ⟨w.heap.size,0,none⟩),?_,?_,hl⟩
 · simp [Instr.box,newVar,newRow]
 · exact ⟨_,_,Ch _ _ _,rfl⟩
end
end Go.Ev
namespace Go.Ev
open Go.RowKit
section
variable {P:Program} {E:Kn} {s:S} {ρ:Env}
theorem Rn (s u:Nat) (h1:s < 2) (h2:u < 4503599627370495):(s * 9223372036854775808+9218868437227405312+1+u) % 9223372036854775808=9218868437227405313+u:=by omega
theorem Sz (x u:Nat) (hx:x % 9223372036854775808=9218868437227405313+u):(FloatKind.f64.format.read x).isNaN=true:=by
 have e1:Ieee.double.signWeight=9223372036854775808:=by decide
 have e2:Ieee.double.binade=4503599627370496:=by decide
 have e3:Ieee.double.infRung=9218868437227405312:=by decide
 simp only [FloatKind.format,Ieee.Format.read,e1,e2,e3,hx];rw [if_neg (by omega),if_neg (by omega),if_neg (by omega)]
 rfl
theorem Ue (t x y:Nat):(FloatKind.f64.format.read ((Question.nanBits .f64 x y).cut t)).isNaN=true:=by
 have h1:t % 2 < 2:=Nat.mod_lt _ (by decide);have h2:t / 2 % (2 ^ 52 - 1) < 4503599627370495:=Nat.mod_lt _ (by decide);exact Sz _ _ (Rn _ _ h1 h2)
theorem Vj (t x y:Nat):(Question.nanBits .f64 x y).cut t < 18446744073709551616:=by
 have h1:t % 2 < 2:=Nat.mod_lt _ (by decide);have h2:t / 2 % (2 ^ 52 - 1) < 4503599627370495:=Nat.mod_lt _ (by decide);show t % 2 * 9223372036854775808+9218868437227405312+1+t / 2 % (2 ^ 52 - 1) < 18446744073709551616
 omega
theorem Mv {x:Nat} (h:(FloatKind.f64.format.read x).isNaN=true):∃s t,FloatKind.f64.format.read x=.nan s t:=by
 cases hx:FloatKind.f64.format.read x with
 | nan s t=> exact ⟨s,t,rfl⟩
 | number s m e=> rw [hx] at h;cases h
 | infinity s=> rw [hx] at h;cases h
def Na (op:BinOp) (x y:Nat):Option Nat:=
 match op with
 | .add=> FloatKind.f64.format.add x y
 | .sub=> FloatKind.f64.format.sub x y
 | .mul=> FloatKind.f64.format.mul x y
 | .quo=> FloatKind.f64.format.div x y
 | _=> none
def Ir (op:BinOp):Bool:=match op with | .add | .sub | .mul | .quo=> true | _=> false
theorem Cs {op:BinOp} {t:TypeId} {x y:Operand} {a b:Value} (h:∀w,(eqGuard op t x y a b).run P w=.ok () w) {m:Sem Value} (w:World):
 (do eqGuard op t x y a b;m:Sem Value).run P w=m.run P w:=by
 rw [Sem.run_bind,h w];rfl
theorem Jc (op:BinOp) (t:TypeId) (x y:Operand) (k:FloatKind) (a b:Nat) (w:World):(eqGuard op t x y (.float k a) (.float k b)).run P w=.ok () w:=by
 unfold eqGuard;cases op <;> simp
theorem Cz (op:BinOp) (t:TypeId) (x y:Operand) {a b:Value} (h:a.oneCell'=true) (h':a≠ .nilIface) (w:World):(eqGuard op t x y a b).run P w=.ok () w:=by
 unfold eqGuard;cases op <;> simp <;> cases a <;> simp [Value.oneCell'] at h h' <;> cases b <;> simp
theorem Mz (op:BinOp) (t:TypeId) (x y:Operand) {a b:Value} (h:b.oneCell'=true) (h':b≠ .nilIface) (w:World):(eqGuard op t x y a b).run P w=.ok () w:=by
 unfold eqGuard;cases op <;> simp <;> cases b <;> simp [Value.oneCell'] at h h' <;> cases a <;> simp
theorem Qm {op:BinOp} {x y:Nat} (ho:Ir op=true) (h:Na op x y=none) (t:TypeId) (w:World):
 ∃bits,(binOp op t (.float .f64 x) (.float .f64 y)).run P w=.ok (.float .f64 bits) w.drew∧(FloatKind.f64.format.read bits).isNaN=true∧bits < 18446744073709551616:=by
 refine ⟨_,?_,Ue (w.tape w.drawn (.nanBits .f64 x y)) x y,Vj _ _ _⟩;cases op <;> simp [Ir] at ho <;> simp [Na] at h <;> simp [binOp,Op.floatArith,h,Question.forced]
theorem Ql {op:BinOp} {x y r:Nat} (ho:Ir op=true) (h:Na op x y=some r) (t:TypeId) (a b:Operand):
 Ay P (do eqGuard op t a b (.float .f64 x) (.float .f64 y);binOp op t (.float .f64 x) (.float .f64 y))=some (.float .f64 r):=by
 cases op <;> simp [Ir] at ho <;> simp [Na] at h <;> simp [eqGuard,binOp,Op.floatArith,h,Ay,Bind.bind,Sem.bind,Pure.pure]
theorem MV.nan {op:BinOp} {t:TypeId} {x y:Operand} {a b:Nat} (ho:Ir op=true) (h:Na op a b=none):
 MV P E s ρ (.a .nan s) (do eqGuard op t x y (.float .f64 a) (.float .f64 b);binOp op t (.float .f64 a) (.float .f64 b)):=by
 intro z s' e B0 w0 G w hr ha;cases e;obtain ⟨bits,h1,h2⟩:=Qm (P:=P) ho h t w;refine ⟨ρ,G,w.drew,.float .f64 bits,by rw [Cs (Jc op t x y .f64 a b)];exact h1,⟨bits,rfl,h2⟩,?_⟩;exact ⟨hr.world (Below.drew (Below.refl _ _)),Env.le_refl ρ,ha,fun _ _=> rfl⟩
theorem MV.nan' {op:BinOp} {t:TypeId} {x y:Operand} {a b:Nat} (ho:Ir op=true)
 (h:Ay P (do eqGuard op t x y (.float .f64 a) (.float .f64 b);binOp op t (.float .f64 a) (.float .f64 b))=none):
 MV P E s ρ (.a .nan s) (do eqGuard op t x y (.float .f64 a) (.float .f64 b);binOp op t (.float .f64 a) (.float .f64 b)):=by
 cases hf:Na op a b with
 | none=> exact MV.nan ho hf
 | some r=> rw [Ql ho hf] at h;cases h
theorem Rk {a b:Nat} (h:(FloatKind.f64.format.read a).isNaN=true∨(FloatKind.f64.format.read b).isNaN=true):FloatKind.f64.format.order a b=none:=by
 unfold Ieee.Format.order;rcases h with h | h
 · obtain ⟨s,t,e⟩:=Mv h;rw [e];rfl
 · obtain ⟨s,t,e⟩:=Mv h;rw [e];cases FloatKind.f64.format.read a <;> rfl
theorem Tp {op:BinOp} {a b:Nat} (h:(FloatKind.f64.format.read a).isNaN=true∨(FloatKind.f64.format.read b).isNaN=true):Na op a b=none:=by
 have e3:∀s t,(Ieee.Datum.nan s t).opposite=.nan (!s) t:=fun _ _=> rfl
 rcases h with h | h
 · obtain ⟨s,t,e⟩:=Mv h;cases op <;> simp [Na,Ieee.Format.add,Ieee.Format.sub,Ieee.Format.mul,Ieee.Format.div,e,Ieee.Datum.sum,Ieee.Datum.product,Ieee.Datum.quotient]
 · obtain ⟨s,t,e⟩:=Mv h;cases op <;> simp [Na,Ieee.Format.add,Ieee.Format.sub,Ieee.Format.mul,Ieee.Format.div,e,e3] <;>
    (cases FloatKind.f64.format.read a <;> rfl)
theorem So (a:Nat):(a ^^^ 9223372036854775808) % 9223372036854775808=a % 9223372036854775808:=by
 have:=Nat.xor_mod_two_pow (a:=a) (b:=9223372036854775808) (n:=63)
 simpa using this
theorem Ny {a b:Nat} (h:a % 9223372036854775808=b % 9223372036854775808) (hn:(FloatKind.f64.format.read a).isNaN=true):(FloatKind.f64.format.read b).isNaN=true:=by
 have e1:Ieee.double.signWeight=9223372036854775808:=by decide
 simp only [FloatKind.format,Ieee.Format.read,e1] at hn⊢;rw [h] at hn
 repeat' split at hn
 all_goals first | (cases hn;done) | skip
 rename_i h1 h2 h3;rw [if_neg h1,if_neg h2,if_neg h3]
 rfl
theorem Nq {n:Nat} (h:n < 18446744073709551616):IntKind.u64.wrap (n:Int)=n:=by
 simp [IntKind.wrap,IntKind.bits,IntKind.signed]
 omega
theorem Us {op:BinOp} {t:TypeId} {x y:Operand} {a:Nat} (hn:(FloatKind.f64.format.read a).isNaN=true) (hl:a < 18446744073709551616) (ho:op=.xor∨op=.andNot):
 MV P E s ρ (.a .nb s) (do eqGuard op t x y (.int .u64 a) (.int .u64 (Int.ofNat 9223372036854775808));binOp op t (.int .u64 a) (.int .u64 (Int.ofNat 9223372036854775808))):=by
 have h1:(BitVec.ofInt 64 (a:Int)).toNat=a:=by simp [BitVec.ofInt_natCast];omega
 rcases ho with rfl | rfl
 · refine MV.pure (v:=.int .u64 ((a ^^^ 9223372036854775808:Nat):Int)) (fun w=> ?_) ⟨_,rfl,Ny (So a).symm hn,?_⟩
   · rw [Cs (fun w=> by unfold eqGuard;simp)];have e:((BitVec.ofInt 64 (a:Int)) ^^^ (BitVec.ofInt 64 (Int.ofNat 9223372036854775808))).toNat=a ^^^ 9223372036854775808:=by
      rw [BitVec.toNat_xor,h1];rfl
     show (Op.intBits .xor .u64 (a:Int) (Int.ofNat 9223372036854775808)).run P w=_;unfold Op.intBits;show (Sem.pure (Value.int .u64 (IntKind.u64.wrap (((BitVec.ofInt 64 (a:Int)) ^^^ (BitVec.ofInt 64 (Int.ofNat 9223372036854775808))).toNat:Int))):Sem Value).run P w=_;rw [e,Nq (Nat.xor_lt_two_pow (n:=64) hl (by decide))]
     rfl
   · exact Nat.xor_lt_two_pow (n:=64) hl (by decide)
 · refine MV.pure (v:=.int .u64 ((a % 9223372036854775808:Nat):Int)) (fun w=> ?_) ⟨_,rfl,Ny (by omega) hn,by omega⟩
   · rw [Cs (fun w=> by unfold eqGuard;simp)];have e:((BitVec.ofInt 64 (a:Int)) &&& ~~~(BitVec.ofInt 64 (Int.ofNat 9223372036854775808))).toNat=a % 9223372036854775808:=by
      rw [BitVec.toNat_and,h1];have:(~~~(BitVec.ofInt 64 (Int.ofNat 9223372036854775808))).toNat=2 ^ 63 - 1:=by decide
      rw [this,Nat.and_two_pow_sub_one_eq_mod]
     show (Op.intBits .andNot .u64 (a:Int) (Int.ofNat 9223372036854775808)).run P w=_;unfold Op.intBits;show (Sem.pure (Value.int .u64 (IntKind.u64.wrap (((BitVec.ofInt 64 (a:Int)) &&& ~~~(BitVec.ofInt 64 (Int.ofNat 9223372036854775808))).toNat:Int))):Sem Value).run P w=_;rw [e,Nq (by omega)]
     rfl
theorem Sj {op:BinOp}:UpR s (Fb op s):=by
 unfold Fb;cases op <;> simp only [Bz] <;> first | exact UpR.v | exact UpR.bad
theorem Io {op:BinOp} {t:TypeId} {x y:Operand} {a b:Nat} (h:(FloatKind.f64.format.read a).isNaN=true∨(FloatKind.f64.format.read b).isNaN=true):
 MV P E s ρ (Fb op s) (do eqGuard op t x y (.float .f64 a) (.float .f64 b);binOp op t (.float .f64 a) (.float .f64 b)):=by
 have ho:=Rk h;unfold Fb;cases op <;> dsimp only <;> first
  | exact MV.bad
  | exact MV.nan rfl (Tp h)
  | exact MV.cv fun w=> by rw [Cs (Jc _ t x y .f64 a b)];simp [binOp,Op.floatCmp,ho]
theorem Kc {op:BinOp} {eq:Bool}:UpR s (Ff op eq s):=by
 unfold Ff;cases op <;> simp only [Bz] <;> first | exact UpR.v | exact UpR.bad
theorem Dz {op:BinOp} {t:TypeId} {x y:Operand} {va vb:Value} {eq:Bool} (hg:∀w,(eqGuard op t x y va vb).run P w=.ok () w)
 (h1:∀w,(binOp .eql t va vb).run P w=.ok (.bool eq) w) (h2:∀w,(binOp .neq t va vb).run P w=.ok (.bool !eq) w):
 MV P E s ρ (Ff op eq s) (do eqGuard op t x y va vb;binOp op t va vb):=by
 unfold Ff;cases op <;> dsimp only <;> first
  | exact MV.bad
  | exact MV.cv fun w=> by rw [Cs hg];exact h1 w
  | exact MV.cv fun w=> by rw [Cs hg];exact h2 w
theorem Fw {t:TypeId} {va vb:Value} {b:Bool} (h:∀d w,(Op.equalIn (d+1) t va vb).run P w=.ok b w) (w:World):(Op.equal t va vb).run P w=.ok b w:=h 9999 w
theorem Su {e t:TypeId} {b off off' n:Nat} (hu:P.underlying t=some (.pointer e)) (hs:Bq P e=some n) (hn:0 < n):
 (∀w,(binOp .eql t (.pointer (some ⟨b,off,none⟩)) (.pointer (some ⟨b,off',none⟩))).run P w=.ok (.bool (Nat.beq off off')) w)∧
 (∀w,(binOp .neq t (.pointer (some ⟨b,off,none⟩)) (.pointer (some ⟨b,off',none⟩))).run P w=.ok (.bool !(Nat.beq off off')) w):=by
 have hb:((⟨b,off,none⟩:Addr)==⟨b,off',none⟩)=Nat.beq off off':=by
  by_cases h:off=off'
  · subst h;simp
  · have h1:Nat.beq off off'=false:=by
     cases hb:Nat.beq off off' with
     | false=> rfl
     | true=> exact absurd (Nat.eq_of_beq_eq_true hb) h
    simp [h,h1]
 have h1:∀w,(Op.equal t (.pointer (some ⟨b,off,none⟩)) (.pointer (some ⟨b,off',none⟩))).run P w=.ok (Nat.beq off off') w:=
  Fw fun d w=> by simp [Op.equalIn,run_underlying hu,Bf hs,Nat.pos_iff_ne_zero.1 hn,sameAddr,hb]
 refine ⟨?_,?_⟩ <;> intro w <;> simp only [binOp] <;> simp [h1]
theorem Rp {t u:TypeId} {ms:Array (String × TypeId)} {v:Value} (hu:P.underlying t=some (.interface ms)):
 (∀w,(binOp .eql t (.iface u v) .nilIface).run P w=.ok (.bool false) w)∧(∀w,(binOp .neq t (.iface u v) .nilIface).run P w=.ok (.bool !false) w):=by
 have h1:∀w,(Op.equal t (.iface u v) .nilIface).run P w=.ok false w:=Fw fun d w=> by simp [Op.equalIn,run_underlying hu]
 refine ⟨?_,?_⟩ <;> intro w <;> simp only [binOp] <;> simp [h1]
theorem Se {op:BinOp} {xT:TypeId} {x y:Operand} {a b:AU}:UpR s (Gq P op xT x y a b s):=by
 unfold Gq
 repeat' split
 all_goals first
  | exact UpR.bad
  | (rw [Bz];exact UpR.v)
  | exact UpR.v
  | exact Sj
  | exact Kc
  | (cases h:(Nat.blt _ _ && Nat.beq _ _) <;> first | exact UpR.bad | exact Kc)
  | (cases Bt _ _ <;> first | exact UpR.bad | exact Kc)
  | (cases Nat.beq _ _ <;> first | exact UpR.bad | exact UpR.v)
theorem Qr {e t:TypeId} {a:Addr} {v:Value} (hu:P.underlying t=some (.pointer e)) (hv:Bt (.pointer e) v=true):
 v=.pointer none∧(∀w,(binOp .eql t (.pointer (some a)) v).run P w=.ok (.bool false) w)∧(∀w,(binOp .neq t (.pointer (some a)) v).run P w=.ok (.bool !false) w)∧
 (∀w,(binOp .eql t v (.pointer (some a))).run P w=.ok (.bool false) w)∧(∀w,(binOp .neq t v (.pointer (some a))).run P w=.ok (.bool !false) w):=by
 have e:v=.pointer none:=by
  cases v <;> simp [Bt] at hv;rename_i p;cases p <;> simp at hv;rfl
 subst e;have h1:∀w,(Op.equal t (.pointer (some a)) (.pointer none)).run P w=.ok false w:=Fw fun d w=> by simp [Op.equalIn,run_underlying hu]
 have h2:∀w,(Op.equal t (.pointer none) (.pointer (some a))).run P w=.ok false w:=Fw fun d w=> by simp [Op.equalIn,run_underlying hu]
 refine ⟨rfl,?_,?_,?_,?_⟩ <;> intro w <;> simp only [binOp] <;> simp [h1,h2]
theorem Re {e t:TypeId} {a:Addr} {n c:Nat} {v:Value} (hu:P.underlying t=some (.slice e)) (hv:Bt (.slice e) v=true):
 v.oneCell'=true∧(∀w,(binOp .eql t (.slice (some a) n c) v).run P w=.ok (.bool false) w)∧(∀w,(binOp .neq t (.slice (some a) n c) v).run P w=.ok (.bool !false) w):=by
 obtain ⟨n',c',e⟩:∃n' c',v=.slice none n' c':=by
  cases v <;> simp [Bt] at hv;rename_i p n' c';cases p <;> simp at hv;exact ⟨n',c',rfl⟩
 subst e;have h1:∀w,(Op.equal t (.slice (some a) n c) (.slice none n' c')).run P w=.ok false w:=Fw fun d w=> by simp [Op.equalIn,run_underlying hu]
 refine ⟨rfl,?_,?_⟩ <;> intro w <;> simp only [binOp] <;> simp [h1]
theorem Uf {k e t:TypeId} {r:Nat} {v:Value} (hu:P.underlying t=some (.map k e)) (hv:Bt (.map k e) v=true):
 (∀w,(binOp .eql t (.map (some r)) v).run P w=.ok (.bool false) w)∧(∀w,(binOp .neq t (.map (some r)) v).run P w=.ok (.bool !false) w):=by
 have e:v=.map none:=by
  cases v <;> simp [Bt] at hv;rename_i p;cases p <;> simp at hv;rfl
 subst e;have h1:∀w,(Op.equal t (.map (some r)) (.map none)).run P w=.ok false w:=Fw fun d w=> by simp [Op.equalIn,run_underlying hu]
 refine ⟨?_,?_⟩ <;> intro w <;> simp only [binOp] <;> simp [h1]
theorem Sf {op:BinOp} {xT:TypeId} {x y:Operand} {a b:AU} {va vb:Value} (hra:Ao ρ a va) (hrb:Ao ρ b vb):
 MV P E s ρ (Gq P op xT x y a b s) (do eqGuard op xT x y va vb;binOp op xT va vb):=by
 unfold Gq
 split
 · rename_i va' vb' ha hb;have e1:=Bp ha hra;have e2:=Bp hb hrb;subst e1;subst e2
   split
   · rename_i v hv;exact MV.cv fun w=> Br hv w
   · rename_i hn
     split
     · exact MV.nan' rfl hn
     · exact MV.nan' rfl hn
     · exact MV.nan' rfl hn
     · exact MV.nan' rfl hn
     · exact MV.bad
 · split
   · rename_i n _;obtain ⟨x1,rfl,h1,h2⟩:=hra;have e:vb=_:=hrb;subst e;cases hb:Nat.beq n 9223372036854775808 with
     | false=> exact MV.bad
     | true=>
      have e:=Nat.eq_of_beq_eq_true hb;subst e;dsimp only [cond]
      split
      · exact Us h1 h2 (.inl rfl)
      · exact Us h1 h2 (.inr rfl)
      · exact MV.bad
   · obtain ⟨x1,rfl,h1,_⟩:=hra;obtain ⟨x2,rfl,h2⟩:=hrb;exact Io (.inl h1)
   · obtain ⟨x1,rfl,h1,_⟩:=hra;have e:vb=_:=hrb;subst e;exact Io (.inl h1)
   · obtain ⟨x1,rfl,h1,_⟩:=hrb;have e:va=_:=hra;subst e;exact Io (.inr h1)
   · obtain ⟨b1,n1,_,rfl⟩:=hra;have e:vb=_:=hrb;subst e
     split
     · rename_i e' hu;cases hv:Bt (.pointer e') _ with
       | false=> exact MV.bad
       | true=>
        obtain ⟨_,h1,h2,_⟩:=Qr (a:=⟨b1,_,none⟩) hu hv;exact Dz (Cz op xT x y rfl (by simp)) h1 h2
     · exact MV.bad
   · obtain ⟨b1,n1,_,rfl⟩:=hrb;have e:va=_:=hra;subst e
     split
     · rename_i e' hu;cases hv:Bt (.pointer e') _ with
       | false=> exact MV.bad
       | true=>
        obtain ⟨_,_,_,h1,h2⟩:=Qr (a:=⟨b1,_,none⟩) hu hv;exact Dz (Mz op xT x y rfl (by simp)) h1 h2
     · exact MV.bad
   · obtain ⟨b1,n1,c1,_,rfl,_⟩:=hra;have e:vb=_:=hrb;subst e
     split
     · rename_i e' hu;cases hv:Bt (.slice e') _ with
       | false=> exact MV.bad
       | true=>
        obtain ⟨_,h1,h2⟩:=Re (a:=⟨b1,_,none⟩) (n:=_) (c:=c1) hu hv;exact Dz (Cz op xT x y rfl (by simp)) h1 h2
     · exact MV.bad
   · obtain ⟨b1,n1,_,rfl⟩:=hra;have e:vb=_:=hrb;subst e
     split
     · rename_i k' e' hu;cases hv:Bt (.map k' e') _ with
       | false=> exact MV.bad
       | true=>
        obtain ⟨h1,h2⟩:=Uf (r:=b1) hu hv;exact Dz (Cz op xT x y rfl (by simp)) h1 h2
     · exact MV.bad
   · obtain ⟨b1,n1,k1,rfl⟩:=hra;obtain ⟨b2,n2,k2,rfl⟩:=hrb
     split
     · rename_i e' hu
       split
       · rename_i n hs;cases hc:(Nat.blt 0 n && Nat.beq _ _) with
         | false=> exact MV.bad
         | true=>
          simp only [Bool.and_eq_true] at hc;have e:=Nat.eq_of_beq_eq_true hc.2;subst e;rw [k1] at k2;cases k2;obtain ⟨h1,h2⟩:=Su (b:=b1) (off:=_) (off':=_) hu hs (Nat.le_of_ble_eq_true hc.1);exact Dz (Cz op xT x y rfl (by simp)) h1 h2
       · exact MV.bad
     · exact MV.bad
   · obtain ⟨b1,n1,_,rfl⟩:=hra;have e:vb=_:=hrb;subst e
     split
     · rename_i ms hu;obtain ⟨h1,h2⟩:=Rp hu;exact Dz (Cz op xT x y rfl (by simp)) h1 h2
     · exact MV.bad
   · exact MV.bad
theorem Jr (k:IntKind) (n:Nat) (h:n≤mxK k):k.wrap (n:Int)=n:=by
 cases k <;> simp [mxK] at h <;> simp [IntKind.wrap,IntKind.bits,IntKind.signed] <;> (try split) <;> omega
theorem Rm {op:BinOp} {k:IntKind} {m n:Nat} {v:Value} (h:Pm op k m n=some v) (t:TypeId) (w:World):(binOp op t (.int k m) (.int k n)).run P w=.ok v w:=by
 have hb:∀a b:Nat,((a:Int)==(b:Int))=Nat.beq a b:=fun a b=> by
  cases e:Nat.beq a b with
  | true=> rw [Nat.eq_of_beq_eq_true e];simp
  | false=>
   have:a≠b:=fun e2=> by subst e2;simp at e
   have h2:¬(a:Int)=b:=by omega
   simp [h2]
 have hl:∀a b:Nat,decide (a < b)=Nat.blt a b:=fun a b=> by
  cases e:Nat.blt a b with
  | true=> have:a < b:=Nat.le_of_ble_eq_true e;simp;omega
  | false=>
   have:¬a < b:=fun h=> by have:=Nat.ble_eq_true_of_le (Nat.succ_le_of_lt h);rw [show Nat.ble (a+1) b=Nat.blt a b from rfl,e] at this;cases this
   simp;omega
 have hle:∀a b:Nat,decide (a≤b)=Nat.ble a b:=fun a b=> by
  cases e:Nat.ble a b with
  | true=> have:=Nat.le_of_ble_eq_true e;simp;omega
  | false=>
   have:¬a≤b:=fun h=> by rw [Nat.ble_eq_true_of_le h] at e;cases e
   simp;omega
 cases op <;> simp only [Pm] at h <;> first | (cases h;done) | skip
 · cases hc:Nat.ble (Nat.add m n) (mxK k) <;> rw [hc] at h <;> cases h;have:=Jr k (m+n) (Nat.le_of_ble_eq_true hc);simp only [binOp,Op.intArith,ne_eq,not_true_eq_false,if_false,Sem.run_pure];rw [show ((m:Int)+(n:Int))=((m+n:Nat):Int) by omega,this]
   rfl
 · cases hc:(Nat.ble n m && Nat.ble m (mxK k)) <;> rw [hc] at h <;> cases h;simp only [Bool.and_eq_true] at hc;have h1:=Nat.le_of_ble_eq_true hc.1;have h2:=Nat.le_of_ble_eq_true hc.2;have:=Jr k (m - n) (by omega);simp only [binOp,Op.intArith,ne_eq,not_true_eq_false,if_false,Sem.run_pure];rw [show ((m:Int) - (n:Int))=((m - n:Nat):Int) by omega,this]
   rfl
 · cases hc:Nat.ble (Nat.mul m n) (mxK k) <;> rw [hc] at h <;> cases h;have:=Jr k (m * n) (Nat.le_of_ble_eq_true hc);simp only [binOp,Op.intArith,ne_eq,not_true_eq_false,if_false,Sem.run_pure];rw [show ((m:Int) * (n:Int))=((m * n:Nat):Int) by simp,this]
   rfl
 all_goals cases h
 all_goals simp [binOp,Op.intCmp]
 · exact hb m n
 · rw [bne,hb]
 · exact hl m n
 · exact hle m n
 · exact hl n m
 · exact hle n m
theorem Rq (op:BinOp) (t:TypeId) (x y:Operand) (k k':IntKind) (a b:Int) (w:World):(eqGuard op t x y (.int k a) (.int k' b)).run P w=.ok () w:=by
 unfold eqGuard;cases op <;> simp
theorem Vi {k k':IntKind} (h:Nat.beq (kNo k) (kNo k')=true):k=k':=by
 cases k <;> cases k' <;> first | rfl | (simp [kNo] at h)
theorem Ts {op:BinOp} {xT:TypeId} {x y:Operand} {a b:AU}:UpR s (Kx P op xT x y a b s):=by
 unfold Kx
 split
 · rw [Bz];exact UpR.v
 · exact Se
theorem Tt {op:BinOp} {xT:TypeId} {x y:Operand} {a b:AU} {va vb:Value} (hra:Ao ρ a va) (hrb:Ao ρ b vb):
 MV P E s ρ (Kx P op xT x y a b s) (do eqGuard op xT x y va vb;binOp op xT va vb):=by
 unfold Kx
 split
 · rename_i v hv;unfold Qw at hv
   split at hv
   · split at hv
     · rename_i k m _ k' n;have e1:va=_:=hra;have e2:vb=_:=hrb;subst e1;subst e2;cases hk:Nat.beq (kNo k) (kNo k') with
       | false=> rw [hk] at hv;cases hv
       | true=>
        rw [hk] at hv;obtain rfl:=Vi hk;exact MV.cv fun w=> by rw [Cs (Rq op xT x y k k (Int.ofNat m) (Int.ofNat n))];exact Rm hv xT w
     · cases hv
   · cases hv
 · exact Sf hra hrb
theorem Ku {t:TypeId} {x:AU} {i:Nat}:UpR s (Cd P t x i s):=by
 unfold Cd
 repeat' split
 all_goals first | exact UpR.bad | exact UpR.v
theorem Kv {t:TypeId} {x:AU} {i:Nat} {vx:Value} (hr:Ao ρ x vx):MV P E s ρ (Cd P t x i s) (Instr.fieldAt t vx i):=by
 unfold Cd
 split
 · rename_i fields hu
   split
   · rename_i f hf
     split
     · exact MV.bad
     · rename_i n hne hn
       split
       · rename_i id off;obtain ⟨b,m,hb,rfl⟩:=hr;refine MV.pure (v:=.pointer (some ⟨b,off+f.offset,none⟩)) (fun w=> ?_) ⟨b,m,hb,rfl⟩;have h0:n≠0:=fun e=> hne (e ▸ rfl)
         simp [Instr.fieldAt,run_underlying hu,hf,Instr.sureAddr,fieldPlace,Bf hn,h0,Bh]
       · rename_i id k;obtain ⟨b,m,hb,rfl⟩:=hr;refine MV.pure (v:=.pointer (some ⟨b,m+(k+f.offset),none⟩)) (fun w=> ?_) ⟨b,m,hb,rfl⟩;have h0:n≠0:=fun e=> hne (e ▸ rfl)
         simp [Instr.fieldAt,run_underlying hu,hf,Instr.sureAddr,fieldPlace,Bf hn,h0,Bh,Nat.add_assoc]
       · exact MV.bad
     · exact MV.bad
   · exact MV.bad
 · exact MV.bad
theorem Oa {t:TypeId} {l:List AC} {off:Nat} {x:AU} {cs:List Value} (h:Hf P t l off=some x) (hr:Bv ρ l cs):
 ∃v,(∀w,(part t cs.toArray off).run P w=.ok v w)∧Ao ρ x v:=by
 unfold Hf at h;cases hu:P.underlying t with
 | none=> simp [hu] at h
 | some d=>
  simp only [hu] at h;have agg:∀n r,Bq P t=some n→Hg l off n=some r→((∃fs,d=.struct fs)∨∃k e,d=.array k e)→∃v,(∀w,(part t cs.toArray off).run P w=.ok v w)∧Ao ρ (.g r) v:=by
   intro n r hn hp hd;obtain ⟨vs,h1,h2,h3,_⟩:=Dc hp hr;refine ⟨.agg vs.toArray,fun w=> ?_,vs,rfl,h1⟩;have he:cs.toArray.extract off (off+n)=vs.toArray:=by
    rw [h3];simp [List.extract_eq_take_drop]
   rcases hd with ⟨fs,rfl⟩ | ⟨k,e,rfl⟩ <;> simp [part,isAgg,run_underlying hu,Bf hn] <;> simpa using he
  have cell:∀a t',l.drop off=a::t'→(∀fs,d≠ .struct fs)→(∀k e,d≠ .array k e)→∃v,(∀w,(part t cs.toArray off).run P w=.ok v w)∧Ao ρ (.o a) v:=by
   intro a t' hc h1 h2;obtain ⟨v,h3,h4⟩:=Oh hc hr;refine ⟨v,fun w=> ?_,h3⟩;have h5:cs[off]? =some v:=by simpa using h4 []
   have h6:(isAgg t).run P w=.ok false w:=by
    cases d <;> first | exact absurd rfl (h1 _) | exact absurd rfl (h2 _ _) | simp [isAgg,run_underlying hu]
   simp [part,h6,h5]
  split at h
  · split at h
    · rename_i n hn
      split at h
      · rename_i r hp;cases h;exact agg n r hn hp (.inl ⟨_,rfl⟩)
      · cases h
    · cases h
  · split at h
    · rename_i n hn
      split at h
      · rename_i r hp;cases h;exact agg n r hn hp (.inr ⟨_,_,rfl⟩)
      · cases h
    · cases h
  · rename_i h1 h2
    split at h
    · rename_i a t' hc;cases h;exact cell a t' hc (fun fs e=> h1 fs e) (fun k e he=> h2 k e he)
    · cases h
theorem Qa {t:TypeId} {x:AU} {i:Nat}:UpR s (Ey P t x i s):=by
 unfold Ey
 repeat' split
 all_goals first | exact UpR.bad | exact UpR.v
theorem Qb {t:TypeId} {x:AU} {i:Nat} {vx:Value} (hr:Ao ρ x vx):MV P E s ρ (Ey P t x i s) (Instr.field t vx i):=by
 unfold Ey
 split
 · rename_i fields hu
   split
   · rename_i f hf
     split
     · rename_i l
       split
       · rename_i y hy;obtain ⟨cs,rfl,hl⟩:=hr;obtain ⟨v,h1,h2⟩:=Oa hy hl;refine MV.pure (v:=v) (fun w=> ?_) h2
         simp [Instr.field,run_underlying hu,hf,asAgg,h1]
       · exact MV.bad
     · exact MV.bad
   · exact MV.bad
 · exact MV.bad
theorem Dd {x:AU} {n:Nat} {v:Value} (h:Ja (some x)=some n) (hr:Ao ρ x v):∃k,v=.int k (Int.ofNat n):=by
 unfold Ja at h
 split at h
 · rename_i k m hx;cases hx
   split at h
   · cases h;exact ⟨k,hr⟩
   · cases h
 · cases h
theorem Kr {t:TypeId} {x ix:AU}:UpR s (Cc P t x ix s):=by
 unfold Cc
 repeat' split
 all_goals first
  | exact UpR.bad
  | (cases Nat.blt _ _ <;> first | exact UpR.bad | exact UpR.v)
theorem Db {a b:Nat} (h:Nat.blt a b=true):a < b:=by
 unfold Nat.blt at h;exact Nat.le_of_ble_eq_true h
theorem Ks {t:TypeId} {x ix:AU} {vx vi:Value} (hr:Ao ρ x vx) (hi:Ao ρ ix vi):MV P E s ρ (Cc P t x ix s) (Instr.indexAt t vx vi):=by
 unfold Cc
 split
 · rename_i i hn;obtain ⟨k,rfl⟩:=Dd hn hi
   split
   · rename_i len e id off hu
     split
     · rename_i n hs;cases hb:Nat.blt i len with
       | false=> exact MV.bad
       | true=>
        obtain ⟨b,m,h1,rfl⟩:=hr;have hlt:=Db hb;refine MV.pure (v:=.pointer (some ⟨b,off+i * n,none⟩)) (fun w=> ?_) ⟨b,m,h1,rfl⟩;have h2:(0:Int)≤ (i:Int)∧(i:Int) < (len:Int):=⟨by omega,by omega⟩
        simp [Instr.indexAt,asIntOf,run_underlying hu,Instr.sureAddr,h2,Bf hs,Bh,hlt]
     · exact MV.bad
   · rename_i e id off len cap hu
     split
     · rename_i n hs;cases hb:Nat.blt i len with
       | false=> exact MV.bad
       | true=>
        obtain ⟨b,m,c,h1,rfl,_⟩:=hr;have hlt:=Db hb;refine MV.pure (v:=.pointer (some ⟨b,off+i * n,none⟩)) (fun w=> ?_) ⟨b,m,h1,rfl⟩;have h2:(0:Int)≤ (i:Int)∧(i:Int) < (len:Int):=⟨by omega,by omega⟩
        simp [Instr.indexAt,asIntOf,run_underlying hu,h2,Bf hs,Bh,hlt]
     · exact MV.bad
   · rename_i e id len hu
     split
     · rename_i n hs;cases hb:Nat.blt i len with
       | false=> exact MV.bad
       | true=>
        obtain ⟨b,m,c,h1,rfl⟩:=hr;have hlt:=Db hb;refine MV.pure (v:=.pointer (some ⟨b,m+i * n,none⟩)) (fun w=> ?_) ⟨b,m,h1,rfl⟩;have h2:(0:Int)≤ (i:Int)∧(i:Int) < (len:Int):=⟨by omega,by omega⟩
        simp [Instr.indexAt,asIntOf,run_underlying hu,h2,Bf hs,Bh,hlt]
     · exact MV.bad
   · exact MV.bad
 · exact MV.bad
theorem Py {t:TypeId} {x ix:AU}:UpR s (Ex P t x ix s):=by
 unfold Ex
 repeat' split
 all_goals first
  | exact UpR.bad
  | (rw [Bz];exact UpR.v)
  | (cases Nat.blt _ _ <;> first | exact UpR.bad | exact UpR.v)
theorem Pz {t:TypeId} {x ix:AU} {vx vi:Value} (hr:Ao ρ x vx) (hi:Ao ρ ix vi):MV P E s ρ (Ex P t x ix s) (Instr.index t vx vi):=by
 unfold Ex
 split
 · rename_i l
   split
   · rename_i i len e hn hu;obtain ⟨k,rfl⟩:=Dd hn hi
     split
     · rename_i n hs;cases hb:Nat.blt i len with
       | false=> exact MV.bad
       | true=>
        dsimp only [cond]
        split
        · rename_i y hy;obtain ⟨cs,rfl,hl⟩:=hr;obtain ⟨v,h1,h2⟩:=Oa hy hl;have hlt:=Db hb;refine MV.pure (v:=v) (fun w=> ?_) h2
          simp [Instr.index,asIntOf,run_underlying hu,hlt,Bf hs,h1]
        · exact MV.bad
     · exact MV.bad
   · exact MV.bad
 · split
   · rename_i i hc;have e:=Bp hc hi;subst e;have e:vx=_:=hr;subst e
     split
     · rename_i v hv;exact MV.cv fun w=> Br hv w
     · exact MV.bad
   · exact MV.bad
 · exact MV.bad
end
end Go.Ev
namespace Go.Ev
open Go.RowKit
section
variable {P:Program} {E:Kn} {s:S} {ρ:Env}
theorem Gt:∀ {l:List AC} {bs:List UInt8} {vs:List Value},Iq l=some bs→Bv ρ l vs→∃ns:List Int,vs=ns.map (Value.int .u8)∧bs=ns.map (fun n=> UInt8.ofNat n.toNat)
 | [],bs, [],h,_=> by simp [Iq] at h;exact ⟨[],by simp [h]⟩
 | [],_,_::_,_,hr=> hr.elim
 | a::l,bs, [],h,hr=> hr.elim
 | a::l,bs,v::vs,h,hr=> by
  unfold Iq at h
  split at h
  · cases ‹_::_= []›
  · rename_i n l' heq;cases heq
    split at h
    · rename_i bs' hb;cases h;obtain ⟨ns,rfl,rfl⟩:=Gt hb hr.2;have e:v=.int .u8 n:=hr.1;subst e;exact ⟨n::ns,rfl,rfl⟩
    · cases h
  · cases h
theorem Nz:∀ (ns:List Int) (acc:ByteArray),ns.foldl (fun r n=> r.push (UInt8.ofNat n.toNat)) acc=⟨acc.data++(ns.map (fun n=> UInt8.ofNat n.toNat)).toArray⟩
 | [],acc=> by simp
 | n::ns,acc=> by
  rw [List.foldl_cons,Nz ns]
  simp [ByteArray.push]
theorem Hj {w:World} {b k m:Nat}:(∀i,i≠b→(w.freeze ⟨b,k,none⟩ m).heap[i]? =w.heap[i]?)∧(w.freeze ⟨b,k,none⟩ m).heap.size=w.heap.size∧
 (w.freeze ⟨b,k,none⟩ m).os=w.os∧(w.freeze ⟨b,k,none⟩ m).tape=w.tape∧(w.freeze ⟨b,k,none⟩ m).output=w.output:=by
 unfold World.freeze
 split
 · exact ⟨fun _ _=> rfl,rfl,rfl,rfl,rfl⟩
 · refine ⟨fun i hi=> ?_,by simp,rfl,rfl,rfl⟩;simp only [Array.getElem?_modify];rw [if_neg (fun e=> hi e.symm)]
theorem Rr {w:World} {b k:Nat} {cur:Array Value} {ty:TypeId} (h:w.heap[b]? =some (.cells cur ty (0,0))):(w.freeze ⟨b,k,none⟩ 1).heap[b]? =some (.cells cur ty (k,k+1)):=by
 unfold World.freeze;rw [if_neg (by simp)];simp only [Array.getElem?_modify,h]
 simp
theorem Ud (w:World) (e:TypeId) (bs:ByteArray):∃ (c:Nat) (W:World),bs.size≤c∧(Conv.stringToBytes e bs).run P w=.ok (.slice (some ⟨w.heap.size,0,none⟩) bs.size c) W∧Below w.heap.size w W∧
 W.heap[w.heap.size]? =some (.cells ((bs.data.toList.map fun (b:UInt8)=> Value.int .u8 (b.toNat:Int))++List.replicate (c - bs.size) (Value.int .u8 0)).toArray e (c,c+1))∧
 ((bs.data.toList.map fun (b:UInt8)=> Value.int .u8 (b.toNat:Int))++List.replicate (c - bs.size) (Value.int .u8 0)).length=c:=by
 obtain ⟨c,hc',hge⟩:∃c,(Question.appendCap bs.size 0 e).cut (w.tape w.drawn (.appendCap bs.size 0 e))=c∧bs.size≤c:=⟨_,rfl,by simp [Question.cut]⟩;have hbs:bs.size=bs.data.size:=rfl;have hlen:((bs.data.toList.map fun (b:UInt8)=> Value.int .u8 (b.toNat:Int))++List.replicate (c - bs.size) (Value.int .u8 0)).length=c:=by
  simp [←hbs];omega
 have hb0:=heap_alloc_new w.drew (.cells (bs.data.map (fun (b:UInt8)=> Value.int .u8 (b.toNat:Int))++Array.replicate (c - bs.size) (Value.int .u8 0)) e);have hcells:(bs.data.map (fun (b:UInt8)=> Value.int .u8 (b.toNat:Int))++Array.replicate (c - bs.size) (Value.int .u8 0))=((bs.data.toList.map fun (b:UInt8)=> Value.int .u8 (b.toNat:Int))++List.replicate (c - bs.size) (Value.int .u8 0)).toArray:=by
  apply Array.ext';simp
 generalize hW:w.drew.alloc (.cells (bs.data.map (fun (b:UInt8)=> Value.int .u8 (b.toNat:Int))++Array.replicate (c - bs.size) (Value.int .u8 0)) e)=W1 at hb0;have hA:Below w.heap.size w W1:=by rw [←hW];exact Below.alloc (Below.drew (Below.refl _ _)) (Nat.le_refl _) _
 have hb0':W1.heap[w.heap.size]? =some (.cells ((bs.data.toList.map fun (b:UInt8)=> Value.int .u8 (b.toNat:Int))++List.replicate (c - bs.size) (Value.int .u8 0)).toArray e (0,0)):=by
  rw [←hcells];exact hb0
 obtain ⟨f1,f2,f3,f4,f5⟩:=Hj (w:=W1) (b:=w.heap.size) (k:=c) (m:=1);have hsh:W1.shape? w.heap.size=some (e,c):=by
  simp only [World.shape?,hb0',List.size_toArray,hlen]
 refine ⟨c,W1.freeze ⟨w.heap.size,c,none⟩ 1,hge,?_,hA.trans ⟨f3,f4,f5,by rw [f2];exact Nat.le_refl _,fun k hk=> f1 k (by omega)⟩,Rr hb0',hlen⟩;have hrun:(newRow e (bs.data.map (fun (b:UInt8)=> Value.int .u8 (b.toNat:Int))++Array.replicate (c - bs.size) (Value.int .u8 0))).run P w.drew=.ok ⟨w.heap.size,0,none⟩ W1:=by
  rw [←hW];simp [newRow]
 simp only [Conv.stringToBytes,Sem.run_bind,run_choose,Question.forced,Bool.false_eq_true,if_false,hc',World.drew_eq,Result.andThen_ok,hrun,markStringish,run_shape,hsh,run_freeze,Sem.run_pure]
theorem Ub (w:World) {src dst t:TypeId} {b off n k:Nat} {ty:TypeId} (hs:P.underlying src=some (.pointer t)) (hd:P.underlying dst=some .unsafePointer) (hn:Bq P t=some n) (h0:n≠0) (hsh:w.shape? b=some (ty,k)) (hlt:off < k):
 (convert src dst (.pointer (some ⟨b,off,none⟩))).run P w=.ok (.pointer (some ⟨b,off,none⟩)) w:=by
 have h1:¬k≤off:=by omega
 simp [convert,Conv.unsafePointer,Conv.seenAt,viewAt,cellsIn,run_underlying hs,run_underlying hd,hsh,Bf hn,h0,h1]
theorem Rd (w:World) {src dst u:TypeId} {b off n k:Nat} {ty:TypeId} (hs:P.underlying src=some .unsafePointer) (hd:P.underlying dst=some (.pointer u)) (hsh:w.shape? b=some (ty,k)) (hlt:liesAt P P.depth ty (k / P.cellsOf ty) off u 1=true) (hn:Bq P u=some n):
 (convert src dst (.pointer (some ⟨b,off,none⟩))).run P w=.ok (.pointer (some ⟨b,off,none⟩)) w:=by
 by_cases h0:n=0 <;> simp [convert,Conv.unsafePointer,Conv.seenAt,viewAt,cellsIn,run_underlying hs,run_underlying hd,hsh,variablesAt,hlt,h0,Bf hn]
theorem Rw {src dst:TypeId} {id off:Nat}:UpR s (Ih P src dst id off s):=by
 unfold Ih
 repeat' split
 all_goals first
  | exact UpR.bad
  | exact UpR.vt
  | (cases (Nat.blt _ _ && Nat.blt _ _) <;> first | exact UpR.bad | exact UpR.vt)
theorem Rx {src dst:TypeId} {id off:Nat} {va:Value} (hr:Hb ρ (.p id off) va):MV P E s ρ (Ih P src dst id off s) (convert src dst va):=by
 unfold Ih
 split
 · rename_i t hs hd
   split
   · rename_i n hn
     split
     · rename_i ty cells kd hob;cases hc:(Nat.blt 0 n && Nat.blt off cells.length) with
       | false=> exact MV.bad
       | true=>
        simp only [Bool.and_eq_true] at hc;have hc1:0 < n:=Nat.le_of_ble_eq_true hc.1;have hc2:off < cells.length:=Nat.le_of_ble_eq_true hc.2;refine MV.look fun B0 w0 G w h hG=> ?_
        obtain ⟨b,m,hb,rfl⟩:=hr;rw [hob] at hG;obtain ⟨head,rest,fr,tyb,h1,h2,_⟩:=h.row hG hb;have hl:=h2.length;refine ⟨.pointer (some ⟨b,off,none⟩),?_,b,m,hb,rfl⟩;have hsh:w.shape? b=some (tyb,(head++rest).length):=by simp [World.shape?,h1]
        exact Ub w hs hd hn (by omega) hsh (by simp;omega)
     · exact MV.bad
   · exact MV.bad
 · rename_i u hs hd
   split
   · rename_i ty cells hob
     split
     · rename_i n hn
       split
       · rename_i hl;refine MV.look fun B0 w0 G w h hG=> ?_
         obtain ⟨b,m,hb,rfl⟩:=hr;rw [hob] at hG;obtain ⟨head,rest,fr,tyb,h1,h2,h3,h4,h5⟩:=h.row hG hb;obtain rfl:=(h5 (by simp)).1;have hsh:w.shape? b=some (tyb,cells.length):=by simp [World.shape?,h1];simp at h3;have:=h4 rfl;omega
         exact ⟨.pointer (some ⟨b,off,none⟩),Rd w hs hd hsh hl hn,b,m,hb,rfl⟩
       · exact MV.bad
     · exact MV.bad
   · exact MV.bad
 · exact MV.bad
theorem Ng {src dst:TypeId} {a:AU}:UpR s (Cv P src dst a s):=by
 unfold Cv
 repeat' split
 all_goals first
  | exact UpR.bad
  | (rw [Bz];exact UpR.v)
  | (rw [Bz];exact UpR.vt)
  | exact UpR.new fun _ _=> UpR.v
  | exact Rw
  | exact UpR.v
theorem Ly (ρ:Env) (l:List UInt8):Bv ρ (l.map fun x=> .c (.int .u8 x.toNat)) (l.map fun b=> Value.int .u8 b.toNat):=by
 induction l with
 | nil=> trivial
 | cons x l ih=> exact ⟨rfl,ih⟩
theorem Nh {src dst:TypeId} {a:AU} {va:Value} (hr:Ao ρ a va):MV P E s ρ (Cv P src dst a s) (convert src dst va):=by
 unfold Cv
 split
 · rename_i id off;exact Rx hr
 · rename_i k0;obtain ⟨n,rfl⟩:=hr
   split
   · rename_i d k hs hd;exact MV.pure (v:=.int k (k.wrap n)) (fun w=> by simp [convert,run_underlying hs,run_underlying hd,Conv.intToInt]) ⟨_,rfl⟩
   · exact MV.bad
 · obtain ⟨b,rfl⟩:=hr
   split
   · rename_i d hs hd;refine MV.pure (v:=.string b) (fun w=> ?_) ⟨b,rfl⟩;simp only [convert,Sem.run_bind,run_underlying hs,run_underlying hd,Result.andThen_ok];cases d <;> rfl
   · exact MV.bad
 · rename_i id off len cap
   split
   · rename_i e hs hd
     split
     · rename_i he
       split
       · rename_i ty cells kd hob
         split
         · rename_i r hp
           split
           · rename_i bs hbs;rw [Bz];refine MV.look fun B0 w0 G w h hG=> ?_
             obtain ⟨b,n,c,hb,rfl,_⟩:=hr;rw [hob] at hG;obtain ⟨head,rest,fr,tyb,h1,h2,_⟩:=h.row hG hb;obtain ⟨vs,h3,h4,_,h5⟩:=Dc hp h2;obtain ⟨ns,rfl,rfl⟩:=Gt hbs h3;have hl:=run_loadCells_list (P:=P) w ⟨b,off,none⟩ (ns.map (Value.int .u8)) (fun j v hv=> by rw [Bh,Da h1];exact h5 rest j v hv);rw [h4] at hl;refine ⟨.string ⟨(ns.map (fun (n:Int)=> UInt8.ofNat n.toNat)).toArray⟩,?_,Bm ρ (.string _)⟩;rw [run_convert_bytes_string w src dst e _ _ _ hs he hd,run_bytesToString w _ _ _ ns hl,Nz]
             simp
           · exact MV.bad
         · exact MV.bad
       · exact MV.bad
     · exact MV.bad
   · exact MV.bad
 · split
   · rename_i v hc;have e:=Bp hc hr;subst e
     split
     · rename_i v hv;exact MV.cv fun w=> Br hv w
     · split
       · rename_i d e' bs hs hd _
         split
         · rename_i he;intro x s' e B0 w0 G w h ha;obtain ⟨hn,e1⟩:=Cj e;cases e1;obtain ⟨c,W,hge,hrun,hbel,hb1,hlen⟩:=Ud (P:=P) w e' bs;have hl:=El (kd:=.op) h hbel hn ha (Nat.le_refl _) hb1 (fun i hi=> by rw [hlen] at hi;intro hh;simp at hh;omega) (Ly ρ bs.data.toList) (fun e=> by cases e);refine ⟨_,_,_,.slice (some ⟨w.heap.size,0,none⟩) bs.size c,?_,?_,hl⟩
           · cases d <;> simp only [convert,Sem.run_bind,run_underlying hs,run_underlying hd,run_underlying he,Result.andThen_ok,hrun]
           · exact ⟨_,_,_,Ch _ _ _,rfl,by dsimp only;rw [hlen];simp,hge⟩
         · exact MV.bad
       · exact MV.bad
   · exact MV.bad
end
end Go.Ev
namespace Go.Ev
open Go.RowKit
section
variable {P:Program} {E:Kn} {s:S} {ρ:Env}
theorem Md (off:Nat):∀ (xs:List Value) (k:Nat) (cs:List Value),off+k+xs.length≤cs.length→
 ((xs.zipIdx k).foldl (fun (cs:Array Value) (q:Value × Nat)=> cs.setIfInBounds (off+q.2) q.1) cs.toArray)=(spl cs (off+k) xs).toArray
 | [],k,cs,h=> by simp [spl]
 | x::xs,k,cs,h=> by
  rw [List.zipIdx_cons,List.foldl_cons];have hlt:off+k < cs.length:=by simp at h;omega
  have e:cs.toArray.setIfInBounds (off+k) x=(cs.set (off+k) x).toArray:=by simp
  rw [e,Md off xs (k+1) (cs.set (off+k) x) (by simp at h⊢;omega),←Nat.add_assoc,Nu cs (off+k) x xs (by simpa using h)]
theorem Hn {place:Nat→Option (Nat × Nat)}:∀ {ps:List (Nat × AU)} {vs:List (Nat × Value)} {cells r:List AC} {cs:List Value},
 Kh place cells ps=some r→All2 (fun (p:Nat × AU) (v:Nat × Value)=> p.1=v.1∧Ao ρ p.2 v.2) ps vs→Bv ρ cells cs→∃out:List Value,Instr.fill place cs.toArray vs=some out.toArray∧Bv ρ r out
 | [], [],cells,r,cs,h,_,hc=> by simp [Kh] at h;subst h;exact ⟨cs,rfl,hc⟩
 | [],v::vs,cells,r,cs,h,hp,hc=> hp.elim
 | p::ps, [],cells,r,cs,h,hp,hc=> hp.elim
 | (i,x)::ps,(j,v)::vs,cells,r,cs,h,hp,hc=> by
  obtain ⟨⟨e,hx⟩,hp⟩:=hp;dsimp only at e hx;subst e;unfold Kh at h;cases hpl:place i with
  | none=> simp [hpl] at h
  | some q=>
   obtain ⟨off,size⟩:=q;simp only [hpl] at h
   split at h
   · rename_i xs hxs;have hrel:=Gs hxs hx;cases hb:(Nat.beq xs.length size && Nat.ble (off+xs.length) cells.length) with
     | false=> simp [hb] at h
     | true=>
      simp only [hb,cond_true] at h;simp only [Bool.and_eq_true] at hb;have h1:=Nat.eq_of_beq_eq_true hb.1;have h2:=Nat.le_of_ble_eq_true hb.2;have hl:=hrel.length;have hcl:=hc.length;have hvs:v.cells.size=size:=by rw [←h1,hl];simp
      obtain ⟨out,h3,h4⟩:=Hn h hp (Ge off hc hrel);refine ⟨out,?_,h4⟩;unfold Instr.fill;simp only [hpl];rw [if_neg (by simp only [ne_eq,Bool.or_eq_true,decide_eq_true_eq,not_or,Decidable.not_not,List.size_toArray];omega)];have hf:(v.cells.zipIdx.foldl (fun (cs:Array Value) (q:Value × Nat)=> cs.setIfInBounds (off+q.2) q.1) cs.toArray)=(spl cs off v.cells.toList).toArray:=by
       rw [←Array.foldl_toList,Array.toList_zipIdx];exact Md off v.cells.toList 0 cs (by simp;omega)
      exact hf ▸ h3
   · cases h
theorem Iz:∀ {fs:List Field} {pl:List (Nat × Nat)},Fo P fs=some pl→fs.mapM (fun f=> (P.info? f.type).map fun i=> (f.offset,i.size))=some pl
 | [],pl,h=> by simp [Fo] at h;subst h;rfl
 | f::fs,pl,h=> by
  unfold Fo at h;cases hi:P.info? f.type with
  | none=> simp [Bq,hi] at h
  | some i=>
   simp only [Bq,hi] at h
   split at h
   · rename_i r hr;cases h
     simp [List.mapM_cons,hi,Iz hr]
   · cases h
theorem Qe {t:TypeId} {ps:List (Nat × AU)}:UpR s (Ez P t ps s):=by
 unfold Ez
 repeat' split
 all_goals first | exact UpR.bad | exact UpR.v
theorem Qf {t:TypeId} {ps:List (Nat × AU)} {vs:List (Nat × Value)} (hr:All2 (fun (p:Nat × AU) (v:Nat × Value)=> p.1=v.1∧Ao ρ p.2 v.2) ps vs):
 MV P E s ρ (Ez P t ps s) (Instr.build t vs.toArray):=by
 unfold Ez
 split
 · exact MV.bad
 · rename_i z hz;have hz':∃i,P.info? t=some i∧i.zero=some z:=by
    unfold Gx at hz;cases hi:P.info? t with
    | none=> simp [hi] at hz
    | some i=> exact ⟨i,rfl,by simpa [hi] using hz⟩
   obtain ⟨it,hit,hzz⟩:=hz'
   split
   · rename_i fields hu
     split
     · rename_i pl hpl
       split
       · rename_i cs hcs;obtain ⟨out,h1,h2⟩:=Hn hcs hr (Ei ρ z.cells.toList);refine MV.pure (v:=.agg out.toArray) (fun w=> run_build w t vs.toArray out.toArray ?_) ⟨out,rfl,h2⟩;simp only [Program.built,hit,hu,hzz,Iz hpl]
         simpa using h1
       · exact MV.bad
     · exact MV.bad
   · rename_i k e hu
     split
     · rename_i n hn
       split
       · rename_i cs hcs;obtain ⟨out,h1,h2⟩:=Hn hcs hr (Ei ρ z.cells.toList);unfold Bq at hn;cases hie:P.info? e with
         | none=> simp [hie] at hn
         | some ie=>
          simp [hie] at hn
          subst hn;refine MV.pure (v:=.agg out.toArray) (fun w=> run_build w t vs.toArray out.toArray ?_) ⟨out,rfl,h2⟩;simp only [Program.built,hit,hu,hzz,hie]
          simpa using h1
       · exact MV.bad
     · exact MV.bad
   · exact MV.bad
def Bw (z:List Value):Nat→List Value
 | 0=> []
 | n+1=> z++Bw z n
theorem Ds (z:List Value):∀n,(Bw z n).length=n * z.length
 | 0=> by simp [Bw]
 | n+1=> by simp [Bw,Ds z n,Nat.add_mul];omega
theorem Hv (z:List Value):∀n,Bv ρ (Np z n) (Bw z n)
 | 0=> trivial
 | n+1=> All2.append (Ei ρ z) (Hv z n)
theorem Jq (z:Array Value) (hz:0 < z.size):∀ (n i:Nat),i < n * z.size→(Bw z.toList n)[i]? =some (z[i % z.size]!)
 | 0,i,h=> by simp at h
 | n+1,i,h=> by
  unfold Bw;rw [List.getElem?_append]
  split
  · rename_i hi
    simp at hi
    rw [Nat.mod_eq_of_lt hi]
    simp [hi]
  · rename_i hi
    simp at hi
    rw [Array.length_toList,Jq z hz n (i - z.size) (by rw [Nat.add_mul] at h;omega),Nat.mod_eq_sub_mod hi]
theorem Iy (z:Array Value) (n:Nat):((Array.range (n * z.size)).map (fun i=> z[i % z.size]!))=(Bw z.toList n).toArray:=by
 apply Array.ext'
 rcases Nat.eq_zero_or_pos z.size with h0 | h0
 · have:Bw z.toList n= []:=List.eq_nil_of_length_eq_zero (by rw [Ds];simp [h0])
   simp [h0,this]
 · apply List.ext_getElem?
   intro i
   by_cases hi:i < n * z.size
   · rw [show (Bw z.toList n).toArray.toList=Bw z.toList n from rfl,Jq z h0 n i hi]
     simp [hi]
   · rw [List.getElem?_eq_none (by simp;omega),List.getElem?_eq_none (by simp [Ds];omega)]
theorem Jh {t:TypeId} {n:Nat} {ps:List (Nat × AU)}:UpR s (Bu P t n ps s):=by
 unfold Bu
 repeat' split
 all_goals first
  | exact UpR.bad
  | (cases (Nat.ble _ _ && Nat.beq _ _) <;> first | exact UpR.bad | exact UpR.new fun _ _=> UpR.v)
theorem Ji {t:TypeId} {len:Nat} {ps:List (Nat × AU)} {vs:List (Nat × Value)} (hr:All2 (fun (p:Nat × AU) (v:Nat × Value)=> p.1=v.1∧Ao ρ p.2 v.2) ps vs):
 MV P E s ρ (Bu P t len ps s) (Instr.buildSlice t len vs.toArray):=by
 unfold Bu
 split
 · rename_i e hu
   split
   · rename_i n z hn hz;cases hb:(Nat.ble (len * n) 16777216 && Nat.beq z.cells.size n) with
     | false=> exact MV.bad
     | true=>
      dsimp only [cond];simp only [Bool.and_eq_true] at hb;have h16:=Nat.le_of_ble_eq_true hb.1;have hzs:=Nat.eq_of_beq_eq_true hb.2
      split
      · rename_i cs hcs;intro x s' e' B0 w0 G w h ha;obtain ⟨hnn,e1⟩:=Cj e';cases e1;obtain ⟨out,h1,h2⟩:=Hn hcs hr (Hv (ρ:=ρ) z.cells.toList len);have hb:(w.alloc (.cells out.toArray e)).heap[w.heap.size]? =some (.cells (out++ []).toArray e (0,0)):=by simpa using heap_alloc_new w (.cells out.toArray e)
        have hl:=El (cur:=out) (rest:= []) h (Below.alloc (Below.refl _ _) (Nat.le_refl _) (.cells out.toArray e)) hnn ha (Nat.le_refl _) hb (fun i _=> by simp) h2 (fun _=> rfl);refine ⟨_,_,_,.slice (some ⟨w.heap.size,0,none⟩) len len,?_,⟨_,_,_,Ch _ _ _,rfl,rfl,Nat.le_refl _⟩,hl⟩;have hfill:Instr.fill (fun i=> some (i * n,n)) ((Array.range (len * n)).map (fun i=> z.cells[i % z.cells.size]!)) vs=some out.toArray:=by
         rw [←hzs,Iy];rw [←hzs] at h1;exact h1
        have hle:¬len * n > 16777216:=by omega
        by_cases h0:len * n=0
        · have r0:Array.range 0=#[]:=Array.eq_empty_of_size_eq_zero (by simp);have hf0:Instr.fill (fun i=> some (i * n,n)) #[] vs=some out.toArray:=by
           rw [h0,r0] at hfill
           simpa only [Array.map_empty] using hfill
          simp [Instr.buildSlice,run_underlying hu,Bf hn,h0,r0,hf0,newRow]
        · simp [Instr.buildSlice,run_underlying hu,Bf hn,h0,hle,Dw hz,hfill,newRow]
      · exact MV.bad
   · exact MV.bad
 · exact MV.bad
end
end Go.Ev
