/- a part of the proof of the last text -/
import Derived.Test.YtdepiggjneoopaaGreatDoorZMRow
namespace Go.Proofs.YtdepiggjneoopaaGreatDoor
set_option linter.all false
set_option maxHeartbeats 4000000
set_option maxRecDepth 100000
section
open Go.RowKit
section
variable {α:Type} {f:α→List Value} {s:Nat}
theorem flat_get (hf:∀x,(f x).length=s):∀ (l:List α) (k j:Nat),j < s→(l.flatMap f)[k * s+j]? =l[k]?.bind fun x=> (f x)[j]?
 | [],k,j,_=> by simp
 | x::l,0,j,hj=> by
  rw [List.flatMap_cons,Nat.zero_mul,Nat.zero_add,List.getElem?_append_left (by rw [hf];exact hj)];rfl
 | x::l,k+1,j,hj=> by
  rw [List.flatMap_cons,List.getElem?_append_right (by rw [hf,Nat.add_mul];omega),hf,show (k+1) * s+j - s=k * s+j by rw [Nat.add_mul];omega,flat_get hf l k j hj];rfl
theorem flat_snoc (l:List α) (x:α):(l++ [x]).flatMap f=l.flatMap f++f x:=by simp
theorem flat_take (l:List α) (k:Nat) (x:α) (h:l[k]? =some x):(l.take (k+1)).flatMap f=(l.take k).flatMap f++f x:=by
 obtain ⟨hk,hx⟩:=List.getElem?_eq_some_iff.1 h;rw [List.take_succ_eq_append_getElem hk,List.flatMap_append,hx];simp
theorem IsSl.atF {P:Program} {t e:TypeId} {i:TypeInfo} (ht:P.underlying t=some (.slice e)) (hi:P.info? e=some i) (hs:i.size=s) (hf:∀x,(f x).length=s)
 {w:World} {a:Option Addr} {n c:Nat} {l:List α} (h:IsSl w s (.slice a n c) n (l.flatMap f)) (hl:l.length=n) {k:Nat} (hk:k < n):
 ∃g o x,(∀w',(Instr.indexAt t (.slice a n c) (.int .i64 k)).run P w'=.ok (.pointer (some ⟨g,o,none⟩)) w')∧g < w.heap.size∧l[k]? =some x∧∀j u,(f x)[j]? =some u→w.cell? ⟨g,o+j,none⟩=some u:=by
 rcases h.2 with ⟨_,h0⟩ | ⟨g,off,c',hv,hc,hg,aA⟩
 · omega
 · cases hv;have lY:l[k]? =some l[k]:=List.getElem?_eq_getElem (by omega);refine ⟨g,off+k * s,l[k],fun w'=> ?_,hg,lY,fun j u hj=> ?_⟩
   · have he:P.elem t=e:=by simp [Program.elem,ht]
     rw [run_indexAt_slice w' t _ n c .i64 k (by rw [he];exact ht),if_pos ⟨by omega,by omega⟩,he]
     simp [sizeOf,typeInfo,hi,hs,Result.andThen,Addr.add]
   · have hjs:j < s:=by rw [←hf l[k]];exact (List.getElem?_eq_some_iff.1 hj).1
     have:=Nat.mul_le_mul_right s (show k+1≤n by omega);rw [Nat.add_mul] at this;rw [Nat.add_assoc,aA _ (by omega),flat_get hf l k j hjs,lY];exact hj
theorem InSl.atF {P:Program} {t e:TypeId} {i:TypeInfo} (ht:P.underlying t=some (.slice e)) (hi:P.info? e=some i) (hs:i.size=s) (hf:∀x,(f x).length=s)
 {w:World} {a:Option Addr} {n c:Nat} {l:List α} (h:InSl w s (.slice a n c) n (l.flatMap f)) (hl:l.length=n) {k:Nat} (hk:k < n):
 ∃g o x,(∀w',(Instr.indexAt t (.slice a n c) (.int .i64 k)).run P w'=.ok (.pointer (some ⟨g,o,none⟩)) w')∧g < w.heap.size∧l[k]? =some x∧∀j u,(f x)[j]? =some u→w.cell? ⟨g,o+j,none⟩=some u:=
 IsSl.atF ht hi hs hf (h.pos (by omega)) hl hk
end
theorem zCk {P:Program} {ops:Array Oper} {o:Oper} {a:Act} {w:World} {K:Act→World→Prop} {Q:Exit→Act→World→Prop} {E:Prop}
 (hg:o.guard=none) (s x:Operand) (t:TypeId) (eQ:o.op=Op.call {callee:=Callee.builtin Builtin.append,args:=#[s,x],argTypes:=#[t,t]})
 (base e size bytes:Nat) (i:TypeInfo) (z:Value) (ht:P.underlying t=some (.slice e)) (hi:P.info? e=some i) (hz:i.zero=some z)
 (bY:i.size=size) (mW:i.bytes=bytes) (nD:z.cells.size=size)
 (v:Value) (n:Nat) (xs:List Value) (aC:w.ownsRow base e size v n xs) (ad:Addr) (m c:Nat) (news:List Value) (hs:a.eval s=v) (hx:a.eval x=.slice (some ad) m c)
 (hl:news.length=m * size) (iV:∀j u,news[j]? =some u→w.cell? (ad.add j)=some u) (h1:∀u∈news,u.oneCell'=true) (hm0:0 < m)
 (kH:n+m≤maxLen) (bM:(n+m) * bytes≤140737488355328) (gP:base≤w.heap.size)
 (hK:∀g cap w',w'.ownsRow base e size (.slice (some ⟨g,0,none⟩) (n+m) cap) (n+m) (xs++news)→g < w'.heap.size→((v.ownBlock=some g∧w.grownBy w' (some g))∨(g=w.heap.size∧w.grownBy w' none))→
  K (a.put o.dst (.slice (some ⟨g,0,none⟩) (n+m) cap)) w'):
 if Region.wanted o (yielded ops a.tmps)=true then Oper.wp P o a w K Q else E:=by
 have hw:Region.wanted o (yielded ops a.tmps)=true:=by simp [Region.wanted,hg]
 rw [if_pos hw];obtain ⟨g,cap,w',hr,h2,h3,h4⟩:=run_append_two (P:=P) w base t o.type e i z size bytes ht hi hz bY mW nD v n xs aC ad m c news hl iV h1 hm0 kH bM gP;have:=hK g cap w' h2 h3 h4;unfold Oper.wp execOp;simp only [eQ,resolve,invoke,builtin,Sem.run_bind,Sem.run_pure,Result.andThen_ok,List.map_toArray,List.map_cons,List.map_nil,hs,hx,hr];exact this
theorem news_new {w:World} {cs:Array Value} {t:TypeId}:∀j u,cs.toList[j]? =some u→(w.alloc (.cells cs t)).cell? ((⟨w.heap.size,0,none⟩:Addr).add j)=some u:=
 World.news_of_block (cs:=cs) (t:=t) (fr:=(0,0)) (heap_alloc_new w _)
theorem zBj {w w1:World} {v:Value} {g:Nat} (h:(v.ownBlock=some g∧w.grownBy w1 (some g))∨(g=w.heap.size∧w.grownBy w1 none)):w.grownBy w1 v.ownBlock:=by
 rcases h with ⟨h1,h2⟩ | ⟨_,h2⟩
 · rw [h1];exact h2
 · exact ⟨h2.os,h2.tape,h2.output,h2.size,fun k hk _=> h2.block k hk (by simp)⟩
theorem cell_lt {w:World} {g o:Nat} {x:Value} (h:w.cell? ⟨g,o,none⟩=some x):g < w.heap.size:=by simpa using World.block_lt_of_cell? w _ h
theorem zBg {w w1:World} {o:Obj} {row:Option Nat} (h:(w.alloc o).grownBy w1 row):w.grownBy w1 row:=
 ⟨h.os,h.tape,h.output,Nat.le_trans (by simp) h.size,fun k hk aK=> by rw [h.block k (by simp;omega) aK];exact heap_alloc_old w _ hk⟩
theorem zBr {w w1:World} {row:Option Nat} (h:w.drew.grownBy w1 row):w.grownBy w1 row:=⟨h.os,h.tape,h.output,h.size,h.block⟩
end
section
open Go.RowKit
def kLet (k:Int):Int:=if k=1 then 82 else if k=2 then 76 else if k=3 then 67 else if k=4 then 73 else if k=5 then 86 else if k=6 then 71 else if k=7 then 69 else if k=8 then 80 else 0
def kUnit (k:Int):ByteArray:=if k=1 then ⟨#[111,104,109]⟩ else if k=2 then ⟨#[104,101,110,114,121]⟩ else if k=3 then ⟨#[102,97,114,97,100]⟩ else if k=4 then ⟨#[97,109,112,101,114,101]⟩ else if k=5 then ⟨#[118,111,108,116]⟩
 else if k=6 then ⟨#[115,105,101,109,101,110,115]⟩ else if k=8 then ⟨#[111,104,109]⟩ else ⟨#[]⟩
def kAb (k:Int):Bool:=decide (k=1) || decide (k=2) || decide (k=3) || decide (k=8)
def kFo (k:Int):Bool:=decide (k=6) || decide (k=7)
def kPh (k:Int):Bool:=decide (k=4) || decide (k=5)
def isK (k:Int):Bool:=decide (1≤k) && decide (k≤8)
theorem kind_cases (k:Int):k=1∨k=2∨k=3∨k=4∨k=5∨k=6∨k=7∨k=8∨(isK k=false∧¬k=1∧¬k=2∧¬k=3∧¬k=4∧¬k=5∧¬k=6∧¬k=7∧¬k=8):=by
 by_cases h:1≤k∧k≤8
 · omega
 · have:isK k=false:=by unfold isK;rw [←Bool.decide_and];simpa using h
   exact .inr (.inr (.inr (.inr (.inr (.inr (.inr (.inr ⟨this,by omega⟩)))))))
theorem kind_none {k:Int} (h1:¬k=1) (h2:¬k=2) (h3:¬k=3) (h4:¬k=4) (h5:¬k=5) (h6:¬k=6) (h7:¬k=7) (h8:¬k=8):
 kLet k=0∧kUnit k=⟨#[]⟩∧kAb k=false∧kFo k=false∧kPh k=false:=by
 simp [kLet,kUnit,kAb,kFo,kPh,h1,h2,h3,h4,h5,h6,h7,h8]
def RetVB (v:Value) (b:Bool) (w:World) (en:Ending) (w':World):Prop:=en=.returned (.tuple #[v,.bool b])∧Below w.heap.size w w'
def rowA (k:Int):Value:=.agg #[.int .u8 (kLet k),.string (kUnit k),.bool (kAb k),.bool (kFo k),.bool (kPh k)]
theorem rowof_any (k:Int) (w:World):Calls Tryz.prog 57 #[.int .u8 k] w (RetVB (rowA k) (isK k) w):=by
 rcases kind_cases k with rfl | rfl | rfl | rfl | rfl | rfl | rfl | rfl | ⟨h0,h1,h2,h3,h4,h5,h6,h7,h8⟩
 case inr.inr.inr.inr.inr.inr.inr.inr=>
  obtain ⟨e1,e2,e3,e4,e5⟩:=kind_none h1 h2 h3 h4 h5 h6 h7 h8;have hr:RetVB (rowA k) (isK k) w=RetVB (.agg #[.int .u8 0,.string ⟨#[]⟩,.bool false,.bool false,.bool false]) false w:=by rw [h0];unfold rowA;rw [e1,e2,e3,e4,e5]
  rw [hr];clear hr e1 e2 e3 e4 e5 h0;go_enter Tryz.func57,Tryz.ntmps57;go_wp2
  (try rw [Exit.noGoto_ret])
  refine bodyPost_ret (v:=.tuple #[.agg #[.int .u8 0,.string ⟨#[]⟩,.bool false,.bool false,.bool false],.bool false]) ?_ rfl ⟨rfl,?_⟩
  · rw [results_cell_tmp rfl];go_simp
  · repeat (first | exact ((Below.refl _ _).alloc (Nat.le_refl _) _) | refine Below.setCell ?_ (Nat.le_refl _) _)
 all_goals (go_enter Tryz.func57,Tryz.ntmps57)
 all_goals go_wp2
 all_goals (try rw [Exit.noGoto_ret])
 all_goals (refine bodyPost_ret (v:=.tuple #[rowA _,.bool true]) ?_ rfl ⟨rfl,?_⟩)
 all_goals first
  | (rw [results_cell_tmp rfl];go_simp;done)
  | (rw [results_cell_tmp rfl];go_simp;rfl)
  | (repeat (first | exact ((Below.refl _ _).alloc (Nat.le_refl _) _) | refine Below.setCell ?_ (Nat.le_refl _) _))
theorem rowof_agg (k:Int) (w:World):Calls Tryz.prog 57 #[.int .u8 k] w (RetVB (.agg #[.int .u8 (kLet k),.string (kUnit k),.bool (kAb k),.bool (kFo k),.bool (kPh k)]) (isK k) w):=rowof_any k w
def kindOf (c:Int):Int:=if c=82 then 1 else if c=76 then 2 else if c=67 then 3 else if c=73 then 4 else if c=86 then 5 else if c=71 then 6 else if c=69 then 7 else if c=80 then 8 else 0
theorem kindOf_let {n:Nat} (h1:1≤n) (h2:n≤8):kindOf (kLet n)=n:=by
 have:∀m:Fin 9,1≤m.val→kindOf (kLet (m.val:Int))=(m.val:Int):=by decide
 exact this ⟨n,by omega⟩ h1
theorem kindOf_none {c:Int} (h:∀j:Int,1≤j→j < 9→¬kLet j=c):kindOf c=0:=by
 have e:=fun j h1 h2=> h j h1 h2
 have a1:¬c=82:=fun e=> h 1 (by decide) (by decide) (by rw [e];rfl)
 have a2:¬c=76:=fun e=> h 2 (by decide) (by decide) (by rw [e];rfl)
 have a3:¬c=67:=fun e=> h 3 (by decide) (by decide) (by rw [e];rfl)
 have a4:¬c=73:=fun e=> h 4 (by decide) (by decide) (by rw [e];rfl)
 have a5:¬c=86:=fun e=> h 5 (by decide) (by decide) (by rw [e];rfl)
 have a6:¬c=71:=fun e=> h 6 (by decide) (by decide) (by rw [e];rfl)
 have a7:¬c=69:=fun e=> h 7 (by decide) (by decide) (by rw [e];rfl)
 have a8:¬c=80:=fun e=> h 8 (by decide) (by decide) (by rw [e];rfl)
 simp [kindOf,a1,a2,a3,a4,a5,a6,a7,a8]
def RetK (k:Int) (w:World) (en:Ending) (w':World):Prop:=en=.returned (.tuple #[.int .u8 k,.bool (!decide (k=0))])∧Below w.heap.size w w'
theorem vof_any (c:Int) (w:World):Calls Tryz.prog 95 #[.int .u8 c] w (RetK (kindOf c) w):=by
 go_enter Tryz.func95,Tryz.ntmps95;go_wp2
 go_loopw [4] (fun k wr=> ∃n:Nat,1≤n∧n≤9∧k=.int .u8 n∧(∀j:Int,1≤j→j < n→¬kLet j=c)∧Below w.heap.size w wr) (fun k _=> 9 - (intOf k).toNat)
 case atStart=> exact ⟨1,by omega,by omega,rfl,fun j h1 h2=> by omega,Below.refl _ _⟩
 case round=>
  obtain ⟨n,h1,h9,rfl,lW,hb⟩:=hrel;have gF:=hid lW;have HB:=hid hb;clear lW hb
  by_cases aM:n≤8
  · cases he:(kLet n==c)
    · have HE:=hid (show¬kLet n=c by simpa using he);go_wp2_with (go_at_call 57;refine (rowof_agg _ _).mono ?_;rintro e w1 ⟨rfl,aI⟩);go_roundw
      case rel=>
       refine ⟨n+1,by omega,by omega,by go_num,fun j k1 k2=> ?_,?_⟩
       · rcases Int.lt_or_le j n with h | h
         · exact gF.out j k1 h
         · obtain rfl:j=n:=by omega
           exact HE.out
       · exact (HB.out.trans (aI.mono HB.out.size)).alloc (by have:=HB.out.size;have:=aI.size;omega) _
      case measure=> simp [intOf];omega
    · have HE:=hid (show kLet n=c by simpa using he);go_wp2_with (go_at_call 57;refine (rowof_agg _ _).mono ?_;rintro e w1 ⟨rfl,aI⟩)
      (try rw [Exit.noGoto_ret])
      go_ret2
      have hk:kindOf c=n:=by rw [←HE.out];exact kindOf_let h1 aM
      refine ⟨?_,(HB.out.trans (aI.mono HB.out.size)).alloc (by have:=HB.out.size;have:=aI.size;omega) _⟩;have zA:¬n=0:=by omega
      rw [hk]
      simp [zA]
  · obtain rfl:n=9:=by omega
    have HK:=hid (kindOf_none gF.out);go_wp2
    go_ret2
    exact ⟨by rw [HK.out];simp,HB.out⟩
def rows13:List Int:= [1,2,3,4,5,6,7,8]
def rc13 (k:Int):List Value:= [.int .u8 k,.int .u8 (kLet k),.string (kUnit k),.bool (kAb k),.bool (kPh k),.bool (kFo k)]
def RetSl (size n:Nat) (xs:List Value) (w:World) (en:Ending) (w':World):Prop:=∃v,en=.returned v∧IsSl w' size v n xs∧Below w.heap.size w w'
theorem sl_block {w:World} {n size:Nat} {cs:Array Value} {t:TypeId} {xs:List Value} (h:cs.toList=xs) (hn:xs.length=n * size):IsSl (w.alloc (.cells cs t)) size (.slice (some ⟨w.heap.size,0,none⟩) n n) n xs:=by
 subst h;refine ⟨hn,.inr ⟨w.heap.size,0,n,rfl,Nat.le_refl _,by simp,fun j hj=> ?_⟩⟩;rw [Nat.zero_add,cell_of_row _ _ _ cs t (0,0) (heap_alloc_new w _)];simp
theorem rrows_any (w:World):Calls Tryz.prog 109 #[] w (RetSl 6 8 (rows13.flatMap rc13) w):=by
 go_enter Tryz.func109,Tryz.ntmps109;go_wp2;go_ret;exact ⟨_,rfl,sl_block rfl rfl,(Below.refl _ _).alloc (Nat.le_refl _) _⟩
end
section
open Go.RowKit
theorem below_set0 {B o:Nat} {w wr:World} {v:Value} (h:Below B w wr):Below B w (wr.setCell ⟨B,o,none⟩ v):=h.setCell (Nat.le_refl _) v
theorem infoR13:(Tryz.prog.info? 143).map (fun i=> (i.zero,i.size,i.bytes))=some (some (.agg #[.int .u8 0,.int .u8 0,.string ⟨#[]⟩,.bool false,.bool false,.bool false]),6,32):=by kernel_rfl
theorem rows13_get {k:Nat} (h:k < 8):rows13[k]? =some ((k:Int)+1):=by
 have:∀m:Fin 8,rows13[m.val]? =some ((m.val:Int)+1):=by decide
 exact this ⟨k,h⟩
theorem rof_any (c:Int) (w:World):Calls Tryz.prog 111 #[.int .u8 c] w (RetK (kindOf c) w):=by
 obtain ⟨i0,hi,cG,bD,cB⟩:=info_parts infoR13;go_enter Tryz.func111,Tryz.ntmps111;go_wp2_with fail;refine (rrows_any _).mono ?_;rintro e w1 ⟨v1,rfl,iG,aI⟩;obtain ⟨a1,c1,h1⟩:=iG.form;subst h1;have lD:=hid iG;have aL:=hid aI;clear iG aI;go_wp2_with fail
 go_loop [5] (fun k=> ∃n:Nat,n≤8∧k=.int .i64 n∧(∀j:Int,1≤j→j < n+1→¬kLet j=c)) (fun k=> 8 - (intOf k).toNat)
 case atStart=> exact ⟨0,by omega,rfl,fun j h1 h2=> by omega⟩
 case round=>
  obtain ⟨n,h9,rfl,lW⟩:=hrel;have gF:=hid lW;clear lW
  by_cases aM:n < 8
  · obtain ⟨g,o,x,aZ,hg,hx,aA⟩:=IsSl.atF Tryz.underlying175 hi bD (fun _=> rfl) lD.out rfl aM;obtain rfl:x=(n:Int)+1:=by rw [rows13_get aM] at hx;exact (Option.some.inj hx).symm
    have c0:=aA 0 _ rfl;have c1':=aA 1 _ rfl;rw [Nat.add_zero] at c0;clear aA hx;cases he:(kLet ((n:Int)+1)==c)
    · have HE:=hid (show¬kLet ((n:Int)+1)=c by simpa using he);go_wp2
      go_round
      case rel=>
       refine ⟨n+1,by omega,by go_num,fun j k1 k2=> ?_⟩;rcases Int.lt_or_le j (n+1) with h | h
       · exact gF.out j k1 h
       · obtain rfl:j=(n:Int)+1:=by omega
         exact HE.out
      case measure=> simp [intOf];omega
    · have HE:=hid (show kLet ((n:Int)+1)=c by simpa using he);go_wp2
      (try rw [Exit.noGoto_ret])
      go_ret2
      have hk:kindOf c=(n:Int)+1:=by rw [←HE.out];exact kindOf_let (n:=n+1) (by omega) (by omega)
      refine ⟨?_,aL.out⟩;have zA:¬(n:Int)+1=0:=by omega
      rw [hk]
      simp [zA]
  · obtain rfl:n=8:=by omega
    have HK:=hid (kindOf_none gF.out);go_wp2
    go_ret2
    exact ⟨by rw [HK.out];simp,aL.out⟩
def row13A (k:Int):Value:=.agg #[.int .u8 k,.int .u8 (kLet k),.string (kUnit k),.bool (kAb k),.bool (kPh k),.bool (kFo k)]
def kin (k:Int):Int:=if isK k then k else 0
theorem kin_yes {k:Int} (h:isK k=true):kin k=k:=by unfold kin;rw [if_pos h]
theorem kin_no {k:Int} (h:isK k=false):kin k=0:=by unfold kin;rw [if_neg (by rw [h];simp)]
theorem rrow13_any (k:Int) (w:World):Calls Tryz.prog 86 #[.int .u8 k] w (RetVB (row13A (kin k)) (isK k) w):=by
 obtain ⟨i0,hi,cG,bD,cB⟩:=info_parts infoR13;go_enter Tryz.func86,Tryz.ntmps86;go_wp2_with fail;refine (rrows_any _).mono ?_;rintro e w1 ⟨v1,rfl,iG,aI⟩;obtain ⟨a1,c1,h1⟩:=iG.form;subst h1;have hz:=aI.block w.heap.size (by simp) |>.trans (heap_alloc_new w _);have hq:(∀o x,(#[.int .u8 0,.int .u8 0,.string ⟨#[]⟩,.bool false,.bool false,.bool false]:Array Value)[o]? =some x→w1.cell? ⟨w.heap.size,o,none⟩=some x)∧∀o,w1.frozen? ⟨w.heap.size,o,none⟩=false:=
  ⟨fun o x hx=> cell_of_row _ _ _ _ _ _ hz |>.trans hx,fun o=> by simp [World.frozen?,hz]⟩
 have lD:=hid iG;have aL:=hid aI;have kF:w.heap.size+1≤w1.heap.size:=by have:=aI.size;simpa using this
 obtain ⟨q1,q2⟩:=hq;have r0:w1.cell? ⟨w.heap.size,0,none⟩=some (.int .u8 0):=q1 0 _ rfl;have r1:w1.cell? ⟨w.heap.size,1,none⟩=some (.int .u8 0):=q1 1 _ rfl;have r2:w1.cell? ⟨w.heap.size,2,none⟩=some (.string ⟨#[]⟩):=q1 2 _ rfl;have r3:w1.cell? ⟨w.heap.size,3,none⟩=some (.bool false):=q1 3 _ rfl;have r4:w1.cell? ⟨w.heap.size,4,none⟩=some (.bool false):=q1 4 _ rfl;have r5:w1.cell? ⟨w.heap.size,5,none⟩=some (.bool false):=q1 5 _ rfl;have f0:=q2 0;have f1:=q2 1;have f2:=q2 2;have f3:=q2 3;have f4:=q2 4;have f5:=q2 5;have HZ:=hid hz;clear iG aI q1 q2 hz;go_wp2_with fail
 go_loopw [5] (fun i wr=> ∃n:Nat,n≤8∧i=.int .i64 n∧(∀j:Int,1≤j→j < n+1→¬j=k)∧wr=w1) (fun i _=> 8 - (intOf i).toNat)
 case atStart=> exact ⟨0,by omega,rfl,fun j h1 h2=> by omega,rfl⟩
 case round=>
  obtain ⟨n,h9,rfl,lW,qN⟩:=hrel;subst qN;have gF:=hid lW;clear lW
  by_cases aM:n < 8
  · obtain ⟨g,o,x,aZ,hg,hx,aA⟩:=IsSl.atF Tryz.underlying175 hi bD (fun _=> rfl) lD.out rfl aM;obtain rfl:x=(n:Int)+1:=by rw [rows13_get aM] at hx;exact (Option.some.inj hx).symm
    have c0:=aA 0 _ rfl;have c1':=aA 1 _ rfl;have c2:=aA 2 _ rfl;have c3:=aA 3 _ rfl;have c4:=aA 4 _ rfl;have c5:=aA 5 _ rfl;rw [Nat.add_zero] at c0;obtain ⟨L1,e1⟩:∃L1,kLet ((n:Int)+1)=L1:=⟨_,rfl⟩;obtain ⟨L2,e2⟩:∃L1,kUnit ((n:Int)+1)=L1:=⟨_,rfl⟩;obtain ⟨L3,e3⟩:∃L1,kAb ((n:Int)+1)=L1:=⟨_,rfl⟩;obtain ⟨L4,e4⟩:∃L1,kPh ((n:Int)+1)=L1:=⟨_,rfl⟩;obtain ⟨L5,e5⟩:∃L1,kFo ((n:Int)+1)=L1:=⟨_,rfl⟩;rw [e1] at c1';rw [e2] at c2;rw [e3] at c3;rw [e4] at c4;rw [e5] at c5;have HL:=hid (And.intro e1 (And.intro e2 (And.intro e3 (And.intro e4 e5))));clear aA hx e1 e2 e3 e4 e5;cases he:((n:Int)+1==k)
    · have HE:=hid (show¬(n:Int)+1=k by simpa using he);go_wp2;go_roundw
      case rel=>
       refine ⟨n+1,by omega,by go_num,fun j k1 k2=> ?_,trivial⟩;rcases Int.lt_or_le j (n+1) with h | h
       · exact gF.out j k1 h
       · obtain rfl:j=(n:Int)+1:=by omega
         exact HE.out
      case measure=> simp [intOf];omega
    · have HE:=hid (show (n:Int)+1=k by simpa using he);go_wp2
      (try rw [Exit.noGoto_ret])
      have hk:isK k=true:=by rw [←HE.out];unfold isK;rw [←Bool.decide_and];simp;omega
      refine bodyPost_ret (v:=.tuple #[.agg #[.int .u8 ((n:Int)+1),.int .u8 L1,.string L2,.bool L3,.bool L4,.bool L5],.bool true]) ?_ rfl ⟨?_,?_⟩
      · clear lD aL HZ gF HE HL aZ;rw [results_cell_tmp rfl];go_simp
      · obtain ⟨e1,e2,e3,e4,e5⟩:=HL.out;rw [kin_yes hk,hk,←HE.out];unfold row13A;rw [e1,e2,e3,e4,e5]
      · have cN:Below w.heap.size w wr:=((Below.refl _ w).alloc (Nat.le_refl _) _).trans (aL.out.mono (by simp))
        repeat (first | with_reducible exact cN | with_reducible refine below_set0 ?_)
  · obtain rfl:n=8:=by omega
    have HK:=hid (show isK k=false by
     unfold isK;rw [←Bool.decide_and,decide_eq_false_iff_not];intro h;exact gF.out k h.1 (by omega) rfl)
    go_wp2
    (try rw [Exit.noGoto_ret])
    refine bodyPost_ret (v:=.tuple #[.agg #[.int .u8 0,.int .u8 0,.string ⟨#[]⟩,.bool false,.bool false,.bool false],.bool false]) ?_ rfl ⟨by rw [kin_no HK.out,HK.out];rfl,?_⟩
    · rw [results_cell_tmp rfl];go_simp
    · have cN:Below w.heap.size w wr:=((Below.refl _ w).alloc (Nat.le_refl _) _).trans (aL.out.mono (by simp))
      repeat (first | with_reducible exact cN | with_reducible refine below_set0 ?_)
theorem rrow13_agg (k:Int) (w:World):Calls Tryz.prog 86 #[.int .u8 k] w (RetVB (.agg #[.int .u8 (kin k),.int .u8 (kLet (kin k)),.string (kUnit (kin k)),.bool (kAb (kin k)),.bool (kPh (kin k)),.bool (kFo (kin k))]) (isK k) w):=rrow13_any k w
def zCw (s:ByteArray):Bool:=decide (1≤s.size) && decide (s.size≤16) && zEu s
def zDf (s:ByteArray):Int:=if h:2≤s.size∧s.size≤16∧zEu (s.extract 1 s.size)=true then kindOf (s[0]'(by omega)).toNat else 0
theorem nodeB_cases (s:ByteArray):(zCw s=false∧(s.size < 1∨(1≤s.size∧16 < s.size)))∨(1≤s.size∧s.size≤16∧zCw s=zEu s):=by
 by_cases h1:1≤s.size
 · by_cases h2:s.size≤16
   · exact .inr ⟨h1,h2,by simp [zCw,h1,h2]⟩
   · exact .inl ⟨by simp [zCw,h2],.inr ⟨h1,by omega⟩⟩
 · exact .inl ⟨by simp [zCw,h1],.inl (by omega)⟩
theorem vnode_any (s:ByteArray) (w:World) (hs:s.size≤maxLen):
 Calls Tryz.prog 59 #[.string s] w fun e w'=> e=.returned (.bool (zCw s))∧Below w.heap.size w w':=by
 have oC:=hs;unfold maxLen at oC;rcases nodeB_cases s with ⟨h0,h1 | ⟨h1,h2⟩⟩ | ⟨h1,h2,h0⟩
 all_goals
  have H0:=hid h0;clear h0;go_enter Tryz.func59,Tryz.ntmps59;go_wp2_with (go_at_call 94;refine (vsmall_any _ _ hs).mono ?_;rintro e w' ⟨rfl,hb⟩);go_ret
  first | exact ⟨by rw [H0.out];rfl,Below.refl _ _⟩ | exact ⟨by rw [H0.out];rfl,hb⟩
theorem rnode_any (s:ByteArray) (w:World) (hs:s.size≤maxLen):
 Calls Tryz.prog 88 #[.string s] w fun e w'=> e=.returned (.bool (zCw s))∧w=w':=by
 have oC:=hs;unfold maxLen at oC;rcases nodeB_cases s with ⟨h0,h1 | ⟨h1,h2⟩⟩ | ⟨h1,h2,h0⟩
 all_goals
  have H0:=hid h0;clear h0;go_enter Tryz.func88,Tryz.ntmps88;go_wp2_with (go_at_call 110;refine (rbytes_any _ _ hs).mono ?_;rintro e w' ⟨rfl,rfl⟩);go_ret;exact ⟨by rw [H0.out];rfl,rfl⟩
end
end Go.Proofs.YtdepiggjneoopaaGreatDoor
