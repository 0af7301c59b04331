/- a part of the proof of the last text -/
import Derived.ProofKit
import Derived.OpenShut
import Derived.ShutString
import Derived.ChangeOld
import Derived.Below
import Derived.Lib.SmallJoins
import Derived.Test.YtdepiggjneoopaaGreatDoorZMRow
import Derived.SizedLaws
import Derived.Deep.Slices
namespace Go.Proofs.YtdepiggjneoopaaGreatDoor
set_option linter.all false
set_option maxHeartbeats 4000000
set_option maxRecDepth 100000
section
open Go.ChangeShapes Go.WideShapes Go.ChangeAt Go.RowKit Go.Joins
theorem Tryz.own:ownKnob Tryz.prog.godebug=none:=by kernel_rfl
theorem Tryz.laidOut:laidOutB Tryz.prog=true:=by kernel_rfl
theorem trodAll_below {H:Type} {enc:TypeId × Value→H} {P:Program} (hl:laidOutB P=true) {W W':World} (hb:Below W.heap.size W W'):
 ∀ (ts:List TypeId) (vs:List Value) (ds:List (DataW H)) (ps:List MemPlace),(ts.all fun t=> P.readableRec t && decide (t < P.types.size))=true→
  DataW.TrodAll enc P W 0 (fun _=> true) true ts vs ds ps→DataW.TrodAll enc P W' 0 (fun b=> decide (b < W.heap.size)) true ts vs ds ps:=by
 intro ts
 induction ts with
 | nil=>
  intro vs ds ps _ h;cases vs <;> cases ds <;> simp_all [DataW.TrodAll]
 | cons t ts ih=>
  intro vs ds ps ht h;obtain ⟨v,vs',d,ds',p,q,rfl,rfl,rfl,h0,h1⟩:=trodAll_cons h;simp only [List.all_cons,Bool.and_eq_true,decide_eq_true_eq] at ht;obtain ⟨m,hm⟩:=h0;exact trodAll_cons_mk (Below.trod hl ht.1.1 ht.1.2 ⟨m,hm⟩ hb (fun x hx=> DataW.trod_lt m _ _ _ hm x hx)) (ih _ _ _ (by simpa using ht.2) h1)
theorem post_true {H:Type} {enc:TypeId × Value→H} {P:Program} {f:Func} {s:ChangeSpec} {W W':World} {args:Array Value} {ds:List (DataW H)} {p:List MemPlace} {t:TypeId}
 (hl:laidOutB P=true) (hr:f.resultTypes=#[t]) (ht:P.underlying t=some .bool)
 (hts:(f.params.toList.all fun t=> P.readableRec t && decide (t < P.types.size))=true) (vZ:s.vars= [])
 (hs:s.fn H (ds++ [])={results:= [.lit (.bool true)],args:=ds})
 (hW:DataW.Whole enc P f.params.toList s.vars false W args.toList ds [] p) (hb:Below W.heap.size W W'):
 s.post enc P f false true false false W args (.bool true) W':=by
 have hW':=hW;obtain ⟨p',q,hA,hV,rfl,_,_⟩:=hW;rw [vZ] at hV;obtain ⟨_,rfl⟩:=trodVars_none hV;refine ⟨_,_,_, [],p', [],hW',?_,?_,?_,hb.frame _,fun h=> by cases h⟩
 · rw [hs,hr];exact trodAll_mk1 (shut_bool ht _)
 · rw [hs];exact trodAll_below hl hb _ _ _ _ hts hA
 · rw [hs,vZ];rfl
end
section
open Go.ChangeShapes Go.WideShapes Go.ChangeAt Go.RowKit Go.Joins Go.Deep
section
variable {H:Type} {enc:TypeId × Value→H} {P:Program} {W:World} {base:Nat} {spare:Nat→Bool} {held:Bool}
def Small (P:Program) (t:TypeId) (d:DataW H):Prop:=∀x∈d.weights P t,x≤reachBytes
theorem small_head {t:TypeId} {ts:List TypeId} {d:DataW H} {ds:List (DataW H)} (h:(DataW.weightsEach P (t::ts) (d::ds)).all (· ≤reachBytes)=true):Small P t d∧(DataW.weightsEach P ts ds).all (· ≤reachBytes)=true:=by
 simp only [DataW.weightsEach,List.all_append,Bool.and_eq_true] at h;exact ⟨fun x hx=> by simpa using List.all_eq_true.1 h.1 x hx,h.2⟩
theorem mem_weightsAll {e:TypeId}:∀ {l:List (DataW H)} {d:DataW H},d∈l→∀x∈d.weights P e,x∈DataW.weightsAll P e l
 | a::l,d,hd,x,hx=> by
  simp only [DataW.weightsAll,List.mem_append];rcases List.mem_cons.1 hd with rfl | hd
  · exact .inl hx
  · exact .inr (mem_weightsAll hd x hx)
theorem small_slice {t e:TypeId} (ht:P.underlying t=some (.slice e)) {l r:List (DataW H)} (h:Small P t (.slice l r)):l.length * P.bytesOf e≤reachBytes∧∀d∈l,Small P e d:=by
 unfold Small at h;simp only [DataW.weights,ht] at h;refine ⟨?_,fun d hd x hx=> h x (List.mem_cons_of_mem _ (List.mem_append_left _ (mem_weightsAll hd x hx)))⟩;have:=h _ List.mem_cons_self;exact Nat.le_trans (Nat.mul_le_mul_right _ (Nat.le_add_right _ _)) this
theorem zFs {a:Addr} {n:Nat} {cs:List Value} (h:W.cells? base a n=some cs):cs.length=n∧∀j,j < n→W.cell? (a.add j)=cs[j]?:=by
 obtain ⟨_,h1,h2⟩:=World.cells?_some h;exact ⟨h1,h2⟩
theorem open_sl {t e size fuel:Nat} {v:Value} {d:DataW H} {ps:List MemPlace} (ht:P.underlying t=some (.slice e)) (hc:P.cellsOf e=size) (hsz:0 < size)
 (hf:DataW.trod enc P W base spare held fuel t [v]=some (d,ps)):
 ∃ (n:Nat) (E:Nat→List Value) (D:Nat→DataW H) (r:List (DataW H)),InSl W size v n ((List.range n).flatMap E)∧(n=0∨d=.slice ((List.range n).map D) r)∧
  ∀i,i < n→(E i).length=size∧∃f q,DataW.trod enc P W base spare held f e (E i)=some (D i,q):=by
 subst hc;rcases open_slice ht hf with ⟨h1,h2⟩ | ⟨a,len,cap,m,f,D,Pl,h1,hb,hl,hm,oF,h2,tL⟩
 · cases h1;exact ⟨0,fun _=> [],fun _=> .nil, [],by simpa using InSl.of (IsSl.nil W _),.inl rfl,fun i hi=> by omega⟩
 · cases h1;have hlm:len≤m:=by rw [oF];split <;> omega
   obtain ⟨E,hE⟩:=choose_lt (α:=List Value) (p:=fun i cs=> W.cells? base (a.add (i * P.cellsOf e)) (P.cellsOf e)=some cs∧DataW.trod enc P W base spare held f e cs=some (D i,Pl i)) (fun i hi=> tL i hi);cases h2;refine ⟨len,E,D,_,?_,.inr rfl,fun i hi=> ⟨(zFs (hE i (by omega)).1).1,f,_,(hE i (by omega)).2⟩⟩;have hlenE:∀i,i < len→(E i).length=P.cellsOf e:=fun i hi=> (zFs (hE i (by omega)).1).1
   have oJ:∀k,k≤len→((List.range k).flatMap E).length=k * P.cellsOf e:=by
    intro k
    induction k with
    | zero=> intro _;simp
    | succ k ih=>
     intro hk;rw [List.range_succ,List.flatMap_append,List.length_append,ih (by omega),Nat.add_mul]
     simp [hlenE k (by omega)]
   have hget:∀k,k≤len→∀i j,i < k→j < P.cellsOf e→((List.range k).flatMap E)[i * P.cellsOf e+j]? =(E i)[j]?:=by
    intro k
    induction k with
    | zero=> intro _ i j hi;omega
    | succ k ih=>
     intro hk i j hi hj;rw [List.range_succ,List.flatMap_append]
     by_cases hik:i < k
     · have:i * P.cellsOf e+j < k * P.cellsOf e:=by
        have:=Nat.mul_le_mul_right (P.cellsOf e) (show i+1≤k by omega);rw [Nat.add_mul] at this;omega
       rw [List.getElem?_append_left (by rw [oJ k (by omega)];exact this),ih (by omega) i j hik hj]
     · obtain rfl:i=k:=by omega
       rw [List.getElem?_append_right (by rw [oJ i (by omega)];omega),oJ i (by omega),Nat.add_sub_cancel_left]
       simp
   obtain ⟨g,off,spot⟩:=a
   by_cases h0:len=0
   · subst h0;exact .inr ⟨_,_,rfl,rfl,by simp⟩
   · have hspot:spot=none:=by
      have h1:=(zFs (hE 0 (by omega)).1).2 0 hsz;have h2:=(zFs (hE 0 (by omega)).1).1;rw [List.getElem?_eq_getElem (by omega)] at h1
      simpa [Addr.add] using World.cell?_spot h1
     subst hspot;refine .inl ⟨oJ len (Nat.le_refl _),.inr ⟨g,off,cap,rfl,hl,?_,fun j hj=> ?_⟩⟩
     · have h1:=(zFs (hE 0 (by omega)).1).2 0 hsz;have h2:=(zFs (hE 0 (by omega)).1).1;rw [List.getElem?_eq_getElem (by omega)] at h1
       simpa [Addr.add] using World.block_lt_of_cell? W _ h1
     · have hi:j / P.cellsOf e < len:=(Nat.div_lt_iff_lt_mul hsz).2 hj;have pZ:j % P.cellsOf e < P.cellsOf e:=Nat.mod_lt _ hsz;have h1:=(zFs (hE (j / P.cellsOf e) (by omega)).1).2 (j % P.cellsOf e) pZ;have h3:=hget len (Nat.le_refl _) (j / P.cellsOf e) (j % P.cellsOf e) hi pZ;have hdm:j / P.cellsOf e * P.cellsOf e+j % P.cellsOf e=j:=by rw [Nat.mul_comm];exact Nat.div_add_mod j _
       rw [hdm] at h3;rw [h3,←h1,Go.Deep.add_add,hdm]
       congr 1
       unfold Addr.add;split <;> simp_all
end
end
end Go.Proofs.YtdepiggjneoopaaGreatDoor
