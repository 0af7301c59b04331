/- WaveHeard: of every list of lists of elements, every omega (by its bits), node and step, what is heard of their nets by the package wave and by the reference is the same: no condition but the form's reach. -/
import Derived.Test.YtejooaeppcjhjaaGreatZMOpenEls
import Derived.ChangeMaps5
import Derived.Carry
namespace Go.Proofs.YtejooaeppcjhjaaGreat
set_option linter.all false
set_option maxHeartbeats 4000000
set_option maxRecDepth 100000
open Go.ChangeShapes Go.WideShapes Go.ChangeAt Go.RowKit Go.Joins Go.Deep
/-- A list of lists of elements that came in. -/
theorem open_erows {H:Type} {enc:TypeId × Value→H} {W:World} {base fuel:Nat} {spare:Nat→Bool} {held:Bool} {v:Value} {d:DataW H} {ps:List MemPlace}
 (hf:DataW.trod enc Tryz.prog W base spare held fuel 22 [v]=some (d,ps)) (hs:Small Tryz.prog 22 d):
 ∃ (m:Nat) (V:Nat→Value) (L:Nat→List El),ERows W v m V L∧m * 24≤reachBytes∧(∀j,j < m→(L j).length * 104≤reachBytes)∧∀j,j < m→∀e∈L j,e.Ok:=by
 obtain ⟨n,V,D,r,h1,h2,h3⟩:=open_sl1 (P:=Tryz.prog) Tryz.underlying22 (by kernel_rfl) hf;have hD:∀i,i < n→Small Tryz.prog 28 (D i):=by
  intro i hi;rcases h2 with rfl | rfl
  · omega
  · exact (small_slice Tryz.underlying22 hs).2 _ (List.mem_map.2 ⟨i,by simpa using hi,rfl⟩)
 obtain ⟨L,hL⟩:=choose_lt (n:=n) (α:=List El) (p:=fun i l=> InSl W 8 (V i) l.length (l.flatMap ez)∧l.length * 104≤reachBytes∧∀e∈l,e.Ok) (fun i hi=> by
  obtain ⟨f,q,h4⟩:=h3 i hi;exact open_els h4 (hD i hi))
 refine ⟨n,V,L,⟨h1,fun j hj=> (hL j hj).1⟩,?_,fun j hj=> (hL j hj).2.1,fun j hj=> (hL j hj).2.2⟩;rcases h2 with rfl | rfl
 · simp
 · have:=(small_slice Tryz.underlying22 hs).1;rw [show Tryz.prog.bytesOf 28 =24 from by kernel_rfl] at this;simpa using this
theorem zown:ownKnob Tryz.prog.godebug=none:=by kernel_rfl
theorem zlaid:laidOutB Tryz.prog=true:=by kernel_rfl
theorem heard_lifted (os:Os) (started:os.Started) (H:Type) (enc:TypeId × Value→H):
 ReturnsInHanded {} Tryz.checked os 3 .any (Rows.waveHeardSpec.pre6 enc Tryz.prog Tryz.f3 Rows.waveHeardRow.domain false) (Rows.waveHeardSpec.post enc Tryz.prog Tryz.f3 false true false false):=by
 refine returnsInHanded_of_change_sized (C:=Tryz.checked) zown started (by kernel_rfl) Tryz.func3
  (ChangeSpec.witness6 (enc:=enc) (C:=Tryz.checked) false ⟨#[],#[.slice none 0 0,.int .u64 0,.string ⟨#[]⟩,.int .i64 0], []⟩ 8 (by kernel_rfl) (by kernel_rfl) (by kernel_rfl) (by kernel_rfl)) ?_
 intro W base args ds gs before hval0 hW hcnd hsz0 _;have hval:∀ (j:Nat) t v,Tryz.f3.params[j]? =some t→args[j]? =some v→Value.okWide Tryz.prog W .any base t v:=hval0;have hsz1:(DataW.weightsEach Tryz.prog (Tryz.f3.params.toList++ []) (ds++gs)).all (· ≤reachBytes)=true:=hsz0;have hW':=hW;obtain ⟨p,q,hA0,hV,rfl,hfz,hnd⟩:=hW;have hA:DataW.TrodAll enc Tryz.prog W 0 (fun _=> true) true Tryz.f3.params.toList args.toList ds p:=hA0;rw [Tryz.params3] at hA hsz1 hval;obtain ⟨v0,v1,v2,v3,d0,d1,d2,d3,p0,p1,p2,p3,rfl,rfl,rfl,h0,h1,h2,h3⟩:=trodAll_four hA;obtain ⟨rfl,rfl⟩:=trodVars_none hV;obtain ⟨a0,n0,c0,rfl⟩:=okWide_slice Tryz.underlying22 (hval 0 22 v0 rfl rfl);obtain ⟨hs0,_⟩:=small_head hsz1;obtain ⟨m1,rfl,_,_,wa⟩:=open_int Tryz.underlying23 (hval 1 23 v1 rfl rfl) h1;obtain ⟨s,rfl,_,_,ws⟩:=Go.ChangeMaps.open_string Tryz.underlying9 (hval 2 9 v2 rfl rfl) h2;obtain ⟨at_,rfl,_,_,_⟩:=open_int Tryz.underlying3 (hval 3 3 v3 rfl rfl) h3;obtain ⟨fuel,h0⟩:=h0;obtain ⟨m,V,L,hR,hm,hn,hok⟩:=open_erows h0 hs0;have g0:0≤m1:=by simp [Lit.wf] at wa;exact wa.1
 obtain ⟨om,rfl⟩:∃om:Nat,m1=(om:Int):=⟨m1.toNat,by omega⟩;refine (heard_walk _ m V L om s at_ W hR (Nat.le_trans hm (by decide)) (fun j hj=> Nat.le_trans (hn j hj) (by decide)) hok ws).mono fun e W' ⟨he,hb⟩=> ?_
 subst he;exact ⟨_,rfl,post_true zlaid (by kernel_rfl) Tryz.underlying4 (by kernel_rfl) rfl rfl hW' hb⟩
/-- The statement. -/
theorem waveHeard_holds:Rows.WaveHeardSaid:=
 OpenClaim.holds_of_wide 3 Tryz.f3 rfl rfl rfl rfl rfl rfl rfl ⟨rfl,rfl,rfl,rfl,rfl⟩ rfl rfl rfl rfl rfl (by kernel_rfl) Tryz.func3 (by kernel_rfl)
  (of_decide_eq_true (by kernel_rfl)) (by unfold Func.isWrapper;rw [if_neg (of_decide_eq_false (by kernel_rfl))];exact ⟨rfl,rfl⟩)
  (fun os started H enc _=> heard_lifted os started H enc)
#print axioms waveHeard_holds
end Go.Proofs.YtejooaeppcjhjaaGreat
