/- a part of the proof of the last text -/
import Derived.Test.YtdepiggjneoopaaGreatDoorZMOpen
import Derived.Test.YtdepiggjneoopaaGreatDoorZMNumbers2
namespace Go.Proofs.YtdepiggjneoopaaGreatDoor
set_option linter.all false
set_option maxHeartbeats 4000000
set_option maxRecDepth 100000
open Go.ChangeShapes Go.WideShapes Go.ChangeAt Go.RowKit Go.Joins Go.Deep
instance:Inhabited El:=⟨⟨0,⟨#[]⟩,⟨#[]⟩,⟨#[]⟩,⟨#[]⟩,⟨#[]⟩,0,0⟩⟩
theorem length_eight {α:Type} {l:List α} (h:l.length=8):∃a b c d e f g i,l= [a,b,c,d,e,f,g,i]:=by
 match l,h with
 | [a,b,c,d,e,f,g,i],_=> exact ⟨a,b,c,d,e,f,g,i,rfl⟩
theorem open_ez {H:Type} {enc:TypeId × Value→H} {W:World} {base fuel:Nat} {spare:Nat→Bool} {held:Bool} {cs:List Value} {d:DataW H} {ps:List MemPlace}
 (hf:DataW.trod enc Tryz.prog W base spare held fuel 95 cs=some (d,ps)):∃e:El,cs=ez e∧e.Ok∧-9223372036854775808≤e.ph∧e.ph < 9223372036854775808:=by
 obtain ⟨xs,n,rfl,hx,hl,qK,tL⟩:=DataW.trod_struct Tryz.underlying95 hf;have mV:cs.length=8:=hl.trans (by kernel_rfl);obtain ⟨c0,c1,c2,c3,c4,c5,c6,c7,rfl⟩:=length_eight mV;obtain ⟨x0,x1,x2,x3,x4,x5,x6,x7,rfl⟩:=length_eight (show xs.length=8 from qK);have hu8:Tryz.prog.cellsOf 5 =1:=by kernel_rfl
 have bT:Tryz.prog.cellsOf 9 =1:=by kernel_rfl
 have hu64:Tryz.prog.cellsOf 23 =1:=by kernel_rfl
 have hin:Tryz.prog.cellsOf 3 =1:=by kernel_rfl
 have h0:DataW.trod enc Tryz.prog W base spare held n 5 [c0]=some x0:=by simpa [hu8] using tL 0 _ rfl
 have h1:DataW.trod enc Tryz.prog W base spare held n 9 [c1]=some x1:=by simpa [bT] using tL 1 _ rfl
 have h2:DataW.trod enc Tryz.prog W base spare held n 9 [c2]=some x2:=by simpa [bT] using tL 2 _ rfl
 have h3:DataW.trod enc Tryz.prog W base spare held n 9 [c3]=some x3:=by simpa [bT] using tL 3 _ rfl
 have h4:DataW.trod enc Tryz.prog W base spare held n 9 [c4]=some x4:=by simpa [bT] using tL 4 _ rfl
 have h5:DataW.trod enc Tryz.prog W base spare held n 9 [c5]=some x5:=by simpa [bT] using tL 5 _ rfl
 have h6:DataW.trod enc Tryz.prog W base spare held n 23 [c6]=some x6:=by simpa [hu64] using tL 6 _ rfl
 have h7:DataW.trod enc Tryz.prog W base spare held n 3 [c7]=some x7:=by simpa [hin] using tL 7 _ rfl
 obtain ⟨k,e0,_,_⟩:=DataW.trod_int Tryz.underlying5 h0;obtain ⟨s1,e1,_,g1⟩:=DataW.trod_string Tryz.underlying9 h1;obtain ⟨s2,e2,_,g2⟩:=DataW.trod_string Tryz.underlying9 h2;obtain ⟨s3,e3,_,g3⟩:=DataW.trod_string Tryz.underlying9 h3;obtain ⟨s4,e4,_,g4⟩:=DataW.trod_string Tryz.underlying9 h4;obtain ⟨s5,e5,_,g5⟩:=DataW.trod_string Tryz.underlying9 h5;obtain ⟨v,e6,_,wv⟩:=DataW.trod_int Tryz.underlying23 h6;obtain ⟨p,e7,_,wp⟩:=DataW.trod_int Tryz.underlying3 h7
 simp at e0 e1 e2 e3 e4 e5 e6 e7
 have gv:0≤v∧v < 18446744073709551616:=by
  have h1:IntKind.u64.min=0:=by decide
  have h2:IntKind.u64.max=18446744073709551615:=by decide
  simp [Lit.wf] at wv;omega
 have gp:-9223372036854775808≤p∧p < 9223372036854775808:=by
  have h1:IntKind.i64.min=-9223372036854775808:=by decide
  have h2:IntKind.i64.max=9223372036854775807:=by decide
  simp [Lit.wf] at wp;omega
 refine ⟨⟨k,s1,s2,s3,s4,s5,v.toNat,p⟩,by simp [ez,e0,e1,e2,e3,e4,e5,e6,e7,Int.toNat_of_nonneg gv.1],⟨g1,g2,g3,g4,g5,?_⟩,gp⟩;show v.toNat < 18446744073709551616
 omega
theorem open_els2 {H:Type} {enc:TypeId × Value→H} {W:World} {base fuel:Nat} {spare:Nat→Bool} {held:Bool} {v:Value} {d:DataW H} {ps:List MemPlace}
 (hf:DataW.trod enc Tryz.prog W base spare held fuel 22 [v]=some (d,ps)) (hs:Small Tryz.prog 22 d):
 ∃l:List El,InSl W 8 v l.length (l.flatMap ez)∧l.length * 104≤reachBytes∧∀e∈l,e.Ok∧-9223372036854775808≤e.ph∧e.ph < 9223372036854775808:=by
 obtain ⟨n,E,D,r,h1,h2,h3⟩:=open_sl (P:=Tryz.prog) (size:=8) Tryz.underlying22 (by kernel_rfl) (by decide) hf;obtain ⟨B,hB⟩:=choose_lt (n:=n) (α:=El) (p:=fun i z=> E i=ez z∧z.Ok∧-9223372036854775808≤z.ph∧z.ph < 9223372036854775808) (fun i hi=> by
  obtain ⟨_,f,q,h4⟩:=h3 i hi;exact open_ez h4)
 refine ⟨(List.range n).map B,?_,?_,fun e he=> ?_⟩
 · have:((List.range n).map B).flatMap ez=(List.range n).flatMap E:=by
    rw [List.flatMap_def,List.flatMap_def,List.map_map]
    congr 1
    exact List.map_congr_left fun i hi=> (hB i (by simpa using hi)).1.symm
   rw [this];simpa using h1
 · simp only [List.length_map,List.length_range];rcases h2 with rfl | rfl
   · simp
   · have:=(small_slice Tryz.underlying22 hs).1;rw [show Tryz.prog.bytesOf 95 =104 from by kernel_rfl] at this;simpa using this
 · obtain ⟨i,hi,rfl⟩:=List.mem_map.1 he;exact (hB i (by simpa using hi)).2
theorem open_els {H:Type} {enc:TypeId × Value→H} {W:World} {base fuel:Nat} {spare:Nat→Bool} {held:Bool} {v:Value} {d:DataW H} {ps:List MemPlace}
 (hf:DataW.trod enc Tryz.prog W base spare held fuel 22 [v]=some (d,ps)) (hs:Small Tryz.prog 22 d):
 ∃l:List El,InSl W 8 v l.length (l.flatMap ez)∧l.length * 104≤reachBytes∧∀e∈l,e.Ok:=by
 obtain ⟨l,h1,h2,h3⟩:=open_els2 hf hs;exact ⟨l,h1,h2,fun e he=> (h3 e he).1⟩
end Go.Proofs.YtdepiggjneoopaaGreatDoor
