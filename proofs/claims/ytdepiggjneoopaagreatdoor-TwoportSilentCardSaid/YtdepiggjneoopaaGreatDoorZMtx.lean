/- a part of the proof of the last text -/
import Derived.Test.YtdepiggjneoopaaGreatDoorZMSrc1
namespace Go.Proofs.YtdepiggjneoopaaGreatDoor
set_option linter.all false
set_option maxHeartbeats 4000000
set_option maxRecDepth 100000
open Go.RowKit
def zEs (S:(Nat × List Cx) × (Int × Int)) (w:World) (e:Ending) (w':World):Prop:=
 ∃ (v:Value) (xs:List Cx),e=.returned (.tuple #[.agg #[.int .i64 S.1.1,.int .i64 S.1.1,v],.agg #[.int .i64 S.2.1,.int .i64 S.2.2]])∧xs.map ck=S.1.2∧w'.ownsRow w.heap.size 48 1 v xs.length (xs.map mkC)∧Below w.heap.size w w'
theorem zEs.bad {w w':World} {S:(Nat × List Cx) × (Int × Int)} {a b:Int} (h:S=((0, []),(a,b))) (hb:Below w.heap.size w w'):zEs S w (.returned (.tuple #[.agg #[.int .i64 0,.int .i64 0,.slice none 0 0],.agg #[.int .i64 a,.int .i64 b]])) w':=
 ⟨.slice none 0 0, [],by rw [h];rfl,by rw [h];rfl,World.ownsRow_nil _ _ _ _,hb⟩
theorem zAh {fn:Func} {p q:Tmp} {ty ty2:TypeId} (h:fn.results=#[.cell p ty,.cell q ty2]) (tmps:Array Value) (P:Program) (w:World):
 (results fn tmps).run P w=
  ((asAddr (tmps.getD p undef)).run P w).andThen fun a w₁=> ((loadVar ty a).run P w₁).andThen fun v w₂=> ((asAddr (tmps.getD q undef)).run P w₂).andThen fun b w₃=> ((loadVar ty2 b).run P w₃).andThen fun u w₄=> .ok (.tuple #[v,u]) w₄:=by
 simp only [results,h]
 simp [Sem.run_bind,Result.andThen]
theorem zCz (w:World) (o o':Obj):Below w.heap.size w ((w.alloc o).alloc o'):=((Below.refl _ _).alloc (Nat.le_refl _) o).alloc (by simp) o'
theorem NN.alloc2 {w:World} {p:Value} {l:List El} (h:NN w p l) (o o':Obj):NN ((w.alloc o).alloc o') p l:=h.below (zCz w o o') (Nat.le_refl _)
theorem zAu {w w':World} {g b:Nat} {o:Obj} (hg:w.grownBy w' (some g)) (aK:¬some g=some b) (h:w.heap[b]? =some o):w'.heap[b]? =some o:=
 (hg.block b (Array.getElem?_eq_some_iff.1 h).1 (fun e=> aK e.symm)).trans h
theorem has_br {l:List El} {k:Nat} {x:El} (h:l[k]? =some x) (hb:isBr x=true):has (brs l) x.name=true:=by
 unfold has brs;rw [List.any_eq_true];exact ⟨x.name,List.mem_map.2 ⟨x,List.mem_filter.2 ⟨List.mem_of_getElem? h,hb⟩,rfl⟩,by simp⟩
theorem step_ad {l:List El} {om y1 y2:Nat} {m:Nat→Cx} {x:El} (h:isAd x=true) (h0:(admS x om).2=0) (hy:(fc y1,fc y2)=(admS x om).1):
 zBd l om m x=(((zFf (rowI l x.a) (rowI l x.b) (fc y1,fc y2)).foldl (st1 (szL l)) (m,false)).1,if ((zFf (rowI l x.a) (rowI l x.b) (fc y1,fc y2)).foldl (st1 (szL l)) (m,false)).2=true then 6 else 0):=by
 unfold zBd;rw [if_neg (fun e=> e.2 h0),hy];unfold stOf;rw [if_pos h]
theorem step_bad {l:List El} {om:Nat} {m:Nat→Cx} {x:El} (h:isAd x=true) (h0:(admS x om).2≠0):zBd l om m x=(m,(admS x om).2):=by
 unfold zBd;rw [if_pos ⟨h,h0⟩]
theorem step_no {l:List El} {om:Nat} {m:Nat→Cx} {x:El} {L:List St} (h:isAd x=false) (hL:∀y,stOf l x y=L):
 zBd l om m x=((L.foldl (st1 (szL l)) (m,false)).1,if (L.foldl (st1 (szL l)) (m,false)).2=true then 6 else 0):=by
 unfold zBd;rw [if_neg (fun e=> by rw [h] at e;cases e.1),hL]
def zDv (a b:Int):Value:=.tuple #[.agg #[.int .i64 0,.int .i64 0,.slice none 0 0],.agg #[.int .i64 a,.int .i64 b]]
theorem smatrix_bad (p:Value) (l:List El) (om:Nat) (w:World) (hp:NN w p l) (hn:has (l.map El.name) ⟨#[]⟩=false) (hb:zBp p=true∨angE om≠0):
 Calls Tryz.prog 100 #[p,.float .f64 om] w (zEs (matS (zBp p) l om) w):=by
 have HP:=hid hp;have HN:=hid hn;cases hq:zBp p
 · have ha:angE om≠0:=by rcases hb with h | h;(rw [hq] at h;cases h);exact h
   have HQ:=hid hq;clear hp hn hb hq;have HA:=hid ha;cases hf:FV.fin om
   · have H5:=hid (ang_5 ((fin_iff om).symm.trans hf));rcases isInf_not hf with h | ⟨h,h2⟩
     · have HI:=hid h;clear hf h ha;go_enter Tryz.func100,Tryz.ntmps100;go_wp2_with (first | (go_at_call 128;refine (made_any _ l _ (HP.out.alloc2 _ _) HN.out).mono ?_;rintro e w' ⟨rfl,rfl⟩;rw [HQ.out]) | (go_at_call 129;refine (isinf_any _ _).mono ?_;rintro e w' ⟨rfl,rfl⟩;rw [HI.out]));refine bodyPost_ret (v:=zDv 5 (-1)) ?_ rfl (zEs.bad ((mat_ang HA.out).trans (by rw [H5.out])) (zCz _ _ _));rw [zAh rfl];go_simp;rfl
     · have HI:=hid h;have h3:(FloatKind.f64.format.order om om !=some .eq)=true:=h2;clear hf h h2 ha;go_enter Tryz.func100,Tryz.ntmps100;go_wp2_with (first | (go_at_call 128;refine (made_any _ l _ (HP.out.alloc2 _ _) HN.out).mono ?_;rintro e w' ⟨rfl,rfl⟩;rw [HQ.out]) | (go_at_call 129;refine (isinf_any _ _).mono ?_;rintro e w' ⟨rfl,rfl⟩;rw [HI.out]));refine bodyPost_ret (v:=zDv 5 (-1)) ?_ rfl (zEs.bad ((mat_ang HA.out).trans (by rw [H5.out])) (zCz _ _ _));rw [zAh rfl];go_simp;rfl
   · have zJ:ffin (fc om)=true:=(fin_iff om).symm.trans hf;cases hg:(FloatKind.f64.format.order om 0==some .gt)
     · have H2:=hid (ang_2 zJ hg);have HI:=hid (isInf_fin hf);have h3:(FloatKind.f64.format.order om om !=some .eq)=false:=by
        have:=ord_self hf;show (ford om om !=some .eq)=false;rw [this];rfl
       have h4:(FloatKind.f64.format.order om 0==some .lt || FloatKind.f64.format.order om 0==some .eq)=true:=by
        have:=ord_le hf (show FV.fin 0=true by decide);show (ford om 0==some .lt || ford om 0==some .eq)=true;rw [this];show (!(FloatKind.f64.format.order om 0==some .gt))=true;rw [hg];rfl
       clear hf zJ hg ha;go_enter Tryz.func100,Tryz.ntmps100;go_wp2_with (first | (go_at_call 128;refine (made_any _ l _ (HP.out.alloc2 _ _) HN.out).mono ?_;rintro e w' ⟨rfl,rfl⟩;rw [HQ.out]) | (go_at_call 129;refine (isinf_any _ _).mono ?_;rintro e w' ⟨rfl,rfl⟩;rw [HI.out]));refine bodyPost_ret (v:=zDv 2 (-1)) ?_ rfl (zEs.bad ((mat_ang HA.out).trans (by rw [H2.out])) (zCz _ _ _));rw [zAh rfl];go_simp;rfl
     · exact absurd (ang_0 zJ hg) ha
 · have HQ:=hid hq;clear hp hn hb hq;go_enter Tryz.func100,Tryz.ntmps100;go_upto_region 2 with (go_at_call 128;refine (made_any _ l _ (HP.out.alloc2 _ _) HN.out).mono ?_;rintro e w' ⟨rfl,rfl⟩;rw [HQ.out]);go_wp2;refine bodyPost_ret (v:=zDv 1 (-1)) ?_ rfl (zEs.bad mat_none (zCz _ _ _));rw [zAh rfl];go_simp;rfl
end Go.Proofs.YtdepiggjneoopaaGreatDoor
