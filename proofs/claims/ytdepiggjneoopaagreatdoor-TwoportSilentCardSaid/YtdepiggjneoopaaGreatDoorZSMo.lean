/- a part of the proof of the last text -/
import Derived.Test.YtdepiggjneoopaaGreatDoorZMNumbers2
namespace Go.Proofs.YtdepiggjneoopaaGreatDoor
set_option linter.all false
set_option maxHeartbeats 4000000
set_option maxRecDepth 100000
open Go.RowKit
theorem samematrix_ok (r c:Int) (v u:Value) (l m:List Cx) (w:World) (hv:IsSl w 1 v l.length (l.map mkC)) (hu:IsSl w 1 u m.length (m.map mkC)) (hl:l.length≤140737488355328) (hm:m.length≤140737488355328)
 (h:l.map ck=m.map ck):
 Calls Tryz.prog 12 #[.agg #[.int .i64 r,.int .i64 c,v],.agg #[.int .i64 r,.int .i64 c,u]] w (fun e w'=> e=.returned (.bool true)∧Below w.heap.size w w'):=by
 obtain ⟨a,k0,rfl⟩:=hv.form;obtain ⟨a2,k2,rfl⟩:=hu.form;have aV:=((Below.refl _ w).alloc (Nat.le_refl _) (.cells #[.int .i64 r,.int .i64 c,.slice a l.length k0] 43)).alloc (by simp) (.cells #[.int .i64 r,.int .i64 c,.slice a2 m.length k2] 43);have HV:=hid (hv.below aV (Nat.le_refl _));have HU:=hid (hu.below aV (Nat.le_refl _));have HB:=hid aV;have H:=hid h;clear hv hu aV h;go_enter Tryz.func12,Tryz.ntmps12;go_wp2_with fail;refine (samenumbers_any _ _ l m _ HV.out HU.out hl hm).mono ?_;rintro e w' ⟨v1,n1,rfl,rfl,rfl⟩;rw [H.out,beq_self_eq_true];go_wp2_with fail;go_ret;exact ⟨rfl,zAg HB.out _⟩
theorem samenumbers_ok (v u:Value) (l m:List Cx) (w:World) (hv:IsSl w 1 v l.length (l.map mkC)) (hu:IsSl w 1 u m.length (m.map mkC)) (hl:l.length≤140737488355328) (hm:m.length≤140737488355328) (he:l.map ck=m.map ck):
 Calls Tryz.prog 13 #[v,u] w fun e wz=> e=.returned (.bool true)∧Below w.heap.size w wz:=
 (samenumbers_any v u l m w hv hu hl hm).mono fun _ _ ⟨v,n,h1,h2,h3⟩=> ⟨by rw [h1,h3,he];simp,by rw [h2];exact zAg (Below.refl _ _) n⟩
end Go.Proofs.YtdepiggjneoopaaGreatDoor
