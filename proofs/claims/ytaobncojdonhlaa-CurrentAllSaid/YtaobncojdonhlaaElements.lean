/- Walks of gridworkkit.Element, ElementsOf. -/
import Derived.Test.YtaobncojdonhlaaCheck
import Derived.Test.YtaobncojdonhlaaFlat
import Derived.Test.YtaobncojdonhlaaNums
import Derived.StillTailTactics
namespace Go.Proofs.Ytaobncojdonhlaa
open Go.RowKit

theorem infoEz : (Try.prog.info? 65).map (fun i => (i.zero, i.size, i.bytes)) = some (some (.agg #[.int .u8 0, .string ⟨#[]⟩, .string ⟨#[]⟩, .string ⟨#[]⟩, .string ⟨#[]⟩, .string ⟨#[]⟩, .int .u64 0, .int .i64 0]), 8, 104) := by kernel_rfl
theorem infoEa : (Try.prog.info? 56).map (fun i => (i.zero, i.size, i.bytes)) = some (some (.agg #[.int .u8 0, .string ⟨#[]⟩, .string ⟨#[]⟩, .string ⟨#[]⟩, .string ⟨#[]⟩, .string ⟨#[]⟩, .float .f64 0, .int .i64 0]), 8, 104) := by kernel_rfl
def agE (e : El) : Value := .agg #[.int .u8 e.kind, .string e.name, .string e.a, .string e.b, .string e.c, .string e.d, .float .f64 e.val, .int .i64 e.ph]
theorem agE_cells (e : El) : (agE e).cells.toList = ea e := rfl
theorem two_blocks (w : World) (o1 o2 : Obj) : ((w.alloc o1).alloc o2).heap[w.heap.size]? = some o1 ∧ ((w.alloc o1).alloc o2).heap[w.heap.size + 1]? = some o2 ∧ Below w.heap.size w ((w.alloc o1).alloc o2) := by
  have h1 : (w.alloc o1).heap.size = w.heap.size + 1 := by simp
  have h2 := heap_alloc_new (w.alloc o1) o2
  rw [h1] at h2
  exact ⟨(heap_alloc_old (w.alloc o1) o2 (by simp)).trans (heap_alloc_new w o1), h2, ((Below.refl _ w).alloc (Nat.le_refl _) _).alloc (by simp) _⟩
set_option maxRecDepth 100000 in
set_option maxHeartbeats 2000000 in
theorem element_any (e : El) (w : World) :
    Calls Try.prog 18 #[.agg #[.int .u8 e.kind, .string e.name, .string e.a, .string e.b, .string e.c, .string e.d, .int .u64 e.val, .int .i64 e.ph]] w fun en w' => en = .returned (agE e) ∧ Below w.heap.size w w' := by
  have b2 := frombits_law
  go_enter Try.func18, Try.ntmps18
  go_upto_region 1 with fail
  obtain ⟨hA, hR, hB⟩ := two_blocks w (.cells #[.int .u8 e.kind, .string e.name, .string e.a, .string e.b, .string e.c, .string e.d, .int .u64 e.val, .int .i64 e.ph] 65) (.cells #[.int .u8 0, .string ⟨#[]⟩, .string ⟨#[]⟩, .string ⟨#[]⟩, .string ⟨#[]⟩, .string ⟨#[]⟩, .float .f64 0, .int .i64 0] 56)
  generalize hW : (w.alloc (.cells #[.int .u8 e.kind, .string e.name, .string e.a, .string e.b, .string e.c, .string e.d, .int .u64 e.val, .int .i64 e.ph] 65)).alloc (.cells #[.int .u8 0, .string ⟨#[]⟩, .string ⟨#[]⟩, .string ⟨#[]⟩, .string ⟨#[]⟩, .string ⟨#[]⟩, .float .f64 0, .int .i64 0] 56) = W at *
  obtain ⟨hc, _⟩ := block_cells hA
  have c0 := hc 0 _ rfl
  have c1 := hc 1 _ rfl
  have c2 := hc 2 _ rfl
  have c3 := hc 3 _ rfl
  have c4 := hc 4 _ rfl
  have c5 := hc 5 _ rfl
  have c6 := hc 6 _ rfl
  have c7 := hc 7 _ rfl
  have HB := hid hB
  have HR := hid hR
  have HW := hid hW
  clear hc hA hR hB hW
  go_still_tail 18, (by kernel_rfl)
  change wpList _ _ _ _ _ W.drew
  rw [← HW.out]
  go_wp2
  refine bodyPost_ret (v := .agg #[.int .u8 e.kind, .string e.name, .string e.a, .string e.b, .string e.c, .string e.d, .float .f64 e.val, .int .i64 e.ph]) ?_ rfl ⟨rfl, ?_⟩
  · first | (rw [results_cell rfl]; go_simp; done) | (unfold results; go_simp; done) | (go_simp; done) | skip
  exact (((Below.refl _ w).alloc (Nat.le_refl _) _).alloc (by simp) _).drew

theorem el_cells (e : El) : (agE e).cells.size = 8 := rfl
theorem ea_len (e : El) : (ea e).length = 8 := rfl
theorem ez_len (e : El) : (ez e).length = 8 := rfl
set_option maxRecDepth 100000 in
set_option maxHeartbeats 1000000 in
theorem elements_any (v : Value) (l : List El) (w : World) (hv : InSl w 8 v l.length (l.flatMap ez)) (hl : l.length * 104 ≤ 140737488351232) :
    Calls Try.prog 4 #[v] w (RetRow 56 8 l.length (fun xs => xs = l.flatMap ea) w) := by
  obtain ⟨a, c, rfl⟩ := hv.form
  obtain ⟨i0, hi, hz0, hz1, hz2⟩ := info_parts infoEa
  obtain ⟨iu, hiu, hu0, hu1, hu2⟩ := info_parts infoEz
  go_enter Try.func4, Try.ntmps4
  go_wp2
  go_loopw [3, 4] (fun out i wr => ∃ k : Nat, k ≤ l.length ∧ i = .int .i64 k ∧ wr.ownsRow w.heap.size 56 8 out k ((l.take k).flatMap ea) ∧ Below w.heap.size w wr) (fun _ i _ => l.length - (intOf i).toNat)
  case atStart => exact ⟨0, Nat.zero_le _, rfl, World.ownsRow_nil _ _ _ _, Below.refl _ _⟩
  case round =>
    obtain ⟨k, hk, rfl, hown, hb⟩ := hrel
    by_cases hlt : k < l.length
    · obtain ⟨g, o, x, hidx, hg, hx, hcell⟩ := InSl.atF Try.underlying22 hiu hu1 ez_len (hv.below hb (Nat.le_refl _)) rfl hlt
      have c0 := hcell 0 _ rfl
      have c1 := hcell 1 _ rfl
      have c2 := hcell 2 _ rfl
      have c3 := hcell 3 _ rfl
      have c4 := hcell 4 _ rfl
      have c5 := hcell 5 _ rfl
      have c6 := hcell 6 _ rfl
      have c7 := hcell 7 _ rfl
      rw [Nat.add_zero] at c0
      have HX := hid hx
      have HB := hid hb
      have HO := hid hown
      clear hx hb hown hcell
      go_wp2_with fail
      refine (element_any x _).mono ?_
      rintro en w1 ⟨rfl, hb1⟩
      have HB1 := hid (below_step HB.out hb1)
      have hsz := HB1.out.size
      have hown : w1.ownsRow w.heap.size 56 8 u3 k ((l.take k).flatMap ea) := own_none HO.out (grown_of_below hb1 _)
      go_wp2_with (refine wpList_push2 rfl rfl _ rfl _ _ _ rfl rfl w.heap.size 56 8 104 i0 (.agg #[.int .u8 0, .string ⟨#[]⟩, .string ⟨#[]⟩, .string ⟨#[]⟩, .string ⟨#[]⟩, .string ⟨#[]⟩, .float .f64 0, .int .i64 0]) Try.underlying27 hi hz0 hz1 hz2 rfl (by decide) (by decide) _ k _ hown hsz (.agg #[.int .u8 x.kind, .string x.name, .string x.a, .string x.b, .string x.c, .string x.d, .float .f64 x.val, .int .i64 x.ph]) rfl rfl (ea_one x) rfl rfl (by simp [maxLen]; omega) (by omega) ?_; intro g1 cap1 w2 hown1 hg1 htwo)
      go_roundw
      case rel =>
        refine ⟨k + 1, by omega, by go_num, ?_, ?_⟩
        · rw [flat_take l k x HX.out]; exact hown1
        · rcases htwo with ⟨h1, h2⟩ | ⟨_, h2⟩
          · exact below_grown HB1.out h2 fun _ e => by cases e; exact (hown.lt _ h1).1
          · exact below_grown HB1.out h2 fun _ e => by cases e
      case measure => simp [intOf]; omega
    · go_wp2
      go_ret
      obtain rfl : k = l.length := by omega
      exact ⟨_, _, rfl, hown, by simp, hb⟩
end Go.Proofs.Ytaobncojdonhlaa
