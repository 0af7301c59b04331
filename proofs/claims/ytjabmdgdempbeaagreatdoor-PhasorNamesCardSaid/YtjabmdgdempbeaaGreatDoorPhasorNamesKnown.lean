/- PhasorNames: the calls that are known, each by a run. By program (mkcl.py). -/
import Derived.Test.YtjabmdgdempbeaaGreatDoorStart
namespace Go.Proofs.YtjabmdgdempbeaaGreatDoor
open Go.Ev
set_option maxRecDepth 1000000
set_option maxHeartbeats 4000000
noncomputable def phasorNamesK0 : KT := []
theorem phasorNamesA0 : KnowsAll Tryz.prog clE phasorNamesK0 := trivial
/-- gridwork/quantity.Parse: 658 operations. -/
theorem phasorNamesN1 : Knows Tryz.prog clE 130 [.string ⟨#[56]⟩] (.tuple #[.float .f64 4620693217682128896, .agg #[.int .i64 0, .int .i64 0]]) :=
  knows_more clMixed clOk clBase phasorNamesA0 (K := 30) (d := 60) (n := 37) (by kernel_rfl)
noncomputable def phasorNamesK1 : KT := (130, [.string ⟨#[56]⟩], .tuple #[.float .f64 4620693217682128896, .agg #[.int .i64 0, .int .i64 0]]) :: phasorNamesK0
theorem phasorNamesA1 : KnowsAll Tryz.prog clE phasorNamesK1 := ⟨phasorNamesN1, phasorNamesA0⟩
/-- gridwork/quantity.Parse: 658 operations. -/
theorem phasorNamesN2 : Knows Tryz.prog clE 130 [.string ⟨#[50]⟩] (.tuple #[.float .f64 4611686018427387904, .agg #[.int .i64 0, .int .i64 0]]) :=
  knows_more clMixed clOk clBase phasorNamesA1 (K := 30) (d := 60) (n := 37) (by kernel_rfl)
noncomputable def phasorNamesK2 : KT := (130, [.string ⟨#[50]⟩], .tuple #[.float .f64 4611686018427387904, .agg #[.int .i64 0, .int .i64 0]]) :: phasorNamesK1
theorem phasorNamesA2 : KnowsAll Tryz.prog clE phasorNamesK2 := ⟨phasorNamesN2, phasorNamesA1⟩
/-- gridwork/quantity.Parse: 817 operations. -/
theorem phasorNamesN3 : Knows Tryz.prog clE 130 [.string ⟨#[48, 46, 53]⟩] (.tuple #[.float .f64 4602678819172646912, .agg #[.int .i64 0, .int .i64 0]]) :=
  knows_more clMixed clOk clBase phasorNamesA2 (K := 30) (d := 60) (n := 37) (by kernel_rfl)
noncomputable def phasorNamesK3 : KT := (130, [.string ⟨#[48, 46, 53]⟩], .tuple #[.float .f64 4602678819172646912, .agg #[.int .i64 0, .int .i64 0]]) :: phasorNamesK2
theorem phasorNamesA3 : KnowsAll Tryz.prog clE phasorNamesK3 := ⟨phasorNamesN3, phasorNamesA2⟩
/-- gridwork/quantity.Parse: 658 operations. -/
theorem phasorNamesN4 : Knows Tryz.prog clE 130 [.string ⟨#[49]⟩] (.tuple #[.float .f64 4607182418800017408, .agg #[.int .i64 0, .int .i64 0]]) :=
  knows_more clMixed clOk clBase phasorNamesA3 (K := 30) (d := 60) (n := 37) (by kernel_rfl)
noncomputable def phasorNamesK4 : KT := (130, [.string ⟨#[49]⟩], .tuple #[.float .f64 4607182418800017408, .agg #[.int .i64 0, .int .i64 0]]) :: phasorNamesK3
theorem phasorNamesA4 : KnowsAll Tryz.prog clE phasorNamesK4 := ⟨phasorNamesN4, phasorNamesA3⟩
/-- gridwork/gridworklaw20.lives: 21758 operations. -/
theorem phasorNamesN5 : Knows Tryz.prog clE 14 [] (.bool true) :=
  knows_more clMixed clOk clBase phasorNamesA4 (K := 30) (d := 60) (n := 37) (by kernel_rfl)
noncomputable def phasorNamesK5 : KT := (14, [], .bool true) :: phasorNamesK4
theorem phasorNamesA5 : KnowsAll Tryz.prog clE phasorNamesK5 := ⟨phasorNamesN5, phasorNamesA4⟩
def phasorNamesU : List AU := []
/-- The law in pieces. -/
noncomputable def phasorNamesE : Kn := clE.with phasorNamesK5
theorem phasorNamesOk : KnOk Tryz.prog phasorNamesE := clOk.with phasorNamesA5
theorem phasorNamesB : Base phasorNamesE clH := clBase.with _
noncomputable def phasorNamesBody : Code := bodyOf Tryz.prog 3
noncomputable def phasorNamesT1 : List Item := [.code (subC [1, 1, 1, 1] phasorNamesBody)]
def phasorNamesM1 : List (Nat × AV) := [(2, .u (.o (.p 155 0))), (3, .u (.o (.p 629 0))), (1, .u (.o (.c (.bool true)))), (0, .u (.o (.c (.bool false))))]
def phasorNamesR1 : List (Nat × AObj) := [(152, .mp [⟨.string ⟨#[86, 49]⟩, .o (.c (.int .i64 0)), 0⟩, ⟨.string ⟨#[82, 49]⟩, .o (.c (.int .i64 1)), 1⟩, ⟨.string ⟨#[82, 50]⟩, .o (.c (.int .i64 2)), 2⟩] 3), (153, .mp [⟨.string ⟨#[105, 110]⟩, .o (.c (.int .i64 0)), 0⟩, ⟨.string ⟨#[111, 117, 116]⟩, .o (.c (.int .i64 1)), 1⟩] 2), (154, .mp [⟨.string ⟨#[86, 49]⟩, .o (.c (.int .i64 0)), 0⟩] 1), (155, .row 48 [.c (.bool true), .s 207 0 3 (.rest 8), .m 152, .s 195 0 2 (.rest 1), .m 153, .s 180 0 1 (.rest 1), .m 154] .ex), (180, .row 9 [.c (.string ⟨#[86, 49]⟩)] .op), (195, .row 9 [.c (.string ⟨#[105, 110]⟩), .c (.string ⟨#[111, 117, 116]⟩)] .op), (207, .row 71 [.c (.int .u8 5), .c (.string ⟨#[86, 49]⟩), .c (.string ⟨#[105, 110]⟩), .c (.string ⟨#[48]⟩), .c (.string ⟨#[]⟩), .c (.string ⟨#[]⟩), .c (.float .f64 4620693217682128896), .c (.int .i64 0), .c (.int .u8 1), .c (.string ⟨#[82, 49]⟩), .c (.string ⟨#[105, 110]⟩), .c (.string ⟨#[111, 117, 116]⟩), .c (.string ⟨#[]⟩), .c (.string ⟨#[]⟩), .c (.float .f64 4611686018427387904), .c (.int .i64 0), .c (.int .u8 1), .c (.string ⟨#[82, 50]⟩), .c (.string ⟨#[111, 117, 116]⟩), .c (.string ⟨#[48]⟩), .c (.string ⟨#[]⟩), .c (.string ⟨#[]⟩), .c (.float .f64 4611686018427387904), .c (.int .i64 0)] .op), (626, .row 33 [.c (.complex .f64 4620693217682128896 0), .c (.complex .f64 4616189618054758400 0)] .ex), (627, .row 33 [.c (.complex .f64 13835058055282163712 0)] .ex), (629, .row 27 [.c (.float .f64 4607182418800017408), .s 626 0 2 (.exact 2), .s 627 0 1 (.exact 1)] .ex)]
noncomputable def phasorNamesT2 : List Item := [.code (subC [1, 1, 1, 1, 1, 1, 1, 1, 1, 1, 1, 1, 1] phasorNamesBody)]
def phasorNamesM2 : List (Nat × AV) := [(2, .u (.o (.p 155 0))), (21, .u (.o (.p 1112 0))), (20, .u (.o (.p 1111 0))), (1, .u (.o (.c (.bool true)))), (19, .u (.o (.c (.bool true)))), (0, .u (.o (.c (.bool false))))]
def phasorNamesR2 : List (Nat × AObj) := [(152, .mp [⟨.string ⟨#[86, 49]⟩, .o (.c (.int .i64 0)), 0⟩, ⟨.string ⟨#[82, 49]⟩, .o (.c (.int .i64 1)), 1⟩, ⟨.string ⟨#[82, 50]⟩, .o (.c (.int .i64 2)), 2⟩] 3), (153, .mp [⟨.string ⟨#[105, 110]⟩, .o (.c (.int .i64 0)), 0⟩, ⟨.string ⟨#[111, 117, 116]⟩, .o (.c (.int .i64 1)), 1⟩] 2), (154, .mp [⟨.string ⟨#[86, 49]⟩, .o (.c (.int .i64 0)), 0⟩] 1), (155, .row 48 [.c (.bool true), .s 207 0 3 (.rest 8), .m 152, .s 195 0 2 (.rest 1), .m 153, .s 180 0 1 (.rest 1), .m 154] .ex), (180, .row 9 [.c (.string ⟨#[86, 49]⟩)] .op), (195, .row 9 [.c (.string ⟨#[105, 110]⟩), .c (.string ⟨#[111, 117, 116]⟩)] .op), (207, .row 71 [.c (.int .u8 5), .c (.string ⟨#[86, 49]⟩), .c (.string ⟨#[105, 110]⟩), .c (.string ⟨#[48]⟩), .c (.string ⟨#[]⟩), .c (.string ⟨#[]⟩), .c (.float .f64 4620693217682128896), .c (.int .i64 0), .c (.int .u8 1), .c (.string ⟨#[82, 49]⟩), .c (.string ⟨#[105, 110]⟩), .c (.string ⟨#[111, 117, 116]⟩), .c (.string ⟨#[]⟩), .c (.string ⟨#[]⟩), .c (.float .f64 4611686018427387904), .c (.int .i64 0), .c (.int .u8 1), .c (.string ⟨#[82, 50]⟩), .c (.string ⟨#[111, 117, 116]⟩), .c (.string ⟨#[48]⟩), .c (.string ⟨#[]⟩), .c (.string ⟨#[]⟩), .c (.float .f64 4611686018427387904), .c (.int .i64 0)] .op), (1108, .row 33 [.c (.complex .f64 0 13835058055282163712)] .ex), (1109, .row 33 [] .ex), (1111, .row 27 [.c (.float .f64 4611686018427387904), .s 1108 0 1 (.exact 1), .s 1109 0 0 (.exact 0)] .ex), (1112, .row 30 [.c (.int .i64 0), .c (.int .i64 0)] .ex)]
noncomputable def phasorNamesT3 : List Item := [.code (subC [1, 1, 1, 1, 1, 1, 1, 1, 1, 1, 1, 1, 1, 1, 1, 1] phasorNamesBody)]
def phasorNamesM3 : List (Nat × AV) := [(2, .u (.o (.p 155 0))), (21, .u (.o (.p 1112 0))), (20, .u (.o (.p 1111 0))), (23, .u (.o (.p 1117 0))), (25, .u (.o (.p 1122 0))), (27, .u (.o (.p 1581 0))), (1, .u (.o (.c (.bool true)))), (19, .u (.o (.c (.bool true)))), (0, .u (.o (.c (.bool false))))]
def phasorNamesR3 : List (Nat × AObj) := [(152, .mp [⟨.string ⟨#[86, 49]⟩, .o (.c (.int .i64 0)), 0⟩, ⟨.string ⟨#[82, 49]⟩, .o (.c (.int .i64 1)), 1⟩, ⟨.string ⟨#[82, 50]⟩, .o (.c (.int .i64 2)), 2⟩] 3), (153, .mp [⟨.string ⟨#[105, 110]⟩, .o (.c (.int .i64 0)), 0⟩, ⟨.string ⟨#[111, 117, 116]⟩, .o (.c (.int .i64 1)), 1⟩] 2), (154, .mp [⟨.string ⟨#[86, 49]⟩, .o (.c (.int .i64 0)), 0⟩] 1), (155, .row 48 [.c (.bool true), .s 207 0 3 (.rest 8), .m 152, .s 195 0 2 (.rest 1), .m 153, .s 180 0 1 (.rest 1), .m 154] .ex), (180, .row 9 [.c (.string ⟨#[86, 49]⟩)] .op), (195, .row 9 [.c (.string ⟨#[105, 110]⟩), .c (.string ⟨#[111, 117, 116]⟩)] .op), (207, .row 71 [.c (.int .u8 5), .c (.string ⟨#[86, 49]⟩), .c (.string ⟨#[105, 110]⟩), .c (.string ⟨#[48]⟩), .c (.string ⟨#[]⟩), .c (.string ⟨#[]⟩), .c (.float .f64 4620693217682128896), .c (.int .i64 0), .c (.int .u8 1), .c (.string ⟨#[82, 49]⟩), .c (.string ⟨#[105, 110]⟩), .c (.string ⟨#[111, 117, 116]⟩), .c (.string ⟨#[]⟩), .c (.string ⟨#[]⟩), .c (.float .f64 4611686018427387904), .c (.int .i64 0), .c (.int .u8 1), .c (.string ⟨#[82, 50]⟩), .c (.string ⟨#[111, 117, 116]⟩), .c (.string ⟨#[48]⟩), .c (.string ⟨#[]⟩), .c (.string ⟨#[]⟩), .c (.float .f64 4611686018427387904), .c (.int .i64 0)] .op), (1108, .row 33 [.c (.complex .f64 0 13835058055282163712)] .ex), (1109, .row 33 [] .ex), (1111, .row 27 [.c (.float .f64 4611686018427387904), .s 1108 0 1 (.exact 1), .s 1109 0 0 (.exact 0)] .ex), (1112, .row 30 [.c (.int .i64 0), .c (.int .i64 0)] .ex), (1117, .row 30 [.c (.int .i64 2), .c (.int .i64 (-1))] .ex), (1122, .row 30 [.c (.int .i64 5), .c (.int .i64 (-1))] .ex), (1581, .row 30 [.c (.int .i64 7), .c (.int .i64 2)] .ex)]
theorem phasorNamesG3 : Goes Tryz.prog phasorNamesE Tryz.f3 (mkH phasorNamesR3 clH) (mkT phasorNamesM3) phasorNamesT3 (.bool true) :=
  goes_ret clMixed phasorNamesOk (K := 30) (d := 60) (N := 15) (n := 1582) (by kernel_rfl)
/-- 14376 operations. -/
theorem phasorNamesG2 : Goes Tryz.prog phasorNamesE Tryz.f3 (mkH phasorNamesR2 clH) (mkT phasorNamesM2) phasorNamesT2 (.bool true) :=
  goes_seg clMixed phasorNamesOk phasorNamesB (K := 30) (d := 60) (N := 6) (n := 1113) (tl := phasorNamesM3) (rl := phasorNamesR3) (by kernel_rfl) (by kernel_rfl) phasorNamesG3
/-- 12995 operations. -/
theorem phasorNamesG1 : Goes Tryz.prog phasorNamesE Tryz.f3 (mkH phasorNamesR1 clH) (mkT phasorNamesM1) phasorNamesT1 (.bool true) :=
  goes_seg clMixed phasorNamesOk phasorNamesB (K := 30) (d := 60) (N := 18) (n := 631) (tl := phasorNamesM2) (rl := phasorNamesR2) (by kernel_rfl) (by kernel_rfl) phasorNamesG2
/-- 21668 operations. -/
theorem phasorNamesG0 : Goes Tryz.prog phasorNamesE Tryz.f3 clH (argsT phasorNamesU 0 .leaf) [.code phasorNamesBody] (.bool true) :=
  goes_seg clMixed phasorNamesOk phasorNamesB (K := 30) (d := 60) (N := 8) (n := 37) (tl := phasorNamesM1) (rl := phasorNamesR1) (by kernel_rfl) (by kernel_rfl) phasorNamesG1
theorem phasorNamesN6 : Knows Tryz.prog clE 3 [] (.bool true) :=
  fun B0 w0 ρ G w hR => knows_goes phasorNamesB Tryz.func3 (c := phasorNamesBody) (by kernel_rfl) (us := phasorNamesU) (by kernel_rfl) phasorNamesG0 (args := []) (fun _ => by unfold phasorNamesU; trivial) B0 w0 ρ G w hR.kn'
end Go.Proofs.YtjabmdgdempbeaaGreatDoor
