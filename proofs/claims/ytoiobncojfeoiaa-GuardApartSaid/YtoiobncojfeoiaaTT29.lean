/-
  A part of the proof: what functions that the statement reaches do, or a plain law on what they do. Each theorem holds under its own premises alone.
-/
import Derived.Test.YtoiobncojfeoiaaKit
import Derived.Test.YtoiobncojfeoiaaRows
namespace Go.Proofs.Ytoiobncojfeoiaa
open Go.Lk
theorem Try.mixed : Try.prog.follows .mixedOrders = true := by kernel_rfl
theorem Try.ti3 : TI Try.prog 3 (.int .i64 0) 1 8 := TI.of (by kernel_rfl)
theorem Try.one3 : One Try.prog 3 := ⟨_, Try.underlying3, rfl⟩
theorem Try.ti9 : TI Try.prog 9 (.string ⟨#[]⟩) 1 16 := TI.of (by kernel_rfl)
theorem Try.one9 : One Try.prog 9 := ⟨_, Try.underlying9, rfl⟩
theorem Try.ti22 : TI Try.prog 22 (.slice none 0 0) 1 24 := TI.of (by kernel_rfl)
theorem Try.one22 : One Try.prog 22 := ⟨_, Try.underlying22, rfl⟩
theorem Try.ti23 : TI Try.prog 23 (.float .f64 0) 1 8 := TI.of (by kernel_rfl)
theorem Try.one23 : One Try.prog 23 := ⟨_, Try.underlying23, rfl⟩
theorem Try.ti25 : TI Try.prog 25 (.agg #[(.float .f64 0), (.float .f64 0)]) 2 16 := TI.of (by kernel_rfl)
theorem Try.agg25 : Agg Try.prog 25 := ⟨_, Try.underlying25, rfl⟩
theorem Try.ti34 : TI Try.prog 34 (.pointer none) 1 8 := TI.of (by kernel_rfl)
theorem Try.one34 : One Try.prog 34 := ⟨_, Try.underlying34, rfl⟩
theorem Try.ti40 : TI Try.prog 40 (.agg #[(.string ⟨#[]⟩), (.slice none 0 0)]) 2 40 := TI.of (by kernel_rfl)
theorem Try.agg40 : Agg Try.prog 40 := ⟨_, Try.underlying40, rfl⟩
theorem Try.ti44 : TI Try.prog 44 (.slice none 0 0) 1 24 := TI.of (by kernel_rfl)
theorem Try.one44 : One Try.prog 44 := ⟨_, Try.underlying44, rfl⟩
theorem Try.ti46 : TI Try.prog 46 (.agg #[(.float .f64 0), (.slice none 0 0)]) 2 32 := TI.of (by kernel_rfl)
theorem Try.agg46 : Agg Try.prog 46 := ⟨_, Try.underlying46, rfl⟩
theorem Try.ti47 : TI Try.prog 47 (.slice none 0 0) 1 24 := TI.of (by kernel_rfl)
theorem Try.one47 : One Try.prog 47 := ⟨_, Try.underlying47, rfl⟩
theorem Try.ti49 : TI Try.prog 49 (.int .i8 0) 1 1 := TI.of (by kernel_rfl)
theorem Try.one49 : One Try.prog 49 := ⟨_, Try.underlying49, rfl⟩
theorem Try.ti51 : TI Try.prog 51 (.agg #[(.int .i8 0), (.int .i64 0), (.int .i64 0), (.float .f64 0)]) 4 32 := TI.of (by kernel_rfl)
theorem Try.agg51 : Agg Try.prog 51 := ⟨_, Try.underlying51, rfl⟩
theorem Try.ti57 : TI Try.prog 57 (.agg #[(.float .f64 0), (.float .f64 0), (.float .f64 0), (.float .f64 0), (.float .f64 0)]) 5 40 := TI.of (by kernel_rfl)
theorem Try.ti60 : TI Try.prog 60 (.agg #[(.int .i64 0), (.int .i8 0), (.float .f64 0), (.float .f64 0), (.float .f64 0), (.float .f64 0), (.float .f64 0), (.float .f64 0), (.float .f64 0), (.float .f64 0), (.float .f64 0), (.float .f64 0), (.int .u16 0), (.int .i64 0), (.float .f64 0)]) 15 120 := TI.of (by kernel_rfl)
theorem Try.agg60 : Agg Try.prog 60 := ⟨_, Try.underlying60, rfl⟩
theorem Try.ti84 : TI Try.prog 84 (.map none) 1 8 := TI.of (by kernel_rfl)
theorem Try.one84 : One Try.prog 84 := ⟨_, Try.underlying84, rfl⟩
theorem Try.ti85 : TI Try.prog 85 (.slice none 0 0) 1 24 := TI.of (by kernel_rfl)
theorem Try.one85 : One Try.prog 85 := ⟨_, Try.underlying85, rfl⟩
theorem Try.ti90 : TI Try.prog 90 (.agg #[(.int .i64 0), (.string ⟨#[]⟩), (.slice none 0 0)]) 3 48 := TI.of (by kernel_rfl)
theorem Try.agg90 : Agg Try.prog 90 := ⟨_, Try.underlying90, rfl⟩
theorem Try.ti98 : TI Try.prog 98 (.agg #[(.int .i64 0), (.int .i64 0)]) 2 16 := TI.of (by kernel_rfl)
theorem Try.agg98 : Agg Try.prog 98 := ⟨_, Try.underlying98, rfl⟩
theorem Try.ti102 : TI Try.prog 102 (.agg #[(.float .f64 0), (.float .f64 0), (.float .f64 0), (.float .f64 0)]) 4 32 := TI.of (by kernel_rfl)
theorem Try.pl25 : Pl Try.prog 25 [(.float .f64 0), (.float .f64 0)] [(0, 1), (1, 1)] := Pl.of (by kernel_rfl) Try.underlying25 (by kernel_rfl)
theorem Try.pl40 : Pl Try.prog 40 [(.string ⟨#[]⟩), (.slice none 0 0)] [(0, 1), (1, 1)] := Pl.of (by kernel_rfl) Try.underlying40 (by kernel_rfl)
theorem Try.pl51 : Pl Try.prog 51 [(.int .i8 0), (.int .i64 0), (.int .i64 0), (.float .f64 0)] [(0, 1), (1, 1), (2, 1), (3, 1)] := Pl.of (by kernel_rfl) Try.underlying51 (by kernel_rfl)
theorem Try.pl57 : Pl Try.prog 57 [(.float .f64 0), (.float .f64 0), (.float .f64 0), (.float .f64 0), (.float .f64 0)] [(0, 1), (1, 1), (2, 1), (3, 1), (4, 1)] := Pl.of (by kernel_rfl) Try.underlying57 (by kernel_rfl)
theorem Try.pl60 : Pl Try.prog 60 [(.int .i64 0), (.int .i8 0), (.float .f64 0), (.float .f64 0), (.float .f64 0), (.float .f64 0), (.float .f64 0), (.float .f64 0), (.float .f64 0), (.float .f64 0), (.float .f64 0), (.float .f64 0), (.int .u16 0), (.int .i64 0), (.float .f64 0)] [(0, 1), (1, 1), (2, 5), (7, 5), (12, 1), (13, 1), (14, 1)] := Pl.of (by kernel_rfl) Try.underlying60 (by kernel_rfl)
theorem Try.pl87 : Pl Try.prog 87 [(.float .f64 0), (.slice none 0 0), (.int .i64 0), (.map none)] [(0, 1), (1, 1), (2, 1), (3, 1)] := Pl.of (by kernel_rfl) Try.underlying87 (by kernel_rfl)
theorem Try.pl90 : Pl Try.prog 90 [(.int .i64 0), (.string ⟨#[]⟩), (.slice none 0 0)] [(0, 1), (1, 2)] := Pl.of (by kernel_rfl) Try.underlying90 (by kernel_rfl)
theorem Try.pl98 : Pl Try.prog 98 [(.int .i64 0), (.int .i64 0)] [(0, 1), (1, 1)] := Pl.of (by kernel_rfl) Try.underlying98 (by kernel_rfl)
theorem Try.fun8 : Fun Try.prog 8 := ⟨_, _, Try.func8, rfl, by kernel_rfl⟩
theorem Try.fun9 : Fun Try.prog 9 := ⟨_, _, Try.func9, rfl, by kernel_rfl⟩
theorem Try.fun11 : Fun Try.prog 11 := ⟨_, _, Try.func11, rfl, by kernel_rfl⟩
theorem Try.fun12 : Fun Try.prog 12 := ⟨_, _, Try.func12, rfl, by kernel_rfl⟩
theorem Try.fun13 : Fun Try.prog 13 := ⟨_, _, Try.func13, rfl, by kernel_rfl⟩
theorem Try.fun14 : Fun Try.prog 14 := ⟨_, _, Try.func14, rfl, by kernel_rfl⟩
theorem Try.fun15 : Fun Try.prog 15 := ⟨_, _, Try.func15, rfl, by kernel_rfl⟩
theorem Try.fun17 : Fun Try.prog 17 := ⟨_, _, Try.func17, rfl, by kernel_rfl⟩
theorem Try.fun18 : Fun Try.prog 18 := ⟨_, _, Try.func18, rfl, by kernel_rfl⟩
theorem Try.fun19 : Fun Try.prog 19 := ⟨_, _, Try.func19, rfl, by kernel_rfl⟩
theorem Try.fun20 : Fun Try.prog 20 := ⟨_, _, Try.func20, rfl, by kernel_rfl⟩
theorem Try.fun21 : Fun Try.prog 21 := ⟨_, _, Try.func21, rfl, by kernel_rfl⟩
theorem Try.fun22 : Fun Try.prog 22 := ⟨_, _, Try.func22, rfl, by kernel_rfl⟩
theorem Try.fun27 : Fun Try.prog 27 := ⟨_, _, Try.func27, rfl, by kernel_rfl⟩
theorem Try.fun29 : Fun Try.prog 29 := ⟨_, _, Try.func29, rfl, by kernel_rfl⟩
theorem Try.ext32 : Ext Try.prog 32 Extern.MathFloatBits.float64bits := ⟨_, Try.func32, by kernel_rfl, by kernel_rfl, by kernel_rfl, by kernel_rfl⟩
theorem Try.fun33 : Fun Try.prog 33 := ⟨_, _, Try.func33, rfl, by kernel_rfl⟩
theorem Try.fun34 : Fun Try.prog 34 := ⟨_, _, Try.func34, rfl, by kernel_rfl⟩
theorem Try.fun35 : Fun Try.prog 35 := ⟨_, _, Try.func35, rfl, by kernel_rfl⟩
theorem Try.fun36 : Fun Try.prog 36 := ⟨_, _, Try.func36, rfl, by kernel_rfl⟩
theorem Try.fun37 : Fun Try.prog 37 := ⟨_, _, Try.func37, rfl, by kernel_rfl⟩
theorem Try.fun38 : Fun Try.prog 38 := ⟨_, _, Try.func38, rfl, by kernel_rfl⟩
theorem Try.fun39 : Fun Try.prog 39 := ⟨_, _, Try.func39, rfl, by kernel_rfl⟩
theorem Try.fun40 : Fun Try.prog 40 := ⟨_, _, Try.func40, rfl, by kernel_rfl⟩
theorem Try.fun46 : Fun Try.prog 46 := ⟨_, _, Try.func46, rfl, by kernel_rfl⟩
theorem Try.fun49 : Fun Try.prog 49 := ⟨_, _, Try.func49, rfl, by kernel_rfl⟩
end Go.Proofs.Ytoiobncojfeoiaa
