/-
  Contracts, part 1.
-/
import Derived.Test.YtphgcnegmkafiaaKa8
import Derived.Test.YtphgcnegmkafiaaProg
set_option linter.unusedVariables false
set_option linter.unusedSimpArgs false
namespace Go.Proofs.Ytphgcnegmkafiaa
open Go Go.Vc Go.Proofs
theorem mo : Try.prog.follows .mixedOrders = true := by kernel_rfl
theorem sz2 : Sz Try.prog 2 1 := by unfold Sz; kernel_rfl
theorem pl2 : plainT Try.prog 2 = true := by kernel_rfl
theorem inf2 : Inf Try.prog 2 1 8 (.int .i64 0) := by unfold Inf; kernel_rfl
theorem sz4 : Sz Try.prog 4 1 := by unfold Sz; kernel_rfl
theorem pl4 : plainT Try.prog 4 = true := by kernel_rfl
theorem inf4 : Inf Try.prog 4 1 1 (.bool false) := by unfold Inf; kernel_rfl
theorem sz22 : Sz Try.prog 22 1 := by unfold Sz; kernel_rfl
theorem pl22 : plainT Try.prog 22 = true := by kernel_rfl
theorem sz24 : Sz Try.prog 24 2 := by unfold Sz; kernel_rfl
theorem ag24 : aggT Try.prog 24 = true := by kernel_rfl
theorem sz28 : Sz Try.prog 28 1 := by unfold Sz; kernel_rfl
theorem pl28 : plainT Try.prog 28 = true := by kernel_rfl
theorem inf28 : Inf Try.prog 28 1 24 (.slice none 0 0) := by unfold Inf; kernel_rfl
theorem sz30 : Sz Try.prog 30 2 := by unfold Sz; kernel_rfl
theorem ag30 : aggT Try.prog 30 = true := by kernel_rfl
theorem inf30 : Inf Try.prog 30 2 32 (.agg #[.int .i64 0, .slice none 0 0]) := by unfold Inf; kernel_rfl
theorem zr30 : Zr Try.prog 30 (.agg #[.int .i64 0, .slice none 0 0]) := by unfold Zr; kernel_rfl
theorem sz34 : Sz Try.prog 34 1 := by unfold Sz; kernel_rfl
theorem pl34 : plainT Try.prog 34 = true := by kernel_rfl
theorem zr34 : Zr Try.prog 34 (.slice none 0 0) := by unfold Zr; kernel_rfl
theorem sz54 : Sz Try.prog 54 1 := by unfold Sz; kernel_rfl
theorem pl54 : plainT Try.prog 54 = true := by kernel_rfl
theorem inf54 : Inf Try.prog 54 1 24 (.slice none 0 0) := by unfold Inf; kernel_rfl
theorem zr56 : Zr Try.prog 56 (.agg #[.slice none 0 0, .slice none 0 0, .slice none 0 0, .int .i64 0, .int .i64 0, .slice none 0 0]) := by unfold Zr; kernel_rfl
theorem sz66 : Sz Try.prog 66 3 := by unfold Sz; kernel_rfl
theorem ag66 : aggT Try.prog 66 = true := by kernel_rfl
theorem sz67 : Sz Try.prog 67 3 := by unfold Sz; kernel_rfl
theorem ag67 : aggT Try.prog 67 = true := by kernel_rfl
theorem inf67 : Inf Try.prog 67 3 24 (.agg #[.int .i64 0, .int .i64 0, .int .i64 0]) := by unfold Inf; kernel_rfl
theorem zr67 : Zr Try.prog 67 (.agg #[.int .i64 0, .int .i64 0, .int .i64 0]) := by unfold Zr; kernel_rfl
theorem sz81 : Sz Try.prog 81 1 := by unfold Sz; kernel_rfl
theorem pl81 : plainT Try.prog 81 = true := by kernel_rfl
theorem sz94 : Sz Try.prog 94 1 := by unfold Sz; kernel_rfl
theorem pl94 : plainT Try.prog 94 = true := by kernel_rfl
theorem sz96 : Sz Try.prog 96 2 := by unfold Sz; kernel_rfl
theorem ag96 : aggT Try.prog 96 = true := by kernel_rfl
theorem inf96 : Inf Try.prog 96 2 16 (.agg #[.int .u64 0, .int .u64 0]) := by unfold Inf; kernel_rfl
theorem zr96 : Zr Try.prog 96 (.agg #[.int .u64 0, .int .u64 0]) := by unfold Zr; kernel_rfl
theorem sz103 : Sz Try.prog 103 1 := by unfold Sz; kernel_rfl
theorem pl103 : plainT Try.prog 103 = true := by kernel_rfl
theorem sz118 : Sz Try.prog 118 1 := by unfold Sz; kernel_rfl
theorem pl118 : plainT Try.prog 118 = true := by kernel_rfl
theorem zr120 : Zr Try.prog 120 (.agg #[.int .i64 0, .slice none 0 0, .int .i64 0, .int .i64 0, .bool false, .slice none 0 0]) := by unfold Zr; kernel_rfl
theorem sz133 : Sz Try.prog 133 1 := by unfold Sz; kernel_rfl
theorem pl133 : plainT Try.prog 133 = true := by kernel_rfl
theorem sz171 : Sz Try.prog 171 15 := by unfold Sz; kernel_rfl
theorem zr173 : Zr Try.prog 173 (.agg (List.replicate 225 (.int .i64 0)).toArray) := by unfold Zr; kernel_rfl
theorem call7 : CallOk Try.prog 7 := ⟨Try.f7, _, Try.func7, rfl, by kernel_rfl⟩
theorem call9 : CallOk Try.prog 9 := ⟨Try.f9, _, Try.func9, rfl, by kernel_rfl⟩
theorem call11 : CallOk Try.prog 11 := ⟨Try.f11, _, Try.func11, rfl, by kernel_rfl⟩
theorem call12 : CallOk Try.prog 12 := ⟨Try.f12, _, Try.func12, rfl, by kernel_rfl⟩
theorem call13 : CallOk Try.prog 13 := ⟨Try.f13, _, Try.func13, rfl, by kernel_rfl⟩
theorem call14 : CallOk Try.prog 14 := ⟨Try.f14, _, Try.func14, rfl, by kernel_rfl⟩
theorem call15 : CallOk Try.prog 15 := ⟨Try.f15, _, Try.func15, rfl, by kernel_rfl⟩
theorem call16 : CallOk Try.prog 16 := ⟨Try.f16, _, Try.func16, rfl, by kernel_rfl⟩
theorem call17 : CallOk Try.prog 17 := ⟨Try.f17, _, Try.func17, rfl, by kernel_rfl⟩
theorem call28 : CallOk Try.prog 28 := ⟨Try.f28, _, Try.func28, rfl, by kernel_rfl⟩
theorem call29 : CallOk Try.prog 29 := ⟨Try.f29, _, Try.func29, rfl, by kernel_rfl⟩
theorem call30 : CallOk Try.prog 30 := ⟨Try.f30, _, Try.func30, rfl, by kernel_rfl⟩
theorem call31 : CallOk Try.prog 31 := ⟨Try.f31, _, Try.func31, rfl, by kernel_rfl⟩
theorem call32 : CallOk Try.prog 32 := ⟨Try.f32, _, Try.func32, rfl, by kernel_rfl⟩
theorem call33 : CallOk Try.prog 33 := ⟨Try.f33, _, Try.func33, rfl, by kernel_rfl⟩
theorem call34 : CallOk Try.prog 34 := ⟨Try.f34, _, Try.func34, rfl, by kernel_rfl⟩
theorem call35 : CallOk Try.prog 35 := ⟨Try.f35, _, Try.func35, rfl, by kernel_rfl⟩
theorem call36 : CallOk Try.prog 36 := ⟨Try.f36, _, Try.func36, rfl, by kernel_rfl⟩
theorem call37 : CallOk Try.prog 37 := ⟨Try.f37, _, Try.func37, rfl, by kernel_rfl⟩
theorem call38 : CallOk Try.prog 38 := ⟨Try.f38, _, Try.func38, rfl, by kernel_rfl⟩
theorem call39 : CallOk Try.prog 39 := ⟨Try.f39, _, Try.func39, rfl, by kernel_rfl⟩
theorem call40 : CallOk Try.prog 40 := ⟨Try.f40, _, Try.func40, rfl, by kernel_rfl⟩
theorem call41 : CallOk Try.prog 41 := ⟨Try.f41, _, Try.func41, rfl, by kernel_rfl⟩
theorem call42 : CallOk Try.prog 42 := ⟨Try.f42, _, Try.func42, rfl, by kernel_rfl⟩
theorem call44 : CallOk Try.prog 44 := ⟨Try.f44, _, Try.func44, rfl, by kernel_rfl⟩
theorem call59 : CallOk Try.prog 59 := ⟨Try.f59, _, Try.func59, rfl, by kernel_rfl⟩
theorem call60 : CallOk Try.prog 60 := ⟨Try.f60, _, Try.func60, rfl, by kernel_rfl⟩
theorem call61 : CallOk Try.prog 61 := ⟨Try.f61, _, Try.func61, rfl, by kernel_rfl⟩
theorem call62 : CallOk Try.prog 62 := ⟨Try.f62, _, Try.func62, rfl, by kernel_rfl⟩
theorem call63 : CallOk Try.prog 63 := ⟨Try.f63, _, Try.func63, rfl, by kernel_rfl⟩
theorem call64 : CallOk Try.prog 64 := ⟨Try.f64, _, Try.func64, rfl, by kernel_rfl⟩
theorem call65 : CallOk Try.prog 65 := ⟨Try.f65, _, Try.func65, rfl, by kernel_rfl⟩
theorem call66 : CallOk Try.prog 66 := ⟨Try.f66, _, Try.func66, rfl, by kernel_rfl⟩
theorem call67 : CallOk Try.prog 67 := ⟨Try.f67, _, Try.func67, rfl, by kernel_rfl⟩
theorem call68 : CallOk Try.prog 68 := ⟨Try.f68, _, Try.func68, rfl, by kernel_rfl⟩
theorem call69 : CallOk Try.prog 69 := ⟨Try.f69, _, Try.func69, rfl, by kernel_rfl⟩
theorem call70 : CallOk Try.prog 70 := ⟨Try.f70, _, Try.func70, rfl, by kernel_rfl⟩
theorem call71 : CallOk Try.prog 71 := ⟨Try.f71, _, Try.func71, rfl, by kernel_rfl⟩
theorem call72 : CallOk Try.prog 72 := ⟨Try.f72, _, Try.func72, rfl, by kernel_rfl⟩
theorem call73 : CallOk Try.prog 73 := ⟨Try.f73, _, Try.func73, rfl, by kernel_rfl⟩
theorem call77 : CallOk Try.prog 77 := ⟨Try.f77, _, Try.func77, rfl, by kernel_rfl⟩
theorem call82 : CallOk Try.prog 82 := ⟨Try.f82, _, Try.func82, rfl, by kernel_rfl⟩
theorem call87 : CallOk Try.prog 87 := ⟨Try.f87, _, Try.func87, rfl, by kernel_rfl⟩
theorem call88 : CallOk Try.prog 88 := ⟨Try.f88, _, Try.func88, rfl, by kernel_rfl⟩
theorem call89 : CallOk Try.prog 89 := ⟨Try.f89, _, Try.func89, rfl, by kernel_rfl⟩
theorem call90 : CallOk Try.prog 90 := ⟨Try.f90, _, Try.func90, rfl, by kernel_rfl⟩
theorem call91 : CallOk Try.prog 91 := ⟨Try.f91, _, Try.func91, rfl, by kernel_rfl⟩
theorem call92 : CallOk Try.prog 92 := ⟨Try.f92, _, Try.func92, rfl, by kernel_rfl⟩
theorem call93 : CallOk Try.prog 93 := ⟨Try.f93, _, Try.func93, rfl, by kernel_rfl⟩
theorem call94 : CallOk Try.prog 94 := ⟨Try.f94, _, Try.func94, rfl, by kernel_rfl⟩
theorem call95 : CallOk Try.prog 95 := ⟨Try.f95, _, Try.func95, rfl, by kernel_rfl⟩
theorem call96 : CallOk Try.prog 96 := ⟨Try.f96, _, Try.func96, rfl, by kernel_rfl⟩
theorem call97 : CallOk Try.prog 97 := ⟨Try.f97, _, Try.func97, rfl, by kernel_rfl⟩
theorem call98 : CallOk Try.prog 98 := ⟨Try.f98, _, Try.func98, rfl, by kernel_rfl⟩
theorem call99 : CallOk Try.prog 99 := ⟨Try.f99, _, Try.func99, rfl, by kernel_rfl⟩
theorem call100 : CallOk Try.prog 100 := ⟨Try.f100, _, Try.func100, rfl, by kernel_rfl⟩
theorem call101 : CallOk Try.prog 101 := ⟨Try.f101, _, Try.func101, rfl, by kernel_rfl⟩
theorem call102 : CallOk Try.prog 102 := ⟨Try.f102, _, Try.func102, rfl, by kernel_rfl⟩
theorem call103 : CallOk Try.prog 103 := ⟨Try.f103, _, Try.func103, rfl, by kernel_rfl⟩
theorem call104 : CallOk Try.prog 104 := ⟨Try.f104, _, Try.func104, rfl, by kernel_rfl⟩
theorem call105 : CallOk Try.prog 105 := ⟨Try.f105, _, Try.func105, rfl, by kernel_rfl⟩
theorem call106 : CallOk Try.prog 106 := ⟨Try.f106, _, Try.func106, rfl, by kernel_rfl⟩
theorem call107 : CallOk Try.prog 107 := ⟨Try.f107, _, Try.func107, rfl, by kernel_rfl⟩
theorem call108 : CallOk Try.prog 108 := ⟨Try.f108, _, Try.func108, rfl, by kernel_rfl⟩
theorem call119 : CallOk Try.prog 119 := ⟨Try.f119, _, Try.func119, rfl, by kernel_rfl⟩
theorem call120 : CallOk Try.prog 120 := ⟨Try.f120, _, Try.func120, rfl, by kernel_rfl⟩
theorem call121 : CallOk Try.prog 121 := ⟨Try.f121, _, Try.func121, rfl, by kernel_rfl⟩
theorem call122 : CallOk Try.prog 122 := ⟨Try.f122, _, Try.func122, rfl, by kernel_rfl⟩
theorem call125 : CallOk Try.prog 125 := ⟨Try.f125, _, Try.func125, rfl, by kernel_rfl⟩
theorem call126 : CallOk Try.prog 126 := ⟨Try.f126, _, Try.func126, rfl, by kernel_rfl⟩
theorem call127 : CallOk Try.prog 127 := ⟨Try.f127, _, Try.func127, rfl, by kernel_rfl⟩
theorem call134 : CallOk Try.prog 134 := ⟨Try.f134, _, Try.func134, rfl, by kernel_rfl⟩
theorem call135 : CallOk Try.prog 135 := ⟨Try.f135, _, Try.func135, rfl, by kernel_rfl⟩
end Go.Proofs.Ytphgcnegmkafiaa
