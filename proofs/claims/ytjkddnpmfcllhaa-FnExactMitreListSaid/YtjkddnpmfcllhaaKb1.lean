/-
  Contracts, part 1.
-/
import Derived.Test.YtjkddnpmfcllhaaKa6
import Derived.Test.YtjkddnpmfcllhaaProg
set_option linter.unusedVariables false
set_option linter.unusedSimpArgs false
namespace Go.Proofs.Ytjkddnpmfcllhaa
open Go Go.Vc Go.Proofs
theorem mo : Try.prog.follows .mixedOrders = true := by kernel_rfl
theorem sz2 : Sz Try.prog 2 1 := by unfold Sz; kernel_rfl
theorem pl2 : plainT Try.prog 2 = true := by kernel_rfl
theorem inf2 : Inf Try.prog 2 1 8 (.int .i64 0) := by unfold Inf; kernel_rfl
theorem sz22 : Sz Try.prog 22 1 := by unfold Sz; kernel_rfl
theorem pl22 : plainT Try.prog 22 = true := by kernel_rfl
theorem sz24 : Sz Try.prog 24 2 := by unfold Sz; kernel_rfl
theorem ag24 : aggT Try.prog 24 = true := by kernel_rfl
theorem sz28 : Sz Try.prog 28 1 := by unfold Sz; kernel_rfl
theorem pl28 : plainT Try.prog 28 = true := by kernel_rfl
theorem sz30 : Sz Try.prog 30 2 := by unfold Sz; kernel_rfl
theorem ag30 : aggT Try.prog 30 = true := by kernel_rfl
theorem zr30 : Zr Try.prog 30 (.agg #[.int .i64 0, .slice none 0 0]) := by unfold Zr; kernel_rfl
theorem sz52 : Sz Try.prog 52 1 := by unfold Sz; kernel_rfl
theorem pl52 : plainT Try.prog 52 = true := by kernel_rfl
theorem inf52 : Inf Try.prog 52 1 24 (.slice none 0 0) := by unfold Inf; kernel_rfl
theorem sz65 : Sz Try.prog 65 3 := by unfold Sz; kernel_rfl
theorem ag65 : aggT Try.prog 65 = true := by kernel_rfl
theorem sz66 : Sz Try.prog 66 3 := by unfold Sz; kernel_rfl
theorem ag66 : aggT Try.prog 66 = true := by kernel_rfl
theorem inf66 : Inf Try.prog 66 3 24 (.agg #[.int .i64 0, .int .i64 0, .int .i64 0]) := by unfold Inf; kernel_rfl
theorem zr66 : Zr Try.prog 66 (.agg #[.int .i64 0, .int .i64 0, .int .i64 0]) := by unfold Zr; kernel_rfl
theorem sz106 : Sz Try.prog 106 4 := by unfold Sz; kernel_rfl
theorem ag106 : aggT Try.prog 106 = true := by kernel_rfl
theorem inf106 : Inf Try.prog 106 4 32 (.agg #[.int .i64 0, .int .i64 0, .int .i64 0, .int .i64 0]) := by unfold Inf; kernel_rfl
theorem zr106 : Zr Try.prog 106 (.agg #[.int .i64 0, .int .i64 0, .int .i64 0, .int .i64 0]) := by unfold Zr; kernel_rfl
theorem sz146 : Sz Try.prog 146 15 := by unfold Sz; kernel_rfl
theorem zr148 : Zr Try.prog 148 (.agg (List.replicate 225 (.int .i64 0)).toArray) := by unfold Zr; kernel_rfl
theorem call6 : CallOk Try.prog 6 := ⟨Try.f6, _, Try.func6, rfl, by kernel_rfl⟩
theorem call8 : CallOk Try.prog 8 := ⟨Try.f8, _, Try.func8, rfl, by kernel_rfl⟩
theorem call10 : CallOk Try.prog 10 := ⟨Try.f10, _, Try.func10, rfl, by kernel_rfl⟩
theorem call11 : CallOk Try.prog 11 := ⟨Try.f11, _, Try.func11, rfl, by kernel_rfl⟩
theorem call12 : CallOk Try.prog 12 := ⟨Try.f12, _, Try.func12, rfl, by kernel_rfl⟩
theorem call13 : CallOk Try.prog 13 := ⟨Try.f13, _, Try.func13, rfl, by kernel_rfl⟩
theorem call14 : CallOk Try.prog 14 := ⟨Try.f14, _, Try.func14, rfl, by kernel_rfl⟩
theorem call15 : CallOk Try.prog 15 := ⟨Try.f15, _, Try.func15, rfl, by kernel_rfl⟩
theorem call16 : CallOk Try.prog 16 := ⟨Try.f16, _, Try.func16, rfl, by kernel_rfl⟩
theorem call22 : CallOk Try.prog 22 := ⟨Try.f22, _, Try.func22, rfl, by kernel_rfl⟩
theorem call23 : CallOk Try.prog 23 := ⟨Try.f23, _, Try.func23, rfl, by kernel_rfl⟩
theorem call24 : CallOk Try.prog 24 := ⟨Try.f24, _, Try.func24, rfl, by kernel_rfl⟩
theorem call25 : CallOk Try.prog 25 := ⟨Try.f25, _, Try.func25, rfl, by kernel_rfl⟩
theorem call26 : CallOk Try.prog 26 := ⟨Try.f26, _, Try.func26, rfl, by kernel_rfl⟩
theorem call27 : CallOk Try.prog 27 := ⟨Try.f27, _, Try.func27, rfl, by kernel_rfl⟩
theorem call28 : CallOk Try.prog 28 := ⟨Try.f28, _, Try.func28, rfl, by kernel_rfl⟩
theorem call29 : CallOk Try.prog 29 := ⟨Try.f29, _, Try.func29, rfl, by kernel_rfl⟩
theorem call30 : CallOk Try.prog 30 := ⟨Try.f30, _, Try.func30, rfl, by kernel_rfl⟩
theorem call31 : CallOk Try.prog 31 := ⟨Try.f31, _, Try.func31, rfl, by kernel_rfl⟩
theorem call32 : CallOk Try.prog 32 := ⟨Try.f32, _, Try.func32, rfl, by kernel_rfl⟩
theorem call40 : CallOk Try.prog 40 := ⟨Try.f40, _, Try.func40, rfl, by kernel_rfl⟩
theorem call42 : CallOk Try.prog 42 := ⟨Try.f42, _, Try.func42, rfl, by kernel_rfl⟩
theorem call43 : CallOk Try.prog 43 := ⟨Try.f43, _, Try.func43, rfl, by kernel_rfl⟩
theorem call44 : CallOk Try.prog 44 := ⟨Try.f44, _, Try.func44, rfl, by kernel_rfl⟩
theorem call45 : CallOk Try.prog 45 := ⟨Try.f45, _, Try.func45, rfl, by kernel_rfl⟩
theorem call46 : CallOk Try.prog 46 := ⟨Try.f46, _, Try.func46, rfl, by kernel_rfl⟩
theorem call47 : CallOk Try.prog 47 := ⟨Try.f47, _, Try.func47, rfl, by kernel_rfl⟩
theorem call48 : CallOk Try.prog 48 := ⟨Try.f48, _, Try.func48, rfl, by kernel_rfl⟩
theorem call49 : CallOk Try.prog 49 := ⟨Try.f49, _, Try.func49, rfl, by kernel_rfl⟩
theorem call50 : CallOk Try.prog 50 := ⟨Try.f50, _, Try.func50, rfl, by kernel_rfl⟩
theorem call51 : CallOk Try.prog 51 := ⟨Try.f51, _, Try.func51, rfl, by kernel_rfl⟩
theorem call52 : CallOk Try.prog 52 := ⟨Try.f52, _, Try.func52, rfl, by kernel_rfl⟩
theorem call53 : CallOk Try.prog 53 := ⟨Try.f53, _, Try.func53, rfl, by kernel_rfl⟩
theorem call54 : CallOk Try.prog 54 := ⟨Try.f54, _, Try.func54, rfl, by kernel_rfl⟩
theorem call63 : CallOk Try.prog 63 := ⟨Try.f63, _, Try.func63, rfl, by kernel_rfl⟩
theorem call64 : CallOk Try.prog 64 := ⟨Try.f64, _, Try.func64, rfl, by kernel_rfl⟩
theorem call65 : CallOk Try.prog 65 := ⟨Try.f65, _, Try.func65, rfl, by kernel_rfl⟩
theorem call66 : CallOk Try.prog 66 := ⟨Try.f66, _, Try.func66, rfl, by kernel_rfl⟩
theorem call67 : CallOk Try.prog 67 := ⟨Try.f67, _, Try.func67, rfl, by kernel_rfl⟩
theorem call68 : CallOk Try.prog 68 := ⟨Try.f68, _, Try.func68, rfl, by kernel_rfl⟩
theorem call69 : CallOk Try.prog 69 := ⟨Try.f69, _, Try.func69, rfl, by kernel_rfl⟩
theorem call70 : CallOk Try.prog 70 := ⟨Try.f70, _, Try.func70, rfl, by kernel_rfl⟩
theorem call71 : CallOk Try.prog 71 := ⟨Try.f71, _, Try.func71, rfl, by kernel_rfl⟩
theorem call72 : CallOk Try.prog 72 := ⟨Try.f72, _, Try.func72, rfl, by kernel_rfl⟩
theorem call73 : CallOk Try.prog 73 := ⟨Try.f73, _, Try.func73, rfl, by kernel_rfl⟩
theorem call74 : CallOk Try.prog 74 := ⟨Try.f74, _, Try.func74, rfl, by kernel_rfl⟩
theorem call75 : CallOk Try.prog 75 := ⟨Try.f75, _, Try.func75, rfl, by kernel_rfl⟩
theorem call76 : CallOk Try.prog 76 := ⟨Try.f76, _, Try.func76, rfl, by kernel_rfl⟩
theorem call77 : CallOk Try.prog 77 := ⟨Try.f77, _, Try.func77, rfl, by kernel_rfl⟩
theorem call78 : CallOk Try.prog 78 := ⟨Try.f78, _, Try.func78, rfl, by kernel_rfl⟩
theorem call79 : CallOk Try.prog 79 := ⟨Try.f79, _, Try.func79, rfl, by kernel_rfl⟩
theorem call80 : CallOk Try.prog 80 := ⟨Try.f80, _, Try.func80, rfl, by kernel_rfl⟩
theorem call81 : CallOk Try.prog 81 := ⟨Try.f81, _, Try.func81, rfl, by kernel_rfl⟩
theorem call82 : CallOk Try.prog 82 := ⟨Try.f82, _, Try.func82, rfl, by kernel_rfl⟩
theorem call83 : CallOk Try.prog 83 := ⟨Try.f83, _, Try.func83, rfl, by kernel_rfl⟩
theorem call100 : CallOk Try.prog 100 := ⟨Try.f100, _, Try.func100, rfl, by kernel_rfl⟩
theorem call101 : CallOk Try.prog 101 := ⟨Try.f101, _, Try.func101, rfl, by kernel_rfl⟩
theorem call102 : CallOk Try.prog 102 := ⟨Try.f102, _, Try.func102, rfl, by kernel_rfl⟩
theorem call103 : CallOk Try.prog 103 := ⟨Try.f103, _, Try.func103, rfl, by kernel_rfl⟩
theorem call104 : CallOk Try.prog 104 := ⟨Try.f104, _, Try.func104, rfl, by kernel_rfl⟩
theorem call105 : CallOk Try.prog 105 := ⟨Try.f105, _, Try.func105, rfl, by kernel_rfl⟩
end Go.Proofs.Ytjkddnpmfcllhaa
