/-
  Contracts, part 1.
-/
import Derived.Test.YtgjfcepnkllklaaKa4
import Derived.Test.YtgjfcepnkllklaaProg
set_option linter.unusedVariables false
set_option linter.unusedSimpArgs false
namespace Go.Proofs.Ytgjfcepnkllklaa
open Go Go.Vc Go.Proofs
theorem mo : Try.prog.follows .mixedOrders = true := by kernel_rfl
theorem sz2 : Sz Try.prog 2 1 := by unfold Sz; kernel_rfl
theorem pl2 : plainT Try.prog 2 = true := by kernel_rfl
theorem inf2 : Inf Try.prog 2 1 8 (.int .i64 0) := by unfold Inf; kernel_rfl
theorem sz3 : Sz Try.prog 3 1 := by unfold Sz; kernel_rfl
theorem pl3 : plainT Try.prog 3 = true := by kernel_rfl
theorem sz4 : Sz Try.prog 4 1 := by unfold Sz; kernel_rfl
theorem pl4 : plainT Try.prog 4 = true := by kernel_rfl
theorem inf4 : Inf Try.prog 4 1 1 (.bool false) := by unfold Inf; kernel_rfl
theorem sz5 : Sz Try.prog 5 1 := by unfold Sz; kernel_rfl
theorem pl5 : plainT Try.prog 5 = true := by kernel_rfl
theorem sz9 : Sz Try.prog 9 1 := by unfold Sz; kernel_rfl
theorem pl9 : plainT Try.prog 9 = true := by kernel_rfl
theorem inf9 : Inf Try.prog 9 1 16 (.string (ByteArray.mk #[])) := by unfold Inf; kernel_rfl
theorem sz22 : Sz Try.prog 22 1 := by unfold Sz; kernel_rfl
theorem pl22 : plainT Try.prog 22 = true := by kernel_rfl
theorem sz24 : Sz Try.prog 24 1 := by unfold Sz; kernel_rfl
theorem pl24 : plainT Try.prog 24 = true := by kernel_rfl
theorem inf24 : Inf Try.prog 24 1 24 (.slice none 0 0) := by unfold Inf; kernel_rfl
theorem sz26 : Sz Try.prog 26 2 := by unfold Sz; kernel_rfl
theorem ag26 : aggT Try.prog 26 = true := by kernel_rfl
theorem inf26 : Inf Try.prog 26 2 32 (.agg #[.int .i64 0, .slice none 0 0]) := by unfold Inf; kernel_rfl
theorem zr26 : Zr Try.prog 26 (.agg #[.int .i64 0, .slice none 0 0]) := by unfold Zr; kernel_rfl
theorem sz52 : Sz Try.prog 52 1 := by unfold Sz; kernel_rfl
theorem pl52 : plainT Try.prog 52 = true := by kernel_rfl
theorem zr52 : Zr Try.prog 52 (.slice none 0 0) := by unfold Zr; kernel_rfl
theorem sz56 : Sz Try.prog 56 3 := by unfold Sz; kernel_rfl
theorem ag56 : aggT Try.prog 56 = true := by kernel_rfl
theorem inf56 : Inf Try.prog 56 3 24 (.agg #[.int .i64 0, .int .i64 0, .int .i64 0]) := by unfold Inf; kernel_rfl
theorem zr56 : Zr Try.prog 56 (.agg #[.int .i64 0, .int .i64 0, .int .i64 0]) := by unfold Zr; kernel_rfl
theorem sz71 : Sz Try.prog 71 1 := by unfold Sz; kernel_rfl
theorem pl71 : plainT Try.prog 71 = true := by kernel_rfl
theorem zr73 : Zr Try.prog 73 (.agg #[.slice none 0 0, .int .i64 0, .int .u64 0]) := by unfold Zr; kernel_rfl
theorem sz76 : Sz Try.prog 76 1 := by unfold Sz; kernel_rfl
theorem pl76 : plainT Try.prog 76 = true := by kernel_rfl
theorem sz89 : Sz Try.prog 89 1 := by unfold Sz; kernel_rfl
theorem pl89 : plainT Try.prog 89 = true := by kernel_rfl
theorem sz93 : Sz Try.prog 93 1 := by unfold Sz; kernel_rfl
theorem pl93 : plainT Try.prog 93 = true := by kernel_rfl
theorem sz94 : Sz Try.prog 94 1 := by unfold Sz; kernel_rfl
theorem pl94 : plainT Try.prog 94 = true := by kernel_rfl
theorem zr96 : Zr Try.prog 96 (.agg #[.int .i64 0, .slice none 0 0, .int .i64 0, .int .i64 0, .bool false, .slice none 0 0]) := by unfold Zr; kernel_rfl
theorem sz117 : Sz Try.prog 117 15 := by unfold Sz; kernel_rfl
theorem zr122 : Zr Try.prog 122 (.agg (List.replicate 225 (.int .i64 0)).toArray) := by unfold Zr; kernel_rfl
theorem call4 : CallOk Try.prog 4 := ⟨Try.f4, _, Try.func4, rfl, by kernel_rfl⟩
theorem call5 : CallOk Try.prog 5 := ⟨Try.f5, _, Try.func5, rfl, by kernel_rfl⟩
theorem call6 : CallOk Try.prog 6 := ⟨Try.f6, _, Try.func6, rfl, by kernel_rfl⟩
theorem call7 : CallOk Try.prog 7 := ⟨Try.f7, _, Try.func7, rfl, by kernel_rfl⟩
theorem call8 : CallOk Try.prog 8 := ⟨Try.f8, _, Try.func8, rfl, by kernel_rfl⟩
theorem call9 : CallOk Try.prog 9 := ⟨Try.f9, _, Try.func9, rfl, by kernel_rfl⟩
theorem call10 : CallOk Try.prog 10 := ⟨Try.f10, _, Try.func10, rfl, by kernel_rfl⟩
theorem call11 : CallOk Try.prog 11 := ⟨Try.f11, _, Try.func11, rfl, by kernel_rfl⟩
theorem call12 : CallOk Try.prog 12 := ⟨Try.f12, _, Try.func12, rfl, by kernel_rfl⟩
theorem call13 : CallOk Try.prog 13 := ⟨Try.f13, _, Try.func13, rfl, by kernel_rfl⟩
theorem call14 : CallOk Try.prog 14 := ⟨Try.f14, _, Try.func14, rfl, by kernel_rfl⟩
theorem call15 : CallOk Try.prog 15 := ⟨Try.f15, _, Try.func15, rfl, by kernel_rfl⟩
theorem call16 : CallOk Try.prog 16 := ⟨Try.f16, _, Try.func16, rfl, by kernel_rfl⟩
theorem call17 : CallOk Try.prog 17 := ⟨Try.f17, _, Try.func17, rfl, by kernel_rfl⟩
theorem call18 : CallOk Try.prog 18 := ⟨Try.f18, _, Try.func18, rfl, by kernel_rfl⟩
theorem call19 : CallOk Try.prog 19 := ⟨Try.f19, _, Try.func19, rfl, by kernel_rfl⟩
theorem call20 : CallOk Try.prog 20 := ⟨Try.f20, _, Try.func20, rfl, by kernel_rfl⟩
theorem call21 : CallOk Try.prog 21 := ⟨Try.f21, _, Try.func21, rfl, by kernel_rfl⟩
theorem call22 : CallOk Try.prog 22 := ⟨Try.f22, _, Try.func22, rfl, by kernel_rfl⟩
theorem call23 : CallOk Try.prog 23 := ⟨Try.f23, _, Try.func23, rfl, by kernel_rfl⟩
theorem call24 : CallOk Try.prog 24 := ⟨Try.f24, _, Try.func24, rfl, by kernel_rfl⟩
theorem call25 : CallOk Try.prog 25 := ⟨Try.f25, _, Try.func25, rfl, by kernel_rfl⟩
theorem call26 : CallOk Try.prog 26 := ⟨Try.f26, _, Try.func26, rfl, by kernel_rfl⟩
theorem call27 : CallOk Try.prog 27 := ⟨Try.f27, _, Try.func27, rfl, by kernel_rfl⟩
theorem call28 : CallOk Try.prog 28 := ⟨Try.f28, _, Try.func28, rfl, by kernel_rfl⟩
theorem call29 : CallOk Try.prog 29 := ⟨Try.f29, _, Try.func29, rfl, by kernel_rfl⟩
theorem call30 : CallOk Try.prog 30 := ⟨Try.f30, _, Try.func30, rfl, by kernel_rfl⟩
theorem call31 : CallOk Try.prog 31 := ⟨Try.f31, _, Try.func31, rfl, by kernel_rfl⟩
theorem call32 : CallOk Try.prog 32 := ⟨Try.f32, _, Try.func32, rfl, by kernel_rfl⟩
theorem call33 : CallOk Try.prog 33 := ⟨Try.f33, _, Try.func33, rfl, by kernel_rfl⟩
theorem call34 : CallOk Try.prog 34 := ⟨Try.f34, _, Try.func34, rfl, by kernel_rfl⟩
theorem call35 : CallOk Try.prog 35 := ⟨Try.f35, _, Try.func35, rfl, by kernel_rfl⟩
theorem call36 : CallOk Try.prog 36 := ⟨Try.f36, _, Try.func36, rfl, by kernel_rfl⟩
theorem call37 : CallOk Try.prog 37 := ⟨Try.f37, _, Try.func37, rfl, by kernel_rfl⟩
theorem call38 : CallOk Try.prog 38 := ⟨Try.f38, _, Try.func38, rfl, by kernel_rfl⟩
theorem call39 : CallOk Try.prog 39 := ⟨Try.f39, _, Try.func39, rfl, by kernel_rfl⟩
theorem call40 : CallOk Try.prog 40 := ⟨Try.f40, _, Try.func40, rfl, by kernel_rfl⟩
theorem call41 : CallOk Try.prog 41 := ⟨Try.f41, _, Try.func41, rfl, by kernel_rfl⟩
theorem call42 : CallOk Try.prog 42 := ⟨Try.f42, _, Try.func42, rfl, by kernel_rfl⟩
theorem call43 : CallOk Try.prog 43 := ⟨Try.f43, _, Try.func43, rfl, by kernel_rfl⟩
theorem call44 : CallOk Try.prog 44 := ⟨Try.f44, _, Try.func44, rfl, by kernel_rfl⟩
theorem call45 : CallOk Try.prog 45 := ⟨Try.f45, _, Try.func45, rfl, by kernel_rfl⟩
theorem call46 : CallOk Try.prog 46 := ⟨Try.f46, _, Try.func46, rfl, by kernel_rfl⟩
theorem call47 : CallOk Try.prog 47 := ⟨Try.f47, _, Try.func47, rfl, by kernel_rfl⟩
theorem call48 : CallOk Try.prog 48 := ⟨Try.f48, _, Try.func48, rfl, by kernel_rfl⟩
theorem call49 : CallOk Try.prog 49 := ⟨Try.f49, _, Try.func49, rfl, by kernel_rfl⟩
theorem call50 : CallOk Try.prog 50 := ⟨Try.f50, _, Try.func50, rfl, by kernel_rfl⟩
theorem call51 : CallOk Try.prog 51 := ⟨Try.f51, _, Try.func51, rfl, by kernel_rfl⟩
theorem call52 : CallOk Try.prog 52 := ⟨Try.f52, _, Try.func52, rfl, by kernel_rfl⟩
theorem call53 : CallOk Try.prog 53 := ⟨Try.f53, _, Try.func53, rfl, by kernel_rfl⟩
theorem call54 : CallOk Try.prog 54 := ⟨Try.f54, _, Try.func54, rfl, by kernel_rfl⟩
theorem call55 : CallOk Try.prog 55 := ⟨Try.f55, _, Try.func55, rfl, by kernel_rfl⟩
theorem call56 : CallOk Try.prog 56 := ⟨Try.f56, _, Try.func56, rfl, by kernel_rfl⟩
theorem call57 : CallOk Try.prog 57 := ⟨Try.f57, _, Try.func57, rfl, by kernel_rfl⟩
theorem call58 : CallOk Try.prog 58 := ⟨Try.f58, _, Try.func58, rfl, by kernel_rfl⟩
theorem call59 : CallOk Try.prog 59 := ⟨Try.f59, _, Try.func59, rfl, by kernel_rfl⟩
theorem call60 : CallOk Try.prog 60 := ⟨Try.f60, _, Try.func60, rfl, by kernel_rfl⟩
theorem call61 : CallOk Try.prog 61 := ⟨Try.f61, _, Try.func61, rfl, by kernel_rfl⟩
theorem call62 : CallOk Try.prog 62 := ⟨Try.f62, _, Try.func62, rfl, by kernel_rfl⟩
theorem call63 : CallOk Try.prog 63 := ⟨Try.f63, _, Try.func63, rfl, by kernel_rfl⟩
theorem call64 : CallOk Try.prog 64 := ⟨Try.f64, _, Try.func64, rfl, by kernel_rfl⟩
theorem call65 : CallOk Try.prog 65 := ⟨Try.f65, _, Try.func65, rfl, by kernel_rfl⟩
theorem call66 : CallOk Try.prog 66 := ⟨Try.f66, _, Try.func66, rfl, by kernel_rfl⟩
theorem call67 : CallOk Try.prog 67 := ⟨Try.f67, _, Try.func67, rfl, by kernel_rfl⟩
theorem call68 : CallOk Try.prog 68 := ⟨Try.f68, _, Try.func68, rfl, by kernel_rfl⟩
theorem call69 : CallOk Try.prog 69 := ⟨Try.f69, _, Try.func69, rfl, by kernel_rfl⟩
theorem call70 : CallOk Try.prog 70 := ⟨Try.f70, _, Try.func70, rfl, by kernel_rfl⟩
theorem call71 : CallOk Try.prog 71 := ⟨Try.f71, _, Try.func71, rfl, by kernel_rfl⟩
theorem call72 : CallOk Try.prog 72 := ⟨Try.f72, _, Try.func72, rfl, by kernel_rfl⟩
theorem call73 : CallOk Try.prog 73 := ⟨Try.f73, _, Try.func73, rfl, by kernel_rfl⟩
theorem call74 : CallOk Try.prog 74 := ⟨Try.f74, _, Try.func74, rfl, by kernel_rfl⟩
theorem call75 : CallOk Try.prog 75 := ⟨Try.f75, _, Try.func75, rfl, by kernel_rfl⟩
theorem call76 : CallOk Try.prog 76 := ⟨Try.f76, _, Try.func76, rfl, by kernel_rfl⟩
theorem call77 : CallOk Try.prog 77 := ⟨Try.f77, _, Try.func77, rfl, by kernel_rfl⟩
theorem call78 : CallOk Try.prog 78 := ⟨Try.f78, _, Try.func78, rfl, by kernel_rfl⟩
theorem call79 : CallOk Try.prog 79 := ⟨Try.f79, _, Try.func79, rfl, by kernel_rfl⟩
theorem call80 : CallOk Try.prog 80 := ⟨Try.f80, _, Try.func80, rfl, by kernel_rfl⟩
theorem call81 : CallOk Try.prog 81 := ⟨Try.f81, _, Try.func81, rfl, by kernel_rfl⟩
theorem call82 : CallOk Try.prog 82 := ⟨Try.f82, _, Try.func82, rfl, by kernel_rfl⟩
theorem call83 : CallOk Try.prog 83 := ⟨Try.f83, _, Try.func83, rfl, by kernel_rfl⟩
theorem call84 : CallOk Try.prog 84 := ⟨Try.f84, _, Try.func84, rfl, by kernel_rfl⟩
theorem call85 : CallOk Try.prog 85 := ⟨Try.f85, _, Try.func85, rfl, by kernel_rfl⟩
theorem call86 : CallOk Try.prog 86 := ⟨Try.f86, _, Try.func86, rfl, by kernel_rfl⟩
theorem call87 : CallOk Try.prog 87 := ⟨Try.f87, _, Try.func87, rfl, by kernel_rfl⟩
theorem call88 : CallOk Try.prog 88 := ⟨Try.f88, _, Try.func88, rfl, by kernel_rfl⟩
theorem call89 : CallOk Try.prog 89 := ⟨Try.f89, _, Try.func89, rfl, by kernel_rfl⟩
theorem call90 : CallOk Try.prog 90 := ⟨Try.f90, _, Try.func90, rfl, by kernel_rfl⟩
theorem call91 : CallOk Try.prog 91 := ⟨Try.f91, _, Try.func91, rfl, by kernel_rfl⟩
theorem call92 : CallOk Try.prog 92 := ⟨Try.f92, _, Try.func92, rfl, by kernel_rfl⟩
theorem call93 : CallOk Try.prog 93 := ⟨Try.f93, _, Try.func93, rfl, by kernel_rfl⟩
theorem call94 : CallOk Try.prog 94 := ⟨Try.f94, _, Try.func94, rfl, by kernel_rfl⟩
end Go.Proofs.Ytgjfcepnkllklaa
