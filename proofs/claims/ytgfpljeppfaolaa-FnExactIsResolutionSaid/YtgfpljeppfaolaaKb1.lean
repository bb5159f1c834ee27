/-
  Contracts, part 1.
-/
import Derived.Test.YtgfpljeppfaolaaKa3
import Derived.Test.YtgfpljeppfaolaaProg
set_option linter.unusedVariables false
set_option linter.unusedSimpArgs false
namespace Go.Proofs.Ytgfpljeppfaolaa
open Go Go.Vc Go.Proofs
theorem mo : Try.prog.follows .mixedOrders = true := by kernel_rfl
theorem sz2 : Sz Try.prog 2 1 := by unfold Sz; kernel_rfl
theorem pl2 : plainT Try.prog 2 = true := by kernel_rfl
theorem inf2 : Inf Try.prog 2 1 8 (.int .i64 0) := by unfold Inf; kernel_rfl
theorem sz4 : Sz Try.prog 4 1 := by unfold Sz; kernel_rfl
theorem pl4 : plainT Try.prog 4 = true := by kernel_rfl
theorem inf4 : Inf Try.prog 4 1 1 (.bool false) := by unfold Inf; kernel_rfl
theorem sz22 : Sz Try.prog 22 1 := by unfold Sz; kernel_rfl
theorem pl22 : plainT Try.prog 22 = true := by kernel_rfl
theorem sz24 : Sz Try.prog 24 2 := by unfold Sz; kernel_rfl
theorem ag24 : aggT Try.prog 24 = true := by kernel_rfl
theorem sz30 : Sz Try.prog 30 1 := by unfold Sz; kernel_rfl
theorem pl30 : plainT Try.prog 30 = true := by kernel_rfl
theorem sz32 : Sz Try.prog 32 2 := by unfold Sz; kernel_rfl
theorem ag32 : aggT Try.prog 32 = true := by kernel_rfl
theorem zr32 : Zr Try.prog 32 (.agg #[.int .i64 0, .slice none 0 0]) := by unfold Zr; kernel_rfl
theorem sz40 : Sz Try.prog 40 1 := by unfold Sz; kernel_rfl
theorem pl40 : plainT Try.prog 40 = true := by kernel_rfl
theorem inf40 : Inf Try.prog 40 1 24 (.slice none 0 0) := by unfold Inf; kernel_rfl
theorem sz56 : Sz Try.prog 56 3 := by unfold Sz; kernel_rfl
theorem ag56 : aggT Try.prog 56 = true := by kernel_rfl
theorem sz57 : Sz Try.prog 57 3 := by unfold Sz; kernel_rfl
theorem ag57 : aggT Try.prog 57 = true := by kernel_rfl
theorem inf57 : Inf Try.prog 57 3 24 (.agg #[.int .i64 0, .int .i64 0, .int .i64 0]) := by unfold Inf; kernel_rfl
theorem zr57 : Zr Try.prog 57 (.agg #[.int .i64 0, .int .i64 0, .int .i64 0]) := by unfold Zr; kernel_rfl
theorem sz87 : Sz Try.prog 87 15 := by unfold Sz; kernel_rfl
theorem zr89 : Zr Try.prog 89 (.agg (List.replicate 225 (.int .i64 0)).toArray) := by unfold Zr; kernel_rfl
theorem call4 : CallOk Try.prog 4 := ⟨Try.f4, _, Try.func4, rfl, by kernel_rfl⟩
theorem call5 : CallOk Try.prog 5 := ⟨Try.f5, _, Try.func5, rfl, by kernel_rfl⟩
theorem call6 : CallOk Try.prog 6 := ⟨Try.f6, _, Try.func6, rfl, by kernel_rfl⟩
theorem call7 : CallOk Try.prog 7 := ⟨Try.f7, _, Try.func7, rfl, by kernel_rfl⟩
theorem call8 : CallOk Try.prog 8 := ⟨Try.f8, _, Try.func8, rfl, by kernel_rfl⟩
theorem call9 : CallOk Try.prog 9 := ⟨Try.f9, _, Try.func9, rfl, by kernel_rfl⟩
theorem call10 : CallOk Try.prog 10 := ⟨Try.f10, _, Try.func10, rfl, by kernel_rfl⟩
theorem call11 : CallOk Try.prog 11 := ⟨Try.f11, _, Try.func11, rfl, by kernel_rfl⟩
theorem call12 : CallOk Try.prog 12 := ⟨Try.f12, _, Try.func12, rfl, by kernel_rfl⟩
theorem call13 : CallOk Try.prog 13 := ⟨Try.f13, _, Try.func13, rfl, by kernel_rfl⟩
theorem call14 : CallOk Try.prog 14 := ⟨Try.f14, _, Try.func14, rfl, by kernel_rfl⟩
theorem call15 : CallOk Try.prog 15 := ⟨Try.f15, _, Try.func15, rfl, by kernel_rfl⟩
theorem call16 : CallOk Try.prog 16 := ⟨Try.f16, _, Try.func16, rfl, by kernel_rfl⟩
theorem call17 : CallOk Try.prog 17 := ⟨Try.f17, _, Try.func17, rfl, by kernel_rfl⟩
theorem call18 : CallOk Try.prog 18 := ⟨Try.f18, _, Try.func18, rfl, by kernel_rfl⟩
theorem call19 : CallOk Try.prog 19 := ⟨Try.f19, _, Try.func19, rfl, by kernel_rfl⟩
theorem call20 : CallOk Try.prog 20 := ⟨Try.f20, _, Try.func20, rfl, by kernel_rfl⟩
theorem call21 : CallOk Try.prog 21 := ⟨Try.f21, _, Try.func21, rfl, by kernel_rfl⟩
theorem call22 : CallOk Try.prog 22 := ⟨Try.f22, _, Try.func22, rfl, by kernel_rfl⟩
theorem call23 : CallOk Try.prog 23 := ⟨Try.f23, _, Try.func23, rfl, by kernel_rfl⟩
theorem call24 : CallOk Try.prog 24 := ⟨Try.f24, _, Try.func24, rfl, by kernel_rfl⟩
theorem call25 : CallOk Try.prog 25 := ⟨Try.f25, _, Try.func25, rfl, by kernel_rfl⟩
theorem call26 : CallOk Try.prog 26 := ⟨Try.f26, _, Try.func26, rfl, by kernel_rfl⟩
theorem call27 : CallOk Try.prog 27 := ⟨Try.f27, _, Try.func27, rfl, by kernel_rfl⟩
theorem call28 : CallOk Try.prog 28 := ⟨Try.f28, _, Try.func28, rfl, by kernel_rfl⟩
theorem call29 : CallOk Try.prog 29 := ⟨Try.f29, _, Try.func29, rfl, by kernel_rfl⟩
theorem call30 : CallOk Try.prog 30 := ⟨Try.f30, _, Try.func30, rfl, by kernel_rfl⟩
theorem call31 : CallOk Try.prog 31 := ⟨Try.f31, _, Try.func31, rfl, by kernel_rfl⟩
theorem call32 : CallOk Try.prog 32 := ⟨Try.f32, _, Try.func32, rfl, by kernel_rfl⟩
theorem call33 : CallOk Try.prog 33 := ⟨Try.f33, _, Try.func33, rfl, by kernel_rfl⟩
theorem call34 : CallOk Try.prog 34 := ⟨Try.f34, _, Try.func34, rfl, by kernel_rfl⟩
theorem call35 : CallOk Try.prog 35 := ⟨Try.f35, _, Try.func35, rfl, by kernel_rfl⟩
theorem call36 : CallOk Try.prog 36 := ⟨Try.f36, _, Try.func36, rfl, by kernel_rfl⟩
theorem call37 : CallOk Try.prog 37 := ⟨Try.f37, _, Try.func37, rfl, by kernel_rfl⟩
theorem call38 : CallOk Try.prog 38 := ⟨Try.f38, _, Try.func38, rfl, by kernel_rfl⟩
theorem call39 : CallOk Try.prog 39 := ⟨Try.f39, _, Try.func39, rfl, by kernel_rfl⟩
theorem call40 : CallOk Try.prog 40 := ⟨Try.f40, _, Try.func40, rfl, by kernel_rfl⟩
theorem call41 : CallOk Try.prog 41 := ⟨Try.f41, _, Try.func41, rfl, by kernel_rfl⟩
theorem call42 : CallOk Try.prog 42 := ⟨Try.f42, _, Try.func42, rfl, by kernel_rfl⟩
theorem call43 : CallOk Try.prog 43 := ⟨Try.f43, _, Try.func43, rfl, by kernel_rfl⟩
theorem call44 : CallOk Try.prog 44 := ⟨Try.f44, _, Try.func44, rfl, by kernel_rfl⟩
theorem call45 : CallOk Try.prog 45 := ⟨Try.f45, _, Try.func45, rfl, by kernel_rfl⟩
theorem call46 : CallOk Try.prog 46 := ⟨Try.f46, _, Try.func46, rfl, by kernel_rfl⟩
theorem call47 : CallOk Try.prog 47 := ⟨Try.f47, _, Try.func47, rfl, by kernel_rfl⟩
theorem call48 : CallOk Try.prog 48 := ⟨Try.f48, _, Try.func48, rfl, by kernel_rfl⟩
theorem call49 : CallOk Try.prog 49 := ⟨Try.f49, _, Try.func49, rfl, by kernel_rfl⟩
theorem call50 : CallOk Try.prog 50 := ⟨Try.f50, _, Try.func50, rfl, by kernel_rfl⟩
theorem call51 : CallOk Try.prog 51 := ⟨Try.f51, _, Try.func51, rfl, by kernel_rfl⟩
theorem call52 : CallOk Try.prog 52 := ⟨Try.f52, _, Try.func52, rfl, by kernel_rfl⟩
theorem call53 : CallOk Try.prog 53 := ⟨Try.f53, _, Try.func53, rfl, by kernel_rfl⟩
theorem call54 : CallOk Try.prog 54 := ⟨Try.f54, _, Try.func54, rfl, by kernel_rfl⟩
theorem call55 : CallOk Try.prog 55 := ⟨Try.f55, _, Try.func55, rfl, by kernel_rfl⟩
theorem call56 : CallOk Try.prog 56 := ⟨Try.f56, _, Try.func56, rfl, by kernel_rfl⟩
theorem call57 : CallOk Try.prog 57 := ⟨Try.f57, _, Try.func57, rfl, by kernel_rfl⟩
theorem call58 : CallOk Try.prog 58 := ⟨Try.f58, _, Try.func58, rfl, by kernel_rfl⟩
theorem call59 : CallOk Try.prog 59 := ⟨Try.f59, _, Try.func59, rfl, by kernel_rfl⟩
theorem call60 : CallOk Try.prog 60 := ⟨Try.f60, _, Try.func60, rfl, by kernel_rfl⟩
abbrev ut0 := @Try.underlying0
abbrev ut2 := @Try.underlying2
abbrev ut3 := @Try.underlying3
abbrev ut4 := @Try.underlying4
abbrev ut5 := @Try.underlying5
abbrev ut9 := @Try.underlying9
abbrev ut22 := @Try.underlying22
abbrev ut24 := @Try.underlying24
abbrev ut25 := @Try.underlying25
abbrev ut30 := @Try.underlying30
abbrev ut32 := @Try.underlying32
abbrev ut40 := @Try.underlying40
abbrev ut43 := @Try.underlying43
abbrev ut56 := @Try.underlying56
abbrev ut57 := @Try.underlying57
abbrev ut61 := @Try.underlying61
abbrev ut86 := @Try.underlying86
abbrev ut87 := @Try.underlying87
abbrev ut89 := @Try.underlying89
abbrev ut91 := @Try.underlying91
abbrev ut92 := @Try.underlying92
abbrev ut97 := @Try.underlying97
abbrev ut100 := @Try.underlying100
abbrev ut102 := @Try.underlying102
abbrev ut106 := @Try.underlying106
abbrev ut108 := @Try.underlying108
abbrev ut109 := @Try.underlying109
end Go.Proofs.Ytgfpljeppfaolaa
