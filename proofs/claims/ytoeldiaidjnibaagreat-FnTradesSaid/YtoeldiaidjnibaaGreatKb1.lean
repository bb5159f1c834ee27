/-
  Contracts, part 1.
-/
import Derived.Test.YtoeldiaidjnibaaGreatKa8
import Derived.Test.YtoeldiaidjnibaaGreatProg
set_option linter.unusedVariables false
set_option linter.unusedSimpArgs false
namespace Go.Proofs.YtoeldiaidjnibaaGreat
open Go Go.Vc Go.Proofs
theorem mo : Tryz.prog.follows .mixedOrders = true := by kernel_rfl
theorem sz2 : Sz Tryz.prog 2 1 := by unfold Sz; kernel_rfl
theorem pl2 : plainT Tryz.prog 2 = true := by kernel_rfl
theorem inf2 : Inf Tryz.prog 2 1 8 (.int .i64 0) := by unfold Inf; kernel_rfl
theorem zr2 : Zr Tryz.prog 2 (.int .i64 0) := by unfold Zr; kernel_rfl
theorem sz3 : Sz Tryz.prog 3 1 := by unfold Sz; kernel_rfl
theorem pl3 : plainT Tryz.prog 3 = true := by kernel_rfl
theorem sz4 : Sz Tryz.prog 4 1 := by unfold Sz; kernel_rfl
theorem pl4 : plainT Tryz.prog 4 = true := by kernel_rfl
theorem inf4 : Inf Tryz.prog 4 1 1 (.bool false) := by unfold Inf; kernel_rfl
theorem sz5 : Sz Tryz.prog 5 1 := by unfold Sz; kernel_rfl
theorem pl5 : plainT Tryz.prog 5 = true := by kernel_rfl
theorem sz9 : Sz Tryz.prog 9 1 := by unfold Sz; kernel_rfl
theorem pl9 : plainT Tryz.prog 9 = true := by kernel_rfl
theorem inf9 : Inf Tryz.prog 9 1 16 (.string (ByteArray.mk #[])) := by unfold Inf; kernel_rfl
theorem sz22 : Sz Tryz.prog 22 1 := by unfold Sz; kernel_rfl
theorem pl22 : plainT Tryz.prog 22 = true := by kernel_rfl
theorem sz24 : Sz Tryz.prog 24 1 := by unfold Sz; kernel_rfl
theorem pl24 : plainT Tryz.prog 24 = true := by kernel_rfl
theorem sz26 : Sz Tryz.prog 26 2 := by unfold Sz; kernel_rfl
theorem ag26 : aggT Tryz.prog 26 = true := by kernel_rfl
theorem zr26 : Zr Tryz.prog 26 (.agg #[.int .i64 0, .slice none 0 0]) := by unfold Zr; kernel_rfl
theorem sz28 : Sz Tryz.prog 28 3 := by unfold Sz; kernel_rfl
theorem ag28 : aggT Tryz.prog 28 = true := by kernel_rfl
theorem inf28 : Inf Tryz.prog 28 3 56 (.agg #[.int .i64 0, .slice none 0 0, .slice none 0 0]) := by unfold Inf; kernel_rfl
theorem zr28 : Zr Tryz.prog 28 (.agg #[.int .i64 0, .slice none 0 0, .slice none 0 0]) := by unfold Zr; kernel_rfl
theorem sz69 : Sz Tryz.prog 69 3 := by unfold Sz; kernel_rfl
theorem ag69 : aggT Tryz.prog 69 = true := by kernel_rfl
theorem inf69 : Inf Tryz.prog 69 3 24 (.agg #[.int .i64 0, .int .i64 0, .int .i64 0]) := by unfold Inf; kernel_rfl
theorem zr69 : Zr Tryz.prog 69 (.agg #[.int .i64 0, .int .i64 0, .int .i64 0]) := by unfold Zr; kernel_rfl
theorem sz113 : Sz Tryz.prog 113 2 := by unfold Sz; kernel_rfl
theorem ag113 : aggT Tryz.prog 113 = true := by kernel_rfl
theorem inf113 : Inf Tryz.prog 113 2 16 (.agg #[.int .i64 0, .int .i64 0]) := by unfold Inf; kernel_rfl
theorem zr113 : Zr Tryz.prog 113 (.agg #[.int .i64 0, .int .i64 0]) := by unfold Zr; kernel_rfl
theorem sz116 : Sz Tryz.prog 116 1 := by unfold Sz; kernel_rfl
theorem pl116 : plainT Tryz.prog 116 = true := by kernel_rfl
theorem zr118 : Zr Tryz.prog 118 (.agg #[.slice none 0 0, .int .i64 0, .int .u64 0]) := by unfold Zr; kernel_rfl
theorem sz166 : Sz Tryz.prog 166 15 := by unfold Sz; kernel_rfl
theorem zr168 : Zr Tryz.prog 168 (.agg (List.replicate 225 (.int .i64 0)).toArray) := by unfold Zr; kernel_rfl
theorem call5 : CallOk Tryz.prog 5 := ⟨Tryz.f5, _, Tryz.func5, rfl, by kernel_rfl⟩
theorem call6 : CallOk Tryz.prog 6 := ⟨Tryz.f6, _, Tryz.func6, rfl, by kernel_rfl⟩
theorem call7 : CallOk Tryz.prog 7 := ⟨Tryz.f7, _, Tryz.func7, rfl, by kernel_rfl⟩
theorem call8 : CallOk Tryz.prog 8 := ⟨Tryz.f8, _, Tryz.func8, rfl, by kernel_rfl⟩
theorem call9 : CallOk Tryz.prog 9 := ⟨Tryz.f9, _, Tryz.func9, rfl, by kernel_rfl⟩
theorem call10 : CallOk Tryz.prog 10 := ⟨Tryz.f10, _, Tryz.func10, rfl, by kernel_rfl⟩
theorem call11 : CallOk Tryz.prog 11 := ⟨Tryz.f11, _, Tryz.func11, rfl, by kernel_rfl⟩
theorem call12 : CallOk Tryz.prog 12 := ⟨Tryz.f12, _, Tryz.func12, rfl, by kernel_rfl⟩
theorem call13 : CallOk Tryz.prog 13 := ⟨Tryz.f13, _, Tryz.func13, rfl, by kernel_rfl⟩
theorem call14 : CallOk Tryz.prog 14 := ⟨Tryz.f14, _, Tryz.func14, rfl, by kernel_rfl⟩
theorem call15 : CallOk Tryz.prog 15 := ⟨Tryz.f15, _, Tryz.func15, rfl, by kernel_rfl⟩
theorem call16 : CallOk Tryz.prog 16 := ⟨Tryz.f16, _, Tryz.func16, rfl, by kernel_rfl⟩
theorem call17 : CallOk Tryz.prog 17 := ⟨Tryz.f17, _, Tryz.func17, rfl, by kernel_rfl⟩
theorem call18 : CallOk Tryz.prog 18 := ⟨Tryz.f18, _, Tryz.func18, rfl, by kernel_rfl⟩
theorem call19 : CallOk Tryz.prog 19 := ⟨Tryz.f19, _, Tryz.func19, rfl, by kernel_rfl⟩
theorem call20 : CallOk Tryz.prog 20 := ⟨Tryz.f20, _, Tryz.func20, rfl, by kernel_rfl⟩
theorem call38 : CallOk Tryz.prog 38 := ⟨Tryz.f38, _, Tryz.func38, rfl, by kernel_rfl⟩
theorem call39 : CallOk Tryz.prog 39 := ⟨Tryz.f39, _, Tryz.func39, rfl, by kernel_rfl⟩
theorem call40 : CallOk Tryz.prog 40 := ⟨Tryz.f40, _, Tryz.func40, rfl, by kernel_rfl⟩
theorem call41 : CallOk Tryz.prog 41 := ⟨Tryz.f41, _, Tryz.func41, rfl, by kernel_rfl⟩
theorem call42 : CallOk Tryz.prog 42 := ⟨Tryz.f42, _, Tryz.func42, rfl, by kernel_rfl⟩
theorem call43 : CallOk Tryz.prog 43 := ⟨Tryz.f43, _, Tryz.func43, rfl, by kernel_rfl⟩
theorem call44 : CallOk Tryz.prog 44 := ⟨Tryz.f44, _, Tryz.func44, rfl, by kernel_rfl⟩
theorem call45 : CallOk Tryz.prog 45 := ⟨Tryz.f45, _, Tryz.func45, rfl, by kernel_rfl⟩
theorem call46 : CallOk Tryz.prog 46 := ⟨Tryz.f46, _, Tryz.func46, rfl, by kernel_rfl⟩
theorem call47 : CallOk Tryz.prog 47 := ⟨Tryz.f47, _, Tryz.func47, rfl, by kernel_rfl⟩
theorem call48 : CallOk Tryz.prog 48 := ⟨Tryz.f48, _, Tryz.func48, rfl, by kernel_rfl⟩
theorem call49 : CallOk Tryz.prog 49 := ⟨Tryz.f49, _, Tryz.func49, rfl, by kernel_rfl⟩
theorem call50 : CallOk Tryz.prog 50 := ⟨Tryz.f50, _, Tryz.func50, rfl, by kernel_rfl⟩
theorem call51 : CallOk Tryz.prog 51 := ⟨Tryz.f51, _, Tryz.func51, rfl, by kernel_rfl⟩
theorem call52 : CallOk Tryz.prog 52 := ⟨Tryz.f52, _, Tryz.func52, rfl, by kernel_rfl⟩
theorem call53 : CallOk Tryz.prog 53 := ⟨Tryz.f53, _, Tryz.func53, rfl, by kernel_rfl⟩
theorem call54 : CallOk Tryz.prog 54 := ⟨Tryz.f54, _, Tryz.func54, rfl, by kernel_rfl⟩
theorem call55 : CallOk Tryz.prog 55 := ⟨Tryz.f55, _, Tryz.func55, rfl, by kernel_rfl⟩
theorem call56 : CallOk Tryz.prog 56 := ⟨Tryz.f56, _, Tryz.func56, rfl, by kernel_rfl⟩
theorem call57 : CallOk Tryz.prog 57 := ⟨Tryz.f57, _, Tryz.func57, rfl, by kernel_rfl⟩
theorem call58 : CallOk Tryz.prog 58 := ⟨Tryz.f58, _, Tryz.func58, rfl, by kernel_rfl⟩
theorem call62 : CallOk Tryz.prog 62 := ⟨Tryz.f62, _, Tryz.func62, rfl, by kernel_rfl⟩
theorem call67 : CallOk Tryz.prog 67 := ⟨Tryz.f67, _, Tryz.func67, rfl, by kernel_rfl⟩
theorem call68 : CallOk Tryz.prog 68 := ⟨Tryz.f68, _, Tryz.func68, rfl, by kernel_rfl⟩
theorem call69 : CallOk Tryz.prog 69 := ⟨Tryz.f69, _, Tryz.func69, rfl, by kernel_rfl⟩
theorem call71 : CallOk Tryz.prog 71 := ⟨Tryz.f71, _, Tryz.func71, rfl, by kernel_rfl⟩
theorem call74 : CallOk Tryz.prog 74 := ⟨Tryz.f74, _, Tryz.func74, rfl, by kernel_rfl⟩
theorem call75 : CallOk Tryz.prog 75 := ⟨Tryz.f75, _, Tryz.func75, rfl, by kernel_rfl⟩
theorem call76 : CallOk Tryz.prog 76 := ⟨Tryz.f76, _, Tryz.func76, rfl, by kernel_rfl⟩
theorem call80 : CallOk Tryz.prog 80 := ⟨Tryz.f80, _, Tryz.func80, rfl, by kernel_rfl⟩
theorem call81 : CallOk Tryz.prog 81 := ⟨Tryz.f81, _, Tryz.func81, rfl, by kernel_rfl⟩
theorem call82 : CallOk Tryz.prog 82 := ⟨Tryz.f82, _, Tryz.func82, rfl, by kernel_rfl⟩
theorem call83 : CallOk Tryz.prog 83 := ⟨Tryz.f83, _, Tryz.func83, rfl, by kernel_rfl⟩
theorem call84 : CallOk Tryz.prog 84 := ⟨Tryz.f84, _, Tryz.func84, rfl, by kernel_rfl⟩
theorem call85 : CallOk Tryz.prog 85 := ⟨Tryz.f85, _, Tryz.func85, rfl, by kernel_rfl⟩
theorem call86 : CallOk Tryz.prog 86 := ⟨Tryz.f86, _, Tryz.func86, rfl, by kernel_rfl⟩
theorem call87 : CallOk Tryz.prog 87 := ⟨Tryz.f87, _, Tryz.func87, rfl, by kernel_rfl⟩
theorem call88 : CallOk Tryz.prog 88 := ⟨Tryz.f88, _, Tryz.func88, rfl, by kernel_rfl⟩
theorem call89 : CallOk Tryz.prog 89 := ⟨Tryz.f89, _, Tryz.func89, rfl, by kernel_rfl⟩
theorem call90 : CallOk Tryz.prog 90 := ⟨Tryz.f90, _, Tryz.func90, rfl, by kernel_rfl⟩
theorem call91 : CallOk Tryz.prog 91 := ⟨Tryz.f91, _, Tryz.func91, rfl, by kernel_rfl⟩
theorem call92 : CallOk Tryz.prog 92 := ⟨Tryz.f92, _, Tryz.func92, rfl, by kernel_rfl⟩
theorem call93 : CallOk Tryz.prog 93 := ⟨Tryz.f93, _, Tryz.func93, rfl, by kernel_rfl⟩
theorem call94 : CallOk Tryz.prog 94 := ⟨Tryz.f94, _, Tryz.func94, rfl, by kernel_rfl⟩
theorem call95 : CallOk Tryz.prog 95 := ⟨Tryz.f95, _, Tryz.func95, rfl, by kernel_rfl⟩
theorem call96 : CallOk Tryz.prog 96 := ⟨Tryz.f96, _, Tryz.func96, rfl, by kernel_rfl⟩
theorem call97 : CallOk Tryz.prog 97 := ⟨Tryz.f97, _, Tryz.func97, rfl, by kernel_rfl⟩
theorem call98 : CallOk Tryz.prog 98 := ⟨Tryz.f98, _, Tryz.func98, rfl, by kernel_rfl⟩
theorem call99 : CallOk Tryz.prog 99 := ⟨Tryz.f99, _, Tryz.func99, rfl, by kernel_rfl⟩
theorem call103 : CallOk Tryz.prog 103 := ⟨Tryz.f103, _, Tryz.func103, rfl, by kernel_rfl⟩
theorem call108 : CallOk Tryz.prog 108 := ⟨Tryz.f108, _, Tryz.func108, rfl, by kernel_rfl⟩
theorem call109 : CallOk Tryz.prog 109 := ⟨Tryz.f109, _, Tryz.func109, rfl, by kernel_rfl⟩
theorem call111 : CallOk Tryz.prog 111 := ⟨Tryz.f111, _, Tryz.func111, rfl, by kernel_rfl⟩
theorem call112 : CallOk Tryz.prog 112 := ⟨Tryz.f112, _, Tryz.func112, rfl, by kernel_rfl⟩
theorem call113 : CallOk Tryz.prog 113 := ⟨Tryz.f113, _, Tryz.func113, rfl, by kernel_rfl⟩
theorem call115 : CallOk Tryz.prog 115 := ⟨Tryz.f115, _, Tryz.func115, rfl, by kernel_rfl⟩
theorem call116 : CallOk Tryz.prog 116 := ⟨Tryz.f116, _, Tryz.func116, rfl, by kernel_rfl⟩
theorem call117 : CallOk Tryz.prog 117 := ⟨Tryz.f117, _, Tryz.func117, rfl, by kernel_rfl⟩
theorem call118 : CallOk Tryz.prog 118 := ⟨Tryz.f118, _, Tryz.func118, rfl, by kernel_rfl⟩
theorem call119 : CallOk Tryz.prog 119 := ⟨Tryz.f119, _, Tryz.func119, rfl, by kernel_rfl⟩
theorem call120 : CallOk Tryz.prog 120 := ⟨Tryz.f120, _, Tryz.func120, rfl, by kernel_rfl⟩
theorem call121 : CallOk Tryz.prog 121 := ⟨Tryz.f121, _, Tryz.func121, rfl, by kernel_rfl⟩
theorem call122 : CallOk Tryz.prog 122 := ⟨Tryz.f122, _, Tryz.func122, rfl, by kernel_rfl⟩
theorem call123 : CallOk Tryz.prog 123 := ⟨Tryz.f123, _, Tryz.func123, rfl, by kernel_rfl⟩
theorem call124 : CallOk Tryz.prog 124 := ⟨Tryz.f124, _, Tryz.func124, rfl, by kernel_rfl⟩
theorem call125 : CallOk Tryz.prog 125 := ⟨Tryz.f125, _, Tryz.func125, rfl, by kernel_rfl⟩
theorem call126 : CallOk Tryz.prog 126 := ⟨Tryz.f126, _, Tryz.func126, rfl, by kernel_rfl⟩
theorem call127 : CallOk Tryz.prog 127 := ⟨Tryz.f127, _, Tryz.func127, rfl, by kernel_rfl⟩
theorem call128 : CallOk Tryz.prog 128 := ⟨Tryz.f128, _, Tryz.func128, rfl, by kernel_rfl⟩
theorem call129 : CallOk Tryz.prog 129 := ⟨Tryz.f129, _, Tryz.func129, rfl, by kernel_rfl⟩
theorem call130 : CallOk Tryz.prog 130 := ⟨Tryz.f130, _, Tryz.func130, rfl, by kernel_rfl⟩
theorem call131 : CallOk Tryz.prog 131 := ⟨Tryz.f131, _, Tryz.func131, rfl, by kernel_rfl⟩
theorem call141 : CallOk Tryz.prog 141 := ⟨Tryz.f141, _, Tryz.func141, rfl, by kernel_rfl⟩
theorem call145 : CallOk Tryz.prog 145 := ⟨Tryz.f145, _, Tryz.func145, rfl, by kernel_rfl⟩
theorem call146 : CallOk Tryz.prog 146 := ⟨Tryz.f146, _, Tryz.func146, rfl, by kernel_rfl⟩
theorem call148 : CallOk Tryz.prog 148 := ⟨Tryz.f148, _, Tryz.func148, rfl, by kernel_rfl⟩
theorem call149 : CallOk Tryz.prog 149 := ⟨Tryz.f149, _, Tryz.func149, rfl, by kernel_rfl⟩
theorem call150 : CallOk Tryz.prog 150 := ⟨Tryz.f150, _, Tryz.func150, rfl, by kernel_rfl⟩
theorem call153 : CallOk Tryz.prog 153 := ⟨Tryz.f153, _, Tryz.func153, rfl, by kernel_rfl⟩
theorem call154 : CallOk Tryz.prog 154 := ⟨Tryz.f154, _, Tryz.func154, rfl, by kernel_rfl⟩
theorem call155 : CallOk Tryz.prog 155 := ⟨Tryz.f155, _, Tryz.func155, rfl, by kernel_rfl⟩
theorem call160 : CallOk Tryz.prog 160 := ⟨Tryz.f160, _, Tryz.func160, rfl, by kernel_rfl⟩
end Go.Proofs.YtoeldiaidjnibaaGreat
