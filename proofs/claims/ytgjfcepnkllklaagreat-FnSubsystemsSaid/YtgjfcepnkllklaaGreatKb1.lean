/-
  Contracts, part 1.
-/
import Derived.Test.YtgjfcepnkllklaaGreatKa4
import Derived.Test.YtgjfcepnkllklaaGreatProg
set_option linter.unusedVariables false
set_option linter.unusedSimpArgs false
namespace Go.Proofs.YtgjfcepnkllklaaGreat
open Go Go.Vc Go.Proofs
theorem mo : Tryz.prog.follows .mixedOrders = true := by kernel_rfl
theorem sz2 : Sz Tryz.prog 2 1 := by unfold Sz; kernel_rfl
theorem pl2 : plainT Tryz.prog 2 = true := by kernel_rfl
theorem inf2 : Inf Tryz.prog 2 1 8 (.int .i64 0) := by unfold Inf; kernel_rfl
theorem sz3 : Sz Tryz.prog 3 1 := by unfold Sz; kernel_rfl
theorem pl3 : plainT Tryz.prog 3 = true := by kernel_rfl
theorem sz5 : Sz Tryz.prog 5 1 := by unfold Sz; kernel_rfl
theorem pl5 : plainT Tryz.prog 5 = true := by kernel_rfl
theorem sz9 : Sz Tryz.prog 9 1 := by unfold Sz; kernel_rfl
theorem pl9 : plainT Tryz.prog 9 = true := by kernel_rfl
theorem inf9 : Inf Tryz.prog 9 1 16 (.string (ByteArray.mk #[])) := by unfold Inf; kernel_rfl
theorem sz22 : Sz Tryz.prog 22 1 := by unfold Sz; kernel_rfl
theorem pl22 : plainT Tryz.prog 22 = true := by kernel_rfl
theorem sz24 : Sz Tryz.prog 24 1 := by unfold Sz; kernel_rfl
theorem pl24 : plainT Tryz.prog 24 = true := by kernel_rfl
theorem sz26 : Sz Tryz.prog 26 2 := by unfold Sz; kernel_rfl
theorem ag26 : aggT Tryz.prog 26 = true := by kernel_rfl
theorem zr26 : Zr Tryz.prog 26 (.agg #[.int .i64 0, .slice none 0 0]) := by unfold Zr; kernel_rfl
theorem sz34 : Sz Tryz.prog 34 1 := by unfold Sz; kernel_rfl
theorem pl34 : plainT Tryz.prog 34 = true := by kernel_rfl
theorem inf34 : Inf Tryz.prog 34 1 24 (.slice none 0 0) := by unfold Inf; kernel_rfl
theorem sz51 : Sz Tryz.prog 51 3 := by unfold Sz; kernel_rfl
theorem ag51 : aggT Tryz.prog 51 = true := by kernel_rfl
theorem inf51 : Inf Tryz.prog 51 3 24 (.agg #[.int .i64 0, .int .i64 0, .int .i64 0]) := by unfold Inf; kernel_rfl
theorem zr51 : Zr Tryz.prog 51 (.agg #[.int .i64 0, .int .i64 0, .int .i64 0]) := by unfold Zr; kernel_rfl
theorem sz90 : Sz Tryz.prog 90 1 := by unfold Sz; kernel_rfl
theorem pl90 : plainT Tryz.prog 90 = true := by kernel_rfl
theorem zr132 : Zr Tryz.prog 132 (.agg #[.slice none 0 0, .int .i64 0, .int .u64 0]) := by unfold Zr; kernel_rfl
theorem sz159 : Sz Tryz.prog 159 15 := by unfold Sz; kernel_rfl
theorem zr206 : Zr Tryz.prog 206 (.agg (List.replicate 225 (.int .i64 0)).toArray) := by unfold Zr; kernel_rfl
theorem call7 : CallOk Tryz.prog 7 := ⟨Tryz.f7, _, Tryz.func7, rfl, by kernel_rfl⟩
theorem call13 : CallOk Tryz.prog 13 := ⟨Tryz.f13, _, Tryz.func13, rfl, by kernel_rfl⟩
theorem call27 : CallOk Tryz.prog 27 := ⟨Tryz.f27, _, Tryz.func27, rfl, by kernel_rfl⟩
theorem call28 : CallOk Tryz.prog 28 := ⟨Tryz.f28, _, Tryz.func28, rfl, by kernel_rfl⟩
theorem call29 : CallOk Tryz.prog 29 := ⟨Tryz.f29, _, Tryz.func29, rfl, by kernel_rfl⟩
theorem call30 : CallOk Tryz.prog 30 := ⟨Tryz.f30, _, Tryz.func30, rfl, by kernel_rfl⟩
theorem call31 : CallOk Tryz.prog 31 := ⟨Tryz.f31, _, Tryz.func31, rfl, by kernel_rfl⟩
theorem call32 : CallOk Tryz.prog 32 := ⟨Tryz.f32, _, Tryz.func32, rfl, by kernel_rfl⟩
theorem call33 : CallOk Tryz.prog 33 := ⟨Tryz.f33, _, Tryz.func33, rfl, by kernel_rfl⟩
theorem call34 : CallOk Tryz.prog 34 := ⟨Tryz.f34, _, Tryz.func34, rfl, by kernel_rfl⟩
theorem call35 : CallOk Tryz.prog 35 := ⟨Tryz.f35, _, Tryz.func35, rfl, by kernel_rfl⟩
theorem call36 : CallOk Tryz.prog 36 := ⟨Tryz.f36, _, Tryz.func36, rfl, by kernel_rfl⟩
theorem call37 : CallOk Tryz.prog 37 := ⟨Tryz.f37, _, Tryz.func37, rfl, by kernel_rfl⟩
theorem call38 : CallOk Tryz.prog 38 := ⟨Tryz.f38, _, Tryz.func38, rfl, by kernel_rfl⟩
theorem call39 : CallOk Tryz.prog 39 := ⟨Tryz.f39, _, Tryz.func39, rfl, by kernel_rfl⟩
theorem call75 : CallOk Tryz.prog 75 := ⟨Tryz.f75, _, Tryz.func75, rfl, by kernel_rfl⟩
theorem call76 : CallOk Tryz.prog 76 := ⟨Tryz.f76, _, Tryz.func76, rfl, by kernel_rfl⟩
theorem call77 : CallOk Tryz.prog 77 := ⟨Tryz.f77, _, Tryz.func77, rfl, by kernel_rfl⟩
theorem call79 : CallOk Tryz.prog 79 := ⟨Tryz.f79, _, Tryz.func79, rfl, by kernel_rfl⟩
theorem call88 : CallOk Tryz.prog 88 := ⟨Tryz.f88, _, Tryz.func88, rfl, by kernel_rfl⟩
theorem call89 : CallOk Tryz.prog 89 := ⟨Tryz.f89, _, Tryz.func89, rfl, by kernel_rfl⟩
theorem call90 : CallOk Tryz.prog 90 := ⟨Tryz.f90, _, Tryz.func90, rfl, by kernel_rfl⟩
theorem call91 : CallOk Tryz.prog 91 := ⟨Tryz.f91, _, Tryz.func91, rfl, by kernel_rfl⟩
theorem call92 : CallOk Tryz.prog 92 := ⟨Tryz.f92, _, Tryz.func92, rfl, by kernel_rfl⟩
theorem call93 : CallOk Tryz.prog 93 := ⟨Tryz.f93, _, Tryz.func93, rfl, by kernel_rfl⟩
theorem call94 : CallOk Tryz.prog 94 := ⟨Tryz.f94, _, Tryz.func94, rfl, by kernel_rfl⟩
theorem call95 : CallOk Tryz.prog 95 := ⟨Tryz.f95, _, Tryz.func95, rfl, by kernel_rfl⟩
theorem call96 : CallOk Tryz.prog 96 := ⟨Tryz.f96, _, Tryz.func96, rfl, by kernel_rfl⟩
theorem call97 : CallOk Tryz.prog 97 := ⟨Tryz.f97, _, Tryz.func97, rfl, by kernel_rfl⟩
theorem call98 : CallOk Tryz.prog 98 := ⟨Tryz.f98, _, Tryz.func98, rfl, by kernel_rfl⟩
theorem call99 : CallOk Tryz.prog 99 := ⟨Tryz.f99, _, Tryz.func99, rfl, by kernel_rfl⟩
theorem call100 : CallOk Tryz.prog 100 := ⟨Tryz.f100, _, Tryz.func100, rfl, by kernel_rfl⟩
theorem call101 : CallOk Tryz.prog 101 := ⟨Tryz.f101, _, Tryz.func101, rfl, by kernel_rfl⟩
theorem call102 : CallOk Tryz.prog 102 := ⟨Tryz.f102, _, Tryz.func102, rfl, by kernel_rfl⟩
theorem call103 : CallOk Tryz.prog 103 := ⟨Tryz.f103, _, Tryz.func103, rfl, by kernel_rfl⟩
theorem call104 : CallOk Tryz.prog 104 := ⟨Tryz.f104, _, Tryz.func104, rfl, by kernel_rfl⟩
theorem call105 : CallOk Tryz.prog 105 := ⟨Tryz.f105, _, Tryz.func105, rfl, by kernel_rfl⟩
theorem call106 : CallOk Tryz.prog 106 := ⟨Tryz.f106, _, Tryz.func106, rfl, by kernel_rfl⟩
theorem call107 : CallOk Tryz.prog 107 := ⟨Tryz.f107, _, Tryz.func107, rfl, by kernel_rfl⟩
theorem call108 : CallOk Tryz.prog 108 := ⟨Tryz.f108, _, Tryz.func108, rfl, by kernel_rfl⟩
theorem call109 : CallOk Tryz.prog 109 := ⟨Tryz.f109, _, Tryz.func109, rfl, by kernel_rfl⟩
theorem call110 : CallOk Tryz.prog 110 := ⟨Tryz.f110, _, Tryz.func110, rfl, by kernel_rfl⟩
theorem call111 : CallOk Tryz.prog 111 := ⟨Tryz.f111, _, Tryz.func111, rfl, by kernel_rfl⟩
theorem call112 : CallOk Tryz.prog 112 := ⟨Tryz.f112, _, Tryz.func112, rfl, by kernel_rfl⟩
theorem call113 : CallOk Tryz.prog 113 := ⟨Tryz.f113, _, Tryz.func113, rfl, by kernel_rfl⟩
theorem call114 : CallOk Tryz.prog 114 := ⟨Tryz.f114, _, Tryz.func114, rfl, by kernel_rfl⟩
theorem call115 : CallOk Tryz.prog 115 := ⟨Tryz.f115, _, Tryz.func115, rfl, by kernel_rfl⟩
theorem call116 : CallOk Tryz.prog 116 := ⟨Tryz.f116, _, Tryz.func116, rfl, by kernel_rfl⟩
theorem call117 : CallOk Tryz.prog 117 := ⟨Tryz.f117, _, Tryz.func117, rfl, by kernel_rfl⟩
theorem call118 : CallOk Tryz.prog 118 := ⟨Tryz.f118, _, Tryz.func118, rfl, by kernel_rfl⟩
theorem call125 : CallOk Tryz.prog 125 := ⟨Tryz.f125, _, Tryz.func125, rfl, by kernel_rfl⟩
theorem call126 : CallOk Tryz.prog 126 := ⟨Tryz.f126, _, Tryz.func126, rfl, by kernel_rfl⟩
theorem call128 : CallOk Tryz.prog 128 := ⟨Tryz.f128, _, Tryz.func128, rfl, by kernel_rfl⟩
theorem call145 : CallOk Tryz.prog 145 := ⟨Tryz.f145, _, Tryz.func145, rfl, by kernel_rfl⟩
theorem call160 : CallOk Tryz.prog 160 := ⟨Tryz.f160, _, Tryz.func160, rfl, by kernel_rfl⟩
theorem call162 : CallOk Tryz.prog 162 := ⟨Tryz.f162, _, Tryz.func162, rfl, by kernel_rfl⟩
theorem call165 : CallOk Tryz.prog 165 := ⟨Tryz.f165, _, Tryz.func165, rfl, by kernel_rfl⟩
theorem call166 : CallOk Tryz.prog 166 := ⟨Tryz.f166, _, Tryz.func166, rfl, by kernel_rfl⟩
theorem call167 : CallOk Tryz.prog 167 := ⟨Tryz.f167, _, Tryz.func167, rfl, by kernel_rfl⟩
theorem call170 : CallOk Tryz.prog 170 := ⟨Tryz.f170, _, Tryz.func170, rfl, by kernel_rfl⟩
theorem call184 : CallOk Tryz.prog 184 := ⟨Tryz.f184, _, Tryz.func184, rfl, by kernel_rfl⟩
theorem call185 : CallOk Tryz.prog 185 := ⟨Tryz.f185, _, Tryz.func185, rfl, by kernel_rfl⟩
theorem call186 : CallOk Tryz.prog 186 := ⟨Tryz.f186, _, Tryz.func186, rfl, by kernel_rfl⟩
theorem call187 : CallOk Tryz.prog 187 := ⟨Tryz.f187, _, Tryz.func187, rfl, by kernel_rfl⟩
theorem call188 : CallOk Tryz.prog 188 := ⟨Tryz.f188, _, Tryz.func188, rfl, by kernel_rfl⟩
theorem call189 : CallOk Tryz.prog 189 := ⟨Tryz.f189, _, Tryz.func189, rfl, by kernel_rfl⟩
theorem call190 : CallOk Tryz.prog 190 := ⟨Tryz.f190, _, Tryz.func190, rfl, by kernel_rfl⟩
theorem call191 : CallOk Tryz.prog 191 := ⟨Tryz.f191, _, Tryz.func191, rfl, by kernel_rfl⟩
theorem call192 : CallOk Tryz.prog 192 := ⟨Tryz.f192, _, Tryz.func192, rfl, by kernel_rfl⟩
theorem call195 : CallOk Tryz.prog 195 := ⟨Tryz.f195, _, Tryz.func195, rfl, by kernel_rfl⟩
theorem call196 : CallOk Tryz.prog 196 := ⟨Tryz.f196, _, Tryz.func196, rfl, by kernel_rfl⟩
theorem call197 : CallOk Tryz.prog 197 := ⟨Tryz.f197, _, Tryz.func197, rfl, by kernel_rfl⟩
theorem call198 : CallOk Tryz.prog 198 := ⟨Tryz.f198, _, Tryz.func198, rfl, by kernel_rfl⟩
theorem call199 : CallOk Tryz.prog 199 := ⟨Tryz.f199, _, Tryz.func199, rfl, by kernel_rfl⟩
theorem call205 : CallOk Tryz.prog 205 := ⟨Tryz.f205, _, Tryz.func205, rfl, by kernel_rfl⟩
theorem call206 : CallOk Tryz.prog 206 := ⟨Tryz.f206, _, Tryz.func206, rfl, by kernel_rfl⟩
theorem call210 : CallOk Tryz.prog 210 := ⟨Tryz.f210, _, Tryz.func210, rfl, by kernel_rfl⟩
theorem call213 : CallOk Tryz.prog 213 := ⟨Tryz.f213, _, Tryz.func213, rfl, by kernel_rfl⟩
theorem call215 : CallOk Tryz.prog 215 := ⟨Tryz.f215, _, Tryz.func215, rfl, by kernel_rfl⟩
theorem call219 : CallOk Tryz.prog 219 := ⟨Tryz.f219, _, Tryz.func219, rfl, by kernel_rfl⟩
theorem call220 : CallOk Tryz.prog 220 := ⟨Tryz.f220, _, Tryz.func220, rfl, by kernel_rfl⟩
theorem call223 : CallOk Tryz.prog 223 := ⟨Tryz.f223, _, Tryz.func223, rfl, by kernel_rfl⟩
theorem call226 : CallOk Tryz.prog 226 := ⟨Tryz.f226, _, Tryz.func226, rfl, by kernel_rfl⟩
theorem call227 : CallOk Tryz.prog 227 := ⟨Tryz.f227, _, Tryz.func227, rfl, by kernel_rfl⟩
theorem call228 : CallOk Tryz.prog 228 := ⟨Tryz.f228, _, Tryz.func228, rfl, by kernel_rfl⟩
theorem call239 : CallOk Tryz.prog 239 := ⟨Tryz.f239, _, Tryz.func239, rfl, by kernel_rfl⟩
theorem call240 : CallOk Tryz.prog 240 := ⟨Tryz.f240, _, Tryz.func240, rfl, by kernel_rfl⟩
end Go.Proofs.YtgjfcepnkllklaaGreat
