/-
  Contracts, part 1.
-/
import Derived.Test.YtgjfcepnkllklaaGreatKa5
import Derived.Test.YtgjfcepnkllklaaGreatProg
set_option linter.unusedVariables false
set_option linter.unusedSimpArgs false
namespace Go.Proofs.YtgjfcepnkllklaaGreat
open Go Go.Vc Go.Proofs
theorem mo : Tryz.prog.follows .mixedOrders = true := by kernel_rfl
theorem sz2 : Sz Tryz.prog 2 1 := by unfold Sz; kernel_rfl
theorem pl2 : plainT Tryz.prog 2 = true := by kernel_rfl
theorem inf2 : Inf Tryz.prog 2 1 8 (.int .i64 0) := by unfold Inf; kernel_rfl
theorem sz3 : Sz Tryz.prog 3 1 := by unfold Sz; kernel_rfl
theorem pl3 : plainT Tryz.prog 3 = true := by kernel_rfl
theorem sz4 : Sz Tryz.prog 4 1 := by unfold Sz; kernel_rfl
theorem pl4 : plainT Tryz.prog 4 = true := by kernel_rfl
theorem inf4 : Inf Tryz.prog 4 1 1 (.bool false) := by unfold Inf; kernel_rfl
theorem sz5 : Sz Tryz.prog 5 1 := by unfold Sz; kernel_rfl
theorem pl5 : plainT Tryz.prog 5 = true := by kernel_rfl
theorem sz9 : Sz Tryz.prog 9 1 := by unfold Sz; kernel_rfl
theorem pl9 : plainT Tryz.prog 9 = true := by kernel_rfl
theorem inf9 : Inf Tryz.prog 9 1 16 (.string (ByteArray.mk #[])) := by unfold Inf; kernel_rfl
theorem sz22 : Sz Tryz.prog 22 1 := by unfold Sz; kernel_rfl
theorem pl22 : plainT Tryz.prog 22 = true := by kernel_rfl
theorem sz24 : Sz Tryz.prog 24 1 := by unfold Sz; kernel_rfl
theorem pl24 : plainT Tryz.prog 24 = true := by kernel_rfl
theorem inf24 : Inf Tryz.prog 24 1 24 (.slice none 0 0) := by unfold Inf; kernel_rfl
theorem sz26 : Sz Tryz.prog 26 2 := by unfold Sz; kernel_rfl
theorem ag26 : aggT Tryz.prog 26 = true := by kernel_rfl
theorem inf26 : Inf Tryz.prog 26 2 32 (.agg #[.int .i64 0, .slice none 0 0]) := by unfold Inf; kernel_rfl
theorem zr26 : Zr Tryz.prog 26 (.agg #[.int .i64 0, .slice none 0 0]) := by unfold Zr; kernel_rfl
theorem sz34 : Sz Tryz.prog 34 1 := by unfold Sz; kernel_rfl
theorem pl34 : plainT Tryz.prog 34 = true := by kernel_rfl
theorem inf34 : Inf Tryz.prog 34 1 24 (.slice none 0 0) := by unfold Inf; kernel_rfl
theorem sz51 : Sz Tryz.prog 51 3 := by unfold Sz; kernel_rfl
theorem ag51 : aggT Tryz.prog 51 = true := by kernel_rfl
theorem inf51 : Inf Tryz.prog 51 3 24 (.agg #[.int .i64 0, .int .i64 0, .int .i64 0]) := by unfold Inf; kernel_rfl
theorem zr51 : Zr Tryz.prog 51 (.agg #[.int .i64 0, .int .i64 0, .int .i64 0]) := by unfold Zr; kernel_rfl
theorem sz76 : Sz Tryz.prog 76 1 := by unfold Sz; kernel_rfl
theorem pl76 : plainT Tryz.prog 76 = true := by kernel_rfl
theorem inf76 : Inf Tryz.prog 76 1 8 (.int .u64 0) := by unfold Inf; kernel_rfl
theorem zr76 : Zr Tryz.prog 76 (.int .u64 0) := by unfold Zr; kernel_rfl
theorem sz78 : Sz Tryz.prog 78 1 := by unfold Sz; kernel_rfl
theorem pl78 : plainT Tryz.prog 78 = true := by kernel_rfl
theorem sz90 : Sz Tryz.prog 90 1 := by unfold Sz; kernel_rfl
theorem pl90 : plainT Tryz.prog 90 = true := by kernel_rfl
theorem sz95 : Sz Tryz.prog 95 1 := by unfold Sz; kernel_rfl
theorem pl95 : plainT Tryz.prog 95 = true := by kernel_rfl
theorem zr95 : Zr Tryz.prog 95 (.slice none 0 0) := by unfold Zr; kernel_rfl
theorem sz99 : Sz Tryz.prog 99 1 := by unfold Sz; kernel_rfl
theorem pl99 : plainT Tryz.prog 99 = true := by kernel_rfl
theorem sz100 : Sz Tryz.prog 100 1 := by unfold Sz; kernel_rfl
theorem pl100 : plainT Tryz.prog 100 = true := by kernel_rfl
theorem zr102 : Zr Tryz.prog 102 (.agg #[.int .i64 0, .slice none 0 0, .int .i64 0, .int .i64 0, .bool false, .slice none 0 0]) := by unfold Zr; kernel_rfl
theorem sz112 : Sz Tryz.prog 112 1 := by unfold Sz; kernel_rfl
theorem pl112 : plainT Tryz.prog 112 = true := by kernel_rfl
theorem zr112 : Zr Tryz.prog 112 (.slice none 0 0) := by unfold Zr; kernel_rfl
theorem zr132 : Zr Tryz.prog 132 (.agg #[.slice none 0 0, .int .i64 0, .int .u64 0]) := by unfold Zr; kernel_rfl
theorem sz138 : Sz Tryz.prog 138 1 := by unfold Sz; kernel_rfl
theorem pl138 : plainT Tryz.prog 138 = true := by kernel_rfl
theorem sz159 : Sz Tryz.prog 159 15 := by unfold Sz; kernel_rfl
theorem zr206 : Zr Tryz.prog 206 (.agg (List.replicate 225 (.int .i64 0)).toArray) := by unfold Zr; kernel_rfl
theorem call7 : CallOk Tryz.prog 7 := ⟨Tryz.f7, _, Tryz.func7, rfl, by kernel_rfl⟩
theorem call27 : CallOk Tryz.prog 27 := ⟨Tryz.f27, _, Tryz.func27, rfl, by kernel_rfl⟩
theorem call40 : CallOk Tryz.prog 40 := ⟨Tryz.f40, _, Tryz.func40, rfl, by kernel_rfl⟩
theorem call41 : CallOk Tryz.prog 41 := ⟨Tryz.f41, _, Tryz.func41, rfl, by kernel_rfl⟩
theorem call42 : CallOk Tryz.prog 42 := ⟨Tryz.f42, _, Tryz.func42, rfl, by kernel_rfl⟩
theorem call43 : CallOk Tryz.prog 43 := ⟨Tryz.f43, _, Tryz.func43, rfl, by kernel_rfl⟩
theorem call44 : CallOk Tryz.prog 44 := ⟨Tryz.f44, _, Tryz.func44, rfl, by kernel_rfl⟩
theorem call45 : CallOk Tryz.prog 45 := ⟨Tryz.f45, _, Tryz.func45, rfl, by kernel_rfl⟩
theorem call46 : CallOk Tryz.prog 46 := ⟨Tryz.f46, _, Tryz.func46, rfl, by kernel_rfl⟩
theorem call47 : CallOk Tryz.prog 47 := ⟨Tryz.f47, _, Tryz.func47, rfl, by kernel_rfl⟩
theorem call48 : CallOk Tryz.prog 48 := ⟨Tryz.f48, _, Tryz.func48, rfl, by kernel_rfl⟩
theorem call49 : CallOk Tryz.prog 49 := ⟨Tryz.f49, _, Tryz.func49, rfl, by kernel_rfl⟩
theorem call50 : CallOk Tryz.prog 50 := ⟨Tryz.f50, _, Tryz.func50, rfl, by kernel_rfl⟩
theorem call51 : CallOk Tryz.prog 51 := ⟨Tryz.f51, _, Tryz.func51, rfl, by kernel_rfl⟩
theorem call52 : CallOk Tryz.prog 52 := ⟨Tryz.f52, _, Tryz.func52, rfl, by kernel_rfl⟩
theorem call53 : CallOk Tryz.prog 53 := ⟨Tryz.f53, _, Tryz.func53, rfl, by kernel_rfl⟩
theorem call54 : CallOk Tryz.prog 54 := ⟨Tryz.f54, _, Tryz.func54, rfl, by kernel_rfl⟩
theorem call75 : CallOk Tryz.prog 75 := ⟨Tryz.f75, _, Tryz.func75, rfl, by kernel_rfl⟩
theorem call76 : CallOk Tryz.prog 76 := ⟨Tryz.f76, _, Tryz.func76, rfl, by kernel_rfl⟩
theorem call77 : CallOk Tryz.prog 77 := ⟨Tryz.f77, _, Tryz.func77, rfl, by kernel_rfl⟩
theorem call79 : CallOk Tryz.prog 79 := ⟨Tryz.f79, _, Tryz.func79, rfl, by kernel_rfl⟩
theorem call88 : CallOk Tryz.prog 88 := ⟨Tryz.f88, _, Tryz.func88, rfl, by kernel_rfl⟩
theorem call89 : CallOk Tryz.prog 89 := ⟨Tryz.f89, _, Tryz.func89, rfl, by kernel_rfl⟩
theorem call90 : CallOk Tryz.prog 90 := ⟨Tryz.f90, _, Tryz.func90, rfl, by kernel_rfl⟩
theorem call92 : CallOk Tryz.prog 92 := ⟨Tryz.f92, _, Tryz.func92, rfl, by kernel_rfl⟩
theorem call93 : CallOk Tryz.prog 93 := ⟨Tryz.f93, _, Tryz.func93, rfl, by kernel_rfl⟩
theorem call94 : CallOk Tryz.prog 94 := ⟨Tryz.f94, _, Tryz.func94, rfl, by kernel_rfl⟩
theorem call96 : CallOk Tryz.prog 96 := ⟨Tryz.f96, _, Tryz.func96, rfl, by kernel_rfl⟩
theorem call99 : CallOk Tryz.prog 99 := ⟨Tryz.f99, _, Tryz.func99, rfl, by kernel_rfl⟩
theorem call110 : CallOk Tryz.prog 110 := ⟨Tryz.f110, _, Tryz.func110, rfl, by kernel_rfl⟩
theorem call114 : CallOk Tryz.prog 114 := ⟨Tryz.f114, _, Tryz.func114, rfl, by kernel_rfl⟩
theorem call115 : CallOk Tryz.prog 115 := ⟨Tryz.f115, _, Tryz.func115, rfl, by kernel_rfl⟩
theorem call116 : CallOk Tryz.prog 116 := ⟨Tryz.f116, _, Tryz.func116, rfl, by kernel_rfl⟩
theorem call119 : CallOk Tryz.prog 119 := ⟨Tryz.f119, _, Tryz.func119, rfl, by kernel_rfl⟩
theorem call120 : CallOk Tryz.prog 120 := ⟨Tryz.f120, _, Tryz.func120, rfl, by kernel_rfl⟩
theorem call121 : CallOk Tryz.prog 121 := ⟨Tryz.f121, _, Tryz.func121, rfl, by kernel_rfl⟩
theorem call122 : CallOk Tryz.prog 122 := ⟨Tryz.f122, _, Tryz.func122, rfl, by kernel_rfl⟩
theorem call123 : CallOk Tryz.prog 123 := ⟨Tryz.f123, _, Tryz.func123, rfl, by kernel_rfl⟩
theorem call124 : CallOk Tryz.prog 124 := ⟨Tryz.f124, _, Tryz.func124, rfl, by kernel_rfl⟩
theorem call125 : CallOk Tryz.prog 125 := ⟨Tryz.f125, _, Tryz.func125, rfl, by kernel_rfl⟩
theorem call126 : CallOk Tryz.prog 126 := ⟨Tryz.f126, _, Tryz.func126, rfl, by kernel_rfl⟩
theorem call127 : CallOk Tryz.prog 127 := ⟨Tryz.f127, _, Tryz.func127, rfl, by kernel_rfl⟩
theorem call128 : CallOk Tryz.prog 128 := ⟨Tryz.f128, _, Tryz.func128, rfl, by kernel_rfl⟩
theorem call129 : CallOk Tryz.prog 129 := ⟨Tryz.f129, _, Tryz.func129, rfl, by kernel_rfl⟩
theorem call130 : CallOk Tryz.prog 130 := ⟨Tryz.f130, _, Tryz.func130, rfl, by kernel_rfl⟩
theorem call131 : CallOk Tryz.prog 131 := ⟨Tryz.f131, _, Tryz.func131, rfl, by kernel_rfl⟩
theorem call132 : CallOk Tryz.prog 132 := ⟨Tryz.f132, _, Tryz.func132, rfl, by kernel_rfl⟩
theorem call133 : CallOk Tryz.prog 133 := ⟨Tryz.f133, _, Tryz.func133, rfl, by kernel_rfl⟩
theorem call134 : CallOk Tryz.prog 134 := ⟨Tryz.f134, _, Tryz.func134, rfl, by kernel_rfl⟩
theorem call135 : CallOk Tryz.prog 135 := ⟨Tryz.f135, _, Tryz.func135, rfl, by kernel_rfl⟩
theorem call136 : CallOk Tryz.prog 136 := ⟨Tryz.f136, _, Tryz.func136, rfl, by kernel_rfl⟩
theorem call145 : CallOk Tryz.prog 145 := ⟨Tryz.f145, _, Tryz.func145, rfl, by kernel_rfl⟩
theorem call150 : CallOk Tryz.prog 150 := ⟨Tryz.f150, _, Tryz.func150, rfl, by kernel_rfl⟩
theorem call160 : CallOk Tryz.prog 160 := ⟨Tryz.f160, _, Tryz.func160, rfl, by kernel_rfl⟩
theorem call162 : CallOk Tryz.prog 162 := ⟨Tryz.f162, _, Tryz.func162, rfl, by kernel_rfl⟩
theorem call165 : CallOk Tryz.prog 165 := ⟨Tryz.f165, _, Tryz.func165, rfl, by kernel_rfl⟩
theorem call166 : CallOk Tryz.prog 166 := ⟨Tryz.f166, _, Tryz.func166, rfl, by kernel_rfl⟩
theorem call167 : CallOk Tryz.prog 167 := ⟨Tryz.f167, _, Tryz.func167, rfl, by kernel_rfl⟩
theorem call170 : CallOk Tryz.prog 170 := ⟨Tryz.f170, _, Tryz.func170, rfl, by kernel_rfl⟩
theorem call177 : CallOk Tryz.prog 177 := ⟨Tryz.f177, _, Tryz.func177, rfl, by kernel_rfl⟩
theorem call184 : CallOk Tryz.prog 184 := ⟨Tryz.f184, _, Tryz.func184, rfl, by kernel_rfl⟩
theorem call185 : CallOk Tryz.prog 185 := ⟨Tryz.f185, _, Tryz.func185, rfl, by kernel_rfl⟩
theorem call186 : CallOk Tryz.prog 186 := ⟨Tryz.f186, _, Tryz.func186, rfl, by kernel_rfl⟩
theorem call187 : CallOk Tryz.prog 187 := ⟨Tryz.f187, _, Tryz.func187, rfl, by kernel_rfl⟩
theorem call188 : CallOk Tryz.prog 188 := ⟨Tryz.f188, _, Tryz.func188, rfl, by kernel_rfl⟩
theorem call189 : CallOk Tryz.prog 189 := ⟨Tryz.f189, _, Tryz.func189, rfl, by kernel_rfl⟩
theorem call192 : CallOk Tryz.prog 192 := ⟨Tryz.f192, _, Tryz.func192, rfl, by kernel_rfl⟩
theorem call195 : CallOk Tryz.prog 195 := ⟨Tryz.f195, _, Tryz.func195, rfl, by kernel_rfl⟩
theorem call199 : CallOk Tryz.prog 199 := ⟨Tryz.f199, _, Tryz.func199, rfl, by kernel_rfl⟩
theorem call200 : CallOk Tryz.prog 200 := ⟨Tryz.f200, _, Tryz.func200, rfl, by kernel_rfl⟩
theorem call201 : CallOk Tryz.prog 201 := ⟨Tryz.f201, _, Tryz.func201, rfl, by kernel_rfl⟩
theorem call202 : CallOk Tryz.prog 202 := ⟨Tryz.f202, _, Tryz.func202, rfl, by kernel_rfl⟩
theorem call203 : CallOk Tryz.prog 203 := ⟨Tryz.f203, _, Tryz.func203, rfl, by kernel_rfl⟩
theorem call204 : CallOk Tryz.prog 204 := ⟨Tryz.f204, _, Tryz.func204, rfl, by kernel_rfl⟩
theorem call205 : CallOk Tryz.prog 205 := ⟨Tryz.f205, _, Tryz.func205, rfl, by kernel_rfl⟩
theorem call206 : CallOk Tryz.prog 206 := ⟨Tryz.f206, _, Tryz.func206, rfl, by kernel_rfl⟩
theorem call207 : CallOk Tryz.prog 207 := ⟨Tryz.f207, _, Tryz.func207, rfl, by kernel_rfl⟩
theorem call208 : CallOk Tryz.prog 208 := ⟨Tryz.f208, _, Tryz.func208, rfl, by kernel_rfl⟩
theorem call210 : CallOk Tryz.prog 210 := ⟨Tryz.f210, _, Tryz.func210, rfl, by kernel_rfl⟩
theorem call211 : CallOk Tryz.prog 211 := ⟨Tryz.f211, _, Tryz.func211, rfl, by kernel_rfl⟩
theorem call212 : CallOk Tryz.prog 212 := ⟨Tryz.f212, _, Tryz.func212, rfl, by kernel_rfl⟩
theorem call213 : CallOk Tryz.prog 213 := ⟨Tryz.f213, _, Tryz.func213, rfl, by kernel_rfl⟩
theorem call214 : CallOk Tryz.prog 214 := ⟨Tryz.f214, _, Tryz.func214, rfl, by kernel_rfl⟩
theorem call215 : CallOk Tryz.prog 215 := ⟨Tryz.f215, _, Tryz.func215, rfl, by kernel_rfl⟩
theorem call219 : CallOk Tryz.prog 219 := ⟨Tryz.f219, _, Tryz.func219, rfl, by kernel_rfl⟩
theorem call220 : CallOk Tryz.prog 220 := ⟨Tryz.f220, _, Tryz.func220, rfl, by kernel_rfl⟩
theorem call223 : CallOk Tryz.prog 223 := ⟨Tryz.f223, _, Tryz.func223, rfl, by kernel_rfl⟩
theorem call226 : CallOk Tryz.prog 226 := ⟨Tryz.f226, _, Tryz.func226, rfl, by kernel_rfl⟩
theorem call227 : CallOk Tryz.prog 227 := ⟨Tryz.f227, _, Tryz.func227, rfl, by kernel_rfl⟩
theorem call228 : CallOk Tryz.prog 228 := ⟨Tryz.f228, _, Tryz.func228, rfl, by kernel_rfl⟩
theorem call239 : CallOk Tryz.prog 239 := ⟨Tryz.f239, _, Tryz.func239, rfl, by kernel_rfl⟩
theorem call240 : CallOk Tryz.prog 240 := ⟨Tryz.f240, _, Tryz.func240, rfl, by kernel_rfl⟩
theorem call241 : CallOk Tryz.prog 241 := ⟨Tryz.f241, _, Tryz.func241, rfl, by kernel_rfl⟩
theorem call242 : CallOk Tryz.prog 242 := ⟨Tryz.f242, _, Tryz.func242, rfl, by kernel_rfl⟩
theorem call243 : CallOk Tryz.prog 243 := ⟨Tryz.f243, _, Tryz.func243, rfl, by kernel_rfl⟩
theorem call244 : CallOk Tryz.prog 244 := ⟨Tryz.f244, _, Tryz.func244, rfl, by kernel_rfl⟩
theorem call260 : CallOk Tryz.prog 260 := ⟨Tryz.f260, _, Tryz.func260, rfl, by kernel_rfl⟩
theorem call261 : CallOk Tryz.prog 261 := ⟨Tryz.f261, _, Tryz.func261, rfl, by kernel_rfl⟩
end Go.Proofs.YtgjfcepnkllklaaGreat
