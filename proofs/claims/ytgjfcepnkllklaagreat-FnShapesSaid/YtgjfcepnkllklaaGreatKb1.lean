/-
  Contracts, part 1.
-/
import Derived.Test.YtgjfcepnkllklaaGreatKa5
import Derived.Test.YtgjfcepnkllklaaGreatProg
set_option linter.unusedVariables false
set_option linter.unusedSimpArgs false
namespace Go.Proofs.YtgjfcepnkllklaaGreat
open Go Go.Vc Go.Proofs
theorem mo : Tryz.prog.follows .mixedOrders = true := by kernel_rfl
theorem sz2 : Sz Tryz.prog 2 1 := by unfold Sz; kernel_rfl
theorem pl2 : plainT Tryz.prog 2 = true := by kernel_rfl
theorem inf2 : Inf Tryz.prog 2 1 8 (.int .i64 0) := by unfold Inf; kernel_rfl
theorem zr2 : Zr Tryz.prog 2 (.int .i64 0) := by unfold Zr; kernel_rfl
theorem sz3 : Sz Tryz.prog 3 1 := by unfold Sz; kernel_rfl
theorem pl3 : plainT Tryz.prog 3 = true := by kernel_rfl
theorem sz5 : Sz Tryz.prog 5 1 := by unfold Sz; kernel_rfl
theorem pl5 : plainT Tryz.prog 5 = true := by kernel_rfl
theorem sz9 : Sz Tryz.prog 9 1 := by unfold Sz; kernel_rfl
theorem pl9 : plainT Tryz.prog 9 = true := by kernel_rfl
theorem inf9 : Inf Tryz.prog 9 1 16 (.string (ByteArray.mk #[])) := by unfold Inf; kernel_rfl
theorem sz22 : Sz Tryz.prog 22 1 := by unfold Sz; kernel_rfl
theorem pl22 : plainT Tryz.prog 22 = true := by kernel_rfl
theorem sz24 : Sz Tryz.prog 24 1 := by unfold Sz; kernel_rfl
theorem pl24 : plainT Tryz.prog 24 = true := by kernel_rfl
theorem sz26 : Sz Tryz.prog 26 2 := by unfold Sz; kernel_rfl
theorem ag26 : aggT Tryz.prog 26 = true := by kernel_rfl
theorem zr26 : Zr Tryz.prog 26 (.agg #[.int .i64 0, .slice none 0 0]) := by unfold Zr; kernel_rfl
theorem sz34 : Sz Tryz.prog 34 1 := by unfold Sz; kernel_rfl
theorem pl34 : plainT Tryz.prog 34 = true := by kernel_rfl
theorem inf34 : Inf Tryz.prog 34 1 24 (.slice none 0 0) := by unfold Inf; kernel_rfl
theorem sz51 : Sz Tryz.prog 51 3 := by unfold Sz; kernel_rfl
theorem ag51 : aggT Tryz.prog 51 = true := by kernel_rfl
theorem inf51 : Inf Tryz.prog 51 3 24 (.agg #[.int .i64 0, .int .i64 0, .int .i64 0]) := by unfold Inf; kernel_rfl
theorem zr51 : Zr Tryz.prog 51 (.agg #[.int .i64 0, .int .i64 0, .int .i64 0]) := by unfold Zr; kernel_rfl
theorem sz90 : Sz Tryz.prog 90 1 := by unfold Sz; kernel_rfl
theorem pl90 : plainT Tryz.prog 90 = true := by kernel_rfl
theorem zr132 : Zr Tryz.prog 132 (.agg #[.slice none 0 0, .int .i64 0, .int .u64 0]) := by unfold Zr; kernel_rfl
theorem sz149 : Sz Tryz.prog 149 4 := by unfold Sz; kernel_rfl
theorem ag149 : aggT Tryz.prog 149 = true := by kernel_rfl
theorem inf149 : Inf Tryz.prog 149 4 32 (.agg #[.int .i64 0, .int .i64 0, .int .i64 0, .int .i64 0]) := by unfold Inf; kernel_rfl
theorem zr149 : Zr Tryz.prog 149 (.agg #[.int .i64 0, .int .i64 0, .int .i64 0, .int .i64 0]) := by unfold Zr; kernel_rfl
theorem sz159 : Sz Tryz.prog 159 15 := by unfold Sz; kernel_rfl
theorem zr179 : Zr Tryz.prog 179 (.agg #[.int .i64 0, .int .i64 0, .int .i64 0, .int .i64 0, .int .i64 0, .int .i64 0, .int .i64 0, .int .i64 0, .int .i64 0, .int .i64 0, .int .i64 0, .int .i64 0, .int .i64 0, .int .i64 0, .int .i64 0]) := by unfold Zr; kernel_rfl
theorem zr206 : Zr Tryz.prog 206 (.agg (List.replicate 225 (.int .i64 0)).toArray) := by unfold Zr; kernel_rfl
theorem call7 : CallOk Tryz.prog 7 := ⟨Tryz.f7, _, Tryz.func7, rfl, by kernel_rfl⟩
theorem call8 : CallOk Tryz.prog 8 := ⟨Tryz.f8, _, Tryz.func8, rfl, by kernel_rfl⟩
theorem call9 : CallOk Tryz.prog 9 := ⟨Tryz.f9, _, Tryz.func9, rfl, by kernel_rfl⟩
theorem call10 : CallOk Tryz.prog 10 := ⟨Tryz.f10, _, Tryz.func10, rfl, by kernel_rfl⟩
theorem call11 : CallOk Tryz.prog 11 := ⟨Tryz.f11, _, Tryz.func11, rfl, by kernel_rfl⟩
theorem call12 : CallOk Tryz.prog 12 := ⟨Tryz.f12, _, Tryz.func12, rfl, by kernel_rfl⟩
theorem call13 : CallOk Tryz.prog 13 := ⟨Tryz.f13, _, Tryz.func13, rfl, by kernel_rfl⟩
theorem call14 : CallOk Tryz.prog 14 := ⟨Tryz.f14, _, Tryz.func14, rfl, by kernel_rfl⟩
theorem call15 : CallOk Tryz.prog 15 := ⟨Tryz.f15, _, Tryz.func15, rfl, by kernel_rfl⟩
theorem call16 : CallOk Tryz.prog 16 := ⟨Tryz.f16, _, Tryz.func16, rfl, by kernel_rfl⟩
theorem call17 : CallOk Tryz.prog 17 := ⟨Tryz.f17, _, Tryz.func17, rfl, by kernel_rfl⟩
theorem call18 : CallOk Tryz.prog 18 := ⟨Tryz.f18, _, Tryz.func18, rfl, by kernel_rfl⟩
theorem call19 : CallOk Tryz.prog 19 := ⟨Tryz.f19, _, Tryz.func19, rfl, by kernel_rfl⟩
theorem call20 : CallOk Tryz.prog 20 := ⟨Tryz.f20, _, Tryz.func20, rfl, by kernel_rfl⟩
theorem call21 : CallOk Tryz.prog 21 := ⟨Tryz.f21, _, Tryz.func21, rfl, by kernel_rfl⟩
theorem call22 : CallOk Tryz.prog 22 := ⟨Tryz.f22, _, Tryz.func22, rfl, by kernel_rfl⟩
theorem call23 : CallOk Tryz.prog 23 := ⟨Tryz.f23, _, Tryz.func23, rfl, by kernel_rfl⟩
theorem call24 : CallOk Tryz.prog 24 := ⟨Tryz.f24, _, Tryz.func24, rfl, by kernel_rfl⟩
theorem call25 : CallOk Tryz.prog 25 := ⟨Tryz.f25, _, Tryz.func25, rfl, by kernel_rfl⟩
theorem call26 : CallOk Tryz.prog 26 := ⟨Tryz.f26, _, Tryz.func26, rfl, by kernel_rfl⟩
theorem call27 : CallOk Tryz.prog 27 := ⟨Tryz.f27, _, Tryz.func27, rfl, by kernel_rfl⟩
theorem call75 : CallOk Tryz.prog 75 := ⟨Tryz.f75, _, Tryz.func75, rfl, by kernel_rfl⟩
theorem call76 : CallOk Tryz.prog 76 := ⟨Tryz.f76, _, Tryz.func76, rfl, by kernel_rfl⟩
theorem call77 : CallOk Tryz.prog 77 := ⟨Tryz.f77, _, Tryz.func77, rfl, by kernel_rfl⟩
theorem call78 : CallOk Tryz.prog 78 := ⟨Tryz.f78, _, Tryz.func78, rfl, by kernel_rfl⟩
theorem call79 : CallOk Tryz.prog 79 := ⟨Tryz.f79, _, Tryz.func79, rfl, by kernel_rfl⟩
theorem call80 : CallOk Tryz.prog 80 := ⟨Tryz.f80, _, Tryz.func80, rfl, by kernel_rfl⟩
theorem call81 : CallOk Tryz.prog 81 := ⟨Tryz.f81, _, Tryz.func81, rfl, by kernel_rfl⟩
theorem call82 : CallOk Tryz.prog 82 := ⟨Tryz.f82, _, Tryz.func82, rfl, by kernel_rfl⟩
theorem call83 : CallOk Tryz.prog 83 := ⟨Tryz.f83, _, Tryz.func83, rfl, by kernel_rfl⟩
theorem call84 : CallOk Tryz.prog 84 := ⟨Tryz.f84, _, Tryz.func84, rfl, by kernel_rfl⟩
theorem call85 : CallOk Tryz.prog 85 := ⟨Tryz.f85, _, Tryz.func85, rfl, by kernel_rfl⟩
theorem call86 : CallOk Tryz.prog 86 := ⟨Tryz.f86, _, Tryz.func86, rfl, by kernel_rfl⟩
theorem call87 : CallOk Tryz.prog 87 := ⟨Tryz.f87, _, Tryz.func87, rfl, by kernel_rfl⟩
theorem call88 : CallOk Tryz.prog 88 := ⟨Tryz.f88, _, Tryz.func88, rfl, by kernel_rfl⟩
theorem call89 : CallOk Tryz.prog 89 := ⟨Tryz.f89, _, Tryz.func89, rfl, by kernel_rfl⟩
theorem call90 : CallOk Tryz.prog 90 := ⟨Tryz.f90, _, Tryz.func90, rfl, by kernel_rfl⟩
theorem call91 : CallOk Tryz.prog 91 := ⟨Tryz.f91, _, Tryz.func91, rfl, by kernel_rfl⟩
theorem call92 : CallOk Tryz.prog 92 := ⟨Tryz.f92, _, Tryz.func92, rfl, by kernel_rfl⟩
theorem call93 : CallOk Tryz.prog 93 := ⟨Tryz.f93, _, Tryz.func93, rfl, by kernel_rfl⟩
theorem call94 : CallOk Tryz.prog 94 := ⟨Tryz.f94, _, Tryz.func94, rfl, by kernel_rfl⟩
theorem call108 : CallOk Tryz.prog 108 := ⟨Tryz.f108, _, Tryz.func108, rfl, by kernel_rfl⟩
theorem call110 : CallOk Tryz.prog 110 := ⟨Tryz.f110, _, Tryz.func110, rfl, by kernel_rfl⟩
theorem call114 : CallOk Tryz.prog 114 := ⟨Tryz.f114, _, Tryz.func114, rfl, by kernel_rfl⟩
theorem call125 : CallOk Tryz.prog 125 := ⟨Tryz.f125, _, Tryz.func125, rfl, by kernel_rfl⟩
theorem call126 : CallOk Tryz.prog 126 := ⟨Tryz.f126, _, Tryz.func126, rfl, by kernel_rfl⟩
theorem call145 : CallOk Tryz.prog 145 := ⟨Tryz.f145, _, Tryz.func145, rfl, by kernel_rfl⟩
theorem call160 : CallOk Tryz.prog 160 := ⟨Tryz.f160, _, Tryz.func160, rfl, by kernel_rfl⟩
theorem call162 : CallOk Tryz.prog 162 := ⟨Tryz.f162, _, Tryz.func162, rfl, by kernel_rfl⟩
theorem call163 : CallOk Tryz.prog 163 := ⟨Tryz.f163, _, Tryz.func163, rfl, by kernel_rfl⟩
theorem call164 : CallOk Tryz.prog 164 := ⟨Tryz.f164, _, Tryz.func164, rfl, by kernel_rfl⟩
theorem call165 : CallOk Tryz.prog 165 := ⟨Tryz.f165, _, Tryz.func165, rfl, by kernel_rfl⟩
theorem call166 : CallOk Tryz.prog 166 := ⟨Tryz.f166, _, Tryz.func166, rfl, by kernel_rfl⟩
theorem call167 : CallOk Tryz.prog 167 := ⟨Tryz.f167, _, Tryz.func167, rfl, by kernel_rfl⟩
theorem call168 : CallOk Tryz.prog 168 := ⟨Tryz.f168, _, Tryz.func168, rfl, by kernel_rfl⟩
theorem call169 : CallOk Tryz.prog 169 := ⟨Tryz.f169, _, Tryz.func169, rfl, by kernel_rfl⟩
theorem call170 : CallOk Tryz.prog 170 := ⟨Tryz.f170, _, Tryz.func170, rfl, by kernel_rfl⟩
theorem call171 : CallOk Tryz.prog 171 := ⟨Tryz.f171, _, Tryz.func171, rfl, by kernel_rfl⟩
theorem call172 : CallOk Tryz.prog 172 := ⟨Tryz.f172, _, Tryz.func172, rfl, by kernel_rfl⟩
theorem call173 : CallOk Tryz.prog 173 := ⟨Tryz.f173, _, Tryz.func173, rfl, by kernel_rfl⟩
theorem call174 : CallOk Tryz.prog 174 := ⟨Tryz.f174, _, Tryz.func174, rfl, by kernel_rfl⟩
theorem call175 : CallOk Tryz.prog 175 := ⟨Tryz.f175, _, Tryz.func175, rfl, by kernel_rfl⟩
theorem call176 : CallOk Tryz.prog 176 := ⟨Tryz.f176, _, Tryz.func176, rfl, by kernel_rfl⟩
theorem call177 : CallOk Tryz.prog 177 := ⟨Tryz.f177, _, Tryz.func177, rfl, by kernel_rfl⟩
theorem call178 : CallOk Tryz.prog 178 := ⟨Tryz.f178, _, Tryz.func178, rfl, by kernel_rfl⟩
theorem call179 : CallOk Tryz.prog 179 := ⟨Tryz.f179, _, Tryz.func179, rfl, by kernel_rfl⟩
theorem call180 : CallOk Tryz.prog 180 := ⟨Tryz.f180, _, Tryz.func180, rfl, by kernel_rfl⟩
theorem call181 : CallOk Tryz.prog 181 := ⟨Tryz.f181, _, Tryz.func181, rfl, by kernel_rfl⟩
theorem call182 : CallOk Tryz.prog 182 := ⟨Tryz.f182, _, Tryz.func182, rfl, by kernel_rfl⟩
theorem call183 : CallOk Tryz.prog 183 := ⟨Tryz.f183, _, Tryz.func183, rfl, by kernel_rfl⟩
theorem call184 : CallOk Tryz.prog 184 := ⟨Tryz.f184, _, Tryz.func184, rfl, by kernel_rfl⟩
theorem call185 : CallOk Tryz.prog 185 := ⟨Tryz.f185, _, Tryz.func185, rfl, by kernel_rfl⟩
theorem call186 : CallOk Tryz.prog 186 := ⟨Tryz.f186, _, Tryz.func186, rfl, by kernel_rfl⟩
theorem call187 : CallOk Tryz.prog 187 := ⟨Tryz.f187, _, Tryz.func187, rfl, by kernel_rfl⟩
theorem call188 : CallOk Tryz.prog 188 := ⟨Tryz.f188, _, Tryz.func188, rfl, by kernel_rfl⟩
theorem call192 : CallOk Tryz.prog 192 := ⟨Tryz.f192, _, Tryz.func192, rfl, by kernel_rfl⟩
theorem call195 : CallOk Tryz.prog 195 := ⟨Tryz.f195, _, Tryz.func195, rfl, by kernel_rfl⟩
theorem call197 : CallOk Tryz.prog 197 := ⟨Tryz.f197, _, Tryz.func197, rfl, by kernel_rfl⟩
theorem call199 : CallOk Tryz.prog 199 := ⟨Tryz.f199, _, Tryz.func199, rfl, by kernel_rfl⟩
theorem call205 : CallOk Tryz.prog 205 := ⟨Tryz.f205, _, Tryz.func205, rfl, by kernel_rfl⟩
theorem call206 : CallOk Tryz.prog 206 := ⟨Tryz.f206, _, Tryz.func206, rfl, by kernel_rfl⟩
theorem call213 : CallOk Tryz.prog 213 := ⟨Tryz.f213, _, Tryz.func213, rfl, by kernel_rfl⟩
theorem call215 : CallOk Tryz.prog 215 := ⟨Tryz.f215, _, Tryz.func215, rfl, by kernel_rfl⟩
theorem call219 : CallOk Tryz.prog 219 := ⟨Tryz.f219, _, Tryz.func219, rfl, by kernel_rfl⟩
theorem call220 : CallOk Tryz.prog 220 := ⟨Tryz.f220, _, Tryz.func220, rfl, by kernel_rfl⟩
theorem call221 : CallOk Tryz.prog 221 := ⟨Tryz.f221, _, Tryz.func221, rfl, by kernel_rfl⟩
theorem call222 : CallOk Tryz.prog 222 := ⟨Tryz.f222, _, Tryz.func222, rfl, by kernel_rfl⟩
theorem call223 : CallOk Tryz.prog 223 := ⟨Tryz.f223, _, Tryz.func223, rfl, by kernel_rfl⟩
theorem call224 : CallOk Tryz.prog 224 := ⟨Tryz.f224, _, Tryz.func224, rfl, by kernel_rfl⟩
theorem call226 : CallOk Tryz.prog 226 := ⟨Tryz.f226, _, Tryz.func226, rfl, by kernel_rfl⟩
theorem call227 : CallOk Tryz.prog 227 := ⟨Tryz.f227, _, Tryz.func227, rfl, by kernel_rfl⟩
theorem call228 : CallOk Tryz.prog 228 := ⟨Tryz.f228, _, Tryz.func228, rfl, by kernel_rfl⟩
theorem call239 : CallOk Tryz.prog 239 := ⟨Tryz.f239, _, Tryz.func239, rfl, by kernel_rfl⟩
theorem call240 : CallOk Tryz.prog 240 := ⟨Tryz.f240, _, Tryz.func240, rfl, by kernel_rfl⟩
theorem call245 : CallOk Tryz.prog 245 := ⟨Tryz.f245, _, Tryz.func245, rfl, by kernel_rfl⟩
end Go.Proofs.YtgjfcepnkllklaaGreat
