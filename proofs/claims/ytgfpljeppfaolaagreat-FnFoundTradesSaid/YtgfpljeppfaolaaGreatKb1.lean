/-
  Contracts, part 1.
-/
import Derived.Test.YtgfpljeppfaolaaGreatKa8
import Derived.Test.YtgfpljeppfaolaaGreatProg
set_option linter.unusedVariables false
set_option linter.unusedSimpArgs false
namespace Go.Proofs.YtgfpljeppfaolaaGreat
open Go Go.Vc Go.Proofs
theorem mo : Tryz.prog.follows .mixedOrders = true := by kernel_rfl
theorem sz2 : Sz Tryz.prog 2 1 := by unfold Sz; kernel_rfl
theorem pl2 : plainT Tryz.prog 2 = true := by kernel_rfl
theorem inf2 : Inf Tryz.prog 2 1 8 (.int .i64 0) := by unfold Inf; kernel_rfl
theorem zr2 : Zr Tryz.prog 2 (.int .i64 0) := by unfold Zr; kernel_rfl
theorem sz3 : Sz Tryz.prog 3 1 := by unfold Sz; kernel_rfl
theorem pl3 : plainT Tryz.prog 3 = true := by kernel_rfl
theorem sz4 : Sz Tryz.prog 4 1 := by unfold Sz; kernel_rfl
theorem pl4 : plainT Tryz.prog 4 = true := by kernel_rfl
theorem inf4 : Inf Tryz.prog 4 1 1 (.bool false) := by unfold Inf; kernel_rfl
theorem sz5 : Sz Tryz.prog 5 1 := by unfold Sz; kernel_rfl
theorem pl5 : plainT Tryz.prog 5 = true := by kernel_rfl
theorem sz9 : Sz Tryz.prog 9 1 := by unfold Sz; kernel_rfl
theorem pl9 : plainT Tryz.prog 9 = true := by kernel_rfl
theorem inf9 : Inf Tryz.prog 9 1 16 (.string (ByteArray.mk #[])) := by unfold Inf; kernel_rfl
theorem sz22 : Sz Tryz.prog 22 1 := by unfold Sz; kernel_rfl
theorem pl22 : plainT Tryz.prog 22 = true := by kernel_rfl
theorem sz24 : Sz Tryz.prog 24 1 := by unfold Sz; kernel_rfl
theorem pl24 : plainT Tryz.prog 24 = true := by kernel_rfl
theorem sz26 : Sz Tryz.prog 26 2 := by unfold Sz; kernel_rfl
theorem ag26 : aggT Tryz.prog 26 = true := by kernel_rfl
theorem zr26 : Zr Tryz.prog 26 (.agg #[.int .i64 0, .slice none 0 0]) := by unfold Zr; kernel_rfl
theorem sz35 : Sz Tryz.prog 35 3 := by unfold Sz; kernel_rfl
theorem ag35 : aggT Tryz.prog 35 = true := by kernel_rfl
theorem inf35 : Inf Tryz.prog 35 3 56 (.agg #[.int .i64 0, .slice none 0 0, .slice none 0 0]) := by unfold Inf; kernel_rfl
theorem zr35 : Zr Tryz.prog 35 (.agg #[.int .i64 0, .slice none 0 0, .slice none 0 0]) := by unfold Zr; kernel_rfl
theorem sz49 : Sz Tryz.prog 49 1 := by unfold Sz; kernel_rfl
theorem pl49 : plainT Tryz.prog 49 = true := by kernel_rfl
theorem inf49 : Inf Tryz.prog 49 1 24 (.slice none 0 0) := by unfold Inf; kernel_rfl
theorem sz81 : Sz Tryz.prog 81 3 := by unfold Sz; kernel_rfl
theorem ag81 : aggT Tryz.prog 81 = true := by kernel_rfl
theorem inf81 : Inf Tryz.prog 81 3 24 (.agg #[.int .i64 0, .int .i64 0, .int .i64 0]) := by unfold Inf; kernel_rfl
theorem zr81 : Zr Tryz.prog 81 (.agg #[.int .i64 0, .int .i64 0, .int .i64 0]) := by unfold Zr; kernel_rfl
theorem sz89 : Sz Tryz.prog 89 15 := by unfold Sz; kernel_rfl
theorem sz119 : Sz Tryz.prog 119 1 := by unfold Sz; kernel_rfl
theorem pl119 : plainT Tryz.prog 119 = true := by kernel_rfl
theorem zr133 : Zr Tryz.prog 133 (.agg #[.slice none 0 0, .int .i64 0, .int .u64 0]) := by unfold Zr; kernel_rfl
theorem sz153 : Sz Tryz.prog 153 2 := by unfold Sz; kernel_rfl
theorem ag153 : aggT Tryz.prog 153 = true := by kernel_rfl
theorem inf153 : Inf Tryz.prog 153 2 16 (.agg #[.int .i64 0, .int .i64 0]) := by unfold Inf; kernel_rfl
theorem zr153 : Zr Tryz.prog 153 (.agg #[.int .i64 0, .int .i64 0]) := by unfold Zr; kernel_rfl
theorem zr193 : Zr Tryz.prog 193 (.agg #[.int .i64 0, .int .i64 0, .int .i64 0, .int .i64 0, .int .i64 0, .int .i64 0, .int .i64 0, .int .i64 0, .int .i64 0, .int .i64 0, .int .i64 0, .int .i64 0, .int .i64 0, .int .i64 0, .int .i64 0]) := by unfold Zr; kernel_rfl
theorem zr198 : Zr Tryz.prog 198 (.agg (List.replicate 225 (.int .i64 0)).toArray) := by unfold Zr; kernel_rfl
theorem call6 : CallOk Tryz.prog 6 := ⟨Tryz.f6, _, Tryz.func6, rfl, by kernel_rfl⟩
theorem call7 : CallOk Tryz.prog 7 := ⟨Tryz.f7, _, Tryz.func7, rfl, by kernel_rfl⟩
theorem call8 : CallOk Tryz.prog 8 := ⟨Tryz.f8, _, Tryz.func8, rfl, by kernel_rfl⟩
theorem call9 : CallOk Tryz.prog 9 := ⟨Tryz.f9, _, Tryz.func9, rfl, by kernel_rfl⟩
theorem call10 : CallOk Tryz.prog 10 := ⟨Tryz.f10, _, Tryz.func10, rfl, by kernel_rfl⟩
theorem call11 : CallOk Tryz.prog 11 := ⟨Tryz.f11, _, Tryz.func11, rfl, by kernel_rfl⟩
theorem call12 : CallOk Tryz.prog 12 := ⟨Tryz.f12, _, Tryz.func12, rfl, by kernel_rfl⟩
theorem call13 : CallOk Tryz.prog 13 := ⟨Tryz.f13, _, Tryz.func13, rfl, by kernel_rfl⟩
theorem call14 : CallOk Tryz.prog 14 := ⟨Tryz.f14, _, Tryz.func14, rfl, by kernel_rfl⟩
theorem call15 : CallOk Tryz.prog 15 := ⟨Tryz.f15, _, Tryz.func15, rfl, by kernel_rfl⟩
theorem call16 : CallOk Tryz.prog 16 := ⟨Tryz.f16, _, Tryz.func16, rfl, by kernel_rfl⟩
theorem call17 : CallOk Tryz.prog 17 := ⟨Tryz.f17, _, Tryz.func17, rfl, by kernel_rfl⟩
theorem call18 : CallOk Tryz.prog 18 := ⟨Tryz.f18, _, Tryz.func18, rfl, by kernel_rfl⟩
theorem call19 : CallOk Tryz.prog 19 := ⟨Tryz.f19, _, Tryz.func19, rfl, by kernel_rfl⟩
theorem call20 : CallOk Tryz.prog 20 := ⟨Tryz.f20, _, Tryz.func20, rfl, by kernel_rfl⟩
theorem call21 : CallOk Tryz.prog 21 := ⟨Tryz.f21, _, Tryz.func21, rfl, by kernel_rfl⟩
theorem call22 : CallOk Tryz.prog 22 := ⟨Tryz.f22, _, Tryz.func22, rfl, by kernel_rfl⟩
theorem call23 : CallOk Tryz.prog 23 := ⟨Tryz.f23, _, Tryz.func23, rfl, by kernel_rfl⟩
theorem call24 : CallOk Tryz.prog 24 := ⟨Tryz.f24, _, Tryz.func24, rfl, by kernel_rfl⟩
theorem call60 : CallOk Tryz.prog 60 := ⟨Tryz.f60, _, Tryz.func60, rfl, by kernel_rfl⟩
theorem call61 : CallOk Tryz.prog 61 := ⟨Tryz.f61, _, Tryz.func61, rfl, by kernel_rfl⟩
theorem call62 : CallOk Tryz.prog 62 := ⟨Tryz.f62, _, Tryz.func62, rfl, by kernel_rfl⟩
theorem call63 : CallOk Tryz.prog 63 := ⟨Tryz.f63, _, Tryz.func63, rfl, by kernel_rfl⟩
theorem call64 : CallOk Tryz.prog 64 := ⟨Tryz.f64, _, Tryz.func64, rfl, by kernel_rfl⟩
theorem call65 : CallOk Tryz.prog 65 := ⟨Tryz.f65, _, Tryz.func65, rfl, by kernel_rfl⟩
theorem call66 : CallOk Tryz.prog 66 := ⟨Tryz.f66, _, Tryz.func66, rfl, by kernel_rfl⟩
theorem call67 : CallOk Tryz.prog 67 := ⟨Tryz.f67, _, Tryz.func67, rfl, by kernel_rfl⟩
theorem call68 : CallOk Tryz.prog 68 := ⟨Tryz.f68, _, Tryz.func68, rfl, by kernel_rfl⟩
theorem call69 : CallOk Tryz.prog 69 := ⟨Tryz.f69, _, Tryz.func69, rfl, by kernel_rfl⟩
theorem call70 : CallOk Tryz.prog 70 := ⟨Tryz.f70, _, Tryz.func70, rfl, by kernel_rfl⟩
theorem call71 : CallOk Tryz.prog 71 := ⟨Tryz.f71, _, Tryz.func71, rfl, by kernel_rfl⟩
theorem call72 : CallOk Tryz.prog 72 := ⟨Tryz.f72, _, Tryz.func72, rfl, by kernel_rfl⟩
theorem call73 : CallOk Tryz.prog 73 := ⟨Tryz.f73, _, Tryz.func73, rfl, by kernel_rfl⟩
theorem call74 : CallOk Tryz.prog 74 := ⟨Tryz.f74, _, Tryz.func74, rfl, by kernel_rfl⟩
theorem call75 : CallOk Tryz.prog 75 := ⟨Tryz.f75, _, Tryz.func75, rfl, by kernel_rfl⟩
theorem call76 : CallOk Tryz.prog 76 := ⟨Tryz.f76, _, Tryz.func76, rfl, by kernel_rfl⟩
theorem call77 : CallOk Tryz.prog 77 := ⟨Tryz.f77, _, Tryz.func77, rfl, by kernel_rfl⟩
theorem call78 : CallOk Tryz.prog 78 := ⟨Tryz.f78, _, Tryz.func78, rfl, by kernel_rfl⟩
theorem call79 : CallOk Tryz.prog 79 := ⟨Tryz.f79, _, Tryz.func79, rfl, by kernel_rfl⟩
theorem call80 : CallOk Tryz.prog 80 := ⟨Tryz.f80, _, Tryz.func80, rfl, by kernel_rfl⟩
theorem call81 : CallOk Tryz.prog 81 := ⟨Tryz.f81, _, Tryz.func81, rfl, by kernel_rfl⟩
theorem call82 : CallOk Tryz.prog 82 := ⟨Tryz.f82, _, Tryz.func82, rfl, by kernel_rfl⟩
theorem call83 : CallOk Tryz.prog 83 := ⟨Tryz.f83, _, Tryz.func83, rfl, by kernel_rfl⟩
theorem call84 : CallOk Tryz.prog 84 := ⟨Tryz.f84, _, Tryz.func84, rfl, by kernel_rfl⟩
theorem call85 : CallOk Tryz.prog 85 := ⟨Tryz.f85, _, Tryz.func85, rfl, by kernel_rfl⟩
theorem call86 : CallOk Tryz.prog 86 := ⟨Tryz.f86, _, Tryz.func86, rfl, by kernel_rfl⟩
theorem call87 : CallOk Tryz.prog 87 := ⟨Tryz.f87, _, Tryz.func87, rfl, by kernel_rfl⟩
theorem call88 : CallOk Tryz.prog 88 := ⟨Tryz.f88, _, Tryz.func88, rfl, by kernel_rfl⟩
theorem call89 : CallOk Tryz.prog 89 := ⟨Tryz.f89, _, Tryz.func89, rfl, by kernel_rfl⟩
theorem call90 : CallOk Tryz.prog 90 := ⟨Tryz.f90, _, Tryz.func90, rfl, by kernel_rfl⟩
theorem call91 : CallOk Tryz.prog 91 := ⟨Tryz.f91, _, Tryz.func91, rfl, by kernel_rfl⟩
theorem call92 : CallOk Tryz.prog 92 := ⟨Tryz.f92, _, Tryz.func92, rfl, by kernel_rfl⟩
theorem call93 : CallOk Tryz.prog 93 := ⟨Tryz.f93, _, Tryz.func93, rfl, by kernel_rfl⟩
theorem call94 : CallOk Tryz.prog 94 := ⟨Tryz.f94, _, Tryz.func94, rfl, by kernel_rfl⟩
theorem call95 : CallOk Tryz.prog 95 := ⟨Tryz.f95, _, Tryz.func95, rfl, by kernel_rfl⟩
theorem call96 : CallOk Tryz.prog 96 := ⟨Tryz.f96, _, Tryz.func96, rfl, by kernel_rfl⟩
theorem call105 : CallOk Tryz.prog 105 := ⟨Tryz.f105, _, Tryz.func105, rfl, by kernel_rfl⟩
theorem call114 : CallOk Tryz.prog 114 := ⟨Tryz.f114, _, Tryz.func114, rfl, by kernel_rfl⟩
theorem call120 : CallOk Tryz.prog 120 := ⟨Tryz.f120, _, Tryz.func120, rfl, by kernel_rfl⟩
theorem call125 : CallOk Tryz.prog 125 := ⟨Tryz.f125, _, Tryz.func125, rfl, by kernel_rfl⟩
theorem call128 : CallOk Tryz.prog 128 := ⟨Tryz.f128, _, Tryz.func128, rfl, by kernel_rfl⟩
theorem call134 : CallOk Tryz.prog 134 := ⟨Tryz.f134, _, Tryz.func134, rfl, by kernel_rfl⟩
theorem call135 : CallOk Tryz.prog 135 := ⟨Tryz.f135, _, Tryz.func135, rfl, by kernel_rfl⟩
theorem call136 : CallOk Tryz.prog 136 := ⟨Tryz.f136, _, Tryz.func136, rfl, by kernel_rfl⟩
theorem call137 : CallOk Tryz.prog 137 := ⟨Tryz.f137, _, Tryz.func137, rfl, by kernel_rfl⟩
theorem call138 : CallOk Tryz.prog 138 := ⟨Tryz.f138, _, Tryz.func138, rfl, by kernel_rfl⟩
theorem call139 : CallOk Tryz.prog 139 := ⟨Tryz.f139, _, Tryz.func139, rfl, by kernel_rfl⟩
theorem call140 : CallOk Tryz.prog 140 := ⟨Tryz.f140, _, Tryz.func140, rfl, by kernel_rfl⟩
theorem call141 : CallOk Tryz.prog 141 := ⟨Tryz.f141, _, Tryz.func141, rfl, by kernel_rfl⟩
theorem call142 : CallOk Tryz.prog 142 := ⟨Tryz.f142, _, Tryz.func142, rfl, by kernel_rfl⟩
theorem call143 : CallOk Tryz.prog 143 := ⟨Tryz.f143, _, Tryz.func143, rfl, by kernel_rfl⟩
theorem call144 : CallOk Tryz.prog 144 := ⟨Tryz.f144, _, Tryz.func144, rfl, by kernel_rfl⟩
theorem call145 : CallOk Tryz.prog 145 := ⟨Tryz.f145, _, Tryz.func145, rfl, by kernel_rfl⟩
theorem call146 : CallOk Tryz.prog 146 := ⟨Tryz.f146, _, Tryz.func146, rfl, by kernel_rfl⟩
theorem call147 : CallOk Tryz.prog 147 := ⟨Tryz.f147, _, Tryz.func147, rfl, by kernel_rfl⟩
theorem call148 : CallOk Tryz.prog 148 := ⟨Tryz.f148, _, Tryz.func148, rfl, by kernel_rfl⟩
theorem call149 : CallOk Tryz.prog 149 := ⟨Tryz.f149, _, Tryz.func149, rfl, by kernel_rfl⟩
theorem call150 : CallOk Tryz.prog 150 := ⟨Tryz.f150, _, Tryz.func150, rfl, by kernel_rfl⟩
theorem call151 : CallOk Tryz.prog 151 := ⟨Tryz.f151, _, Tryz.func151, rfl, by kernel_rfl⟩
theorem call152 : CallOk Tryz.prog 152 := ⟨Tryz.f152, _, Tryz.func152, rfl, by kernel_rfl⟩
theorem call153 : CallOk Tryz.prog 153 := ⟨Tryz.f153, _, Tryz.func153, rfl, by kernel_rfl⟩
theorem call154 : CallOk Tryz.prog 154 := ⟨Tryz.f154, _, Tryz.func154, rfl, by kernel_rfl⟩
theorem call155 : CallOk Tryz.prog 155 := ⟨Tryz.f155, _, Tryz.func155, rfl, by kernel_rfl⟩
theorem call156 : CallOk Tryz.prog 156 := ⟨Tryz.f156, _, Tryz.func156, rfl, by kernel_rfl⟩
theorem call157 : CallOk Tryz.prog 157 := ⟨Tryz.f157, _, Tryz.func157, rfl, by kernel_rfl⟩
theorem call158 : CallOk Tryz.prog 158 := ⟨Tryz.f158, _, Tryz.func158, rfl, by kernel_rfl⟩
theorem call159 : CallOk Tryz.prog 159 := ⟨Tryz.f159, _, Tryz.func159, rfl, by kernel_rfl⟩
theorem call160 : CallOk Tryz.prog 160 := ⟨Tryz.f160, _, Tryz.func160, rfl, by kernel_rfl⟩
theorem call161 : CallOk Tryz.prog 161 := ⟨Tryz.f161, _, Tryz.func161, rfl, by kernel_rfl⟩
theorem call162 : CallOk Tryz.prog 162 := ⟨Tryz.f162, _, Tryz.func162, rfl, by kernel_rfl⟩
theorem call163 : CallOk Tryz.prog 163 := ⟨Tryz.f163, _, Tryz.func163, rfl, by kernel_rfl⟩
theorem call164 : CallOk Tryz.prog 164 := ⟨Tryz.f164, _, Tryz.func164, rfl, by kernel_rfl⟩
theorem call171 : CallOk Tryz.prog 171 := ⟨Tryz.f171, _, Tryz.func171, rfl, by kernel_rfl⟩
theorem call173 : CallOk Tryz.prog 173 := ⟨Tryz.f173, _, Tryz.func173, rfl, by kernel_rfl⟩
theorem call174 : CallOk Tryz.prog 174 := ⟨Tryz.f174, _, Tryz.func174, rfl, by kernel_rfl⟩
theorem call179 : CallOk Tryz.prog 179 := ⟨Tryz.f179, _, Tryz.func179, rfl, by kernel_rfl⟩
theorem call183 : CallOk Tryz.prog 183 := ⟨Tryz.f183, _, Tryz.func183, rfl, by kernel_rfl⟩
theorem call184 : CallOk Tryz.prog 184 := ⟨Tryz.f184, _, Tryz.func184, rfl, by kernel_rfl⟩
theorem call185 : CallOk Tryz.prog 185 := ⟨Tryz.f185, _, Tryz.func185, rfl, by kernel_rfl⟩
theorem call186 : CallOk Tryz.prog 186 := ⟨Tryz.f186, _, Tryz.func186, rfl, by kernel_rfl⟩
theorem call187 : CallOk Tryz.prog 187 := ⟨Tryz.f187, _, Tryz.func187, rfl, by kernel_rfl⟩
theorem call188 : CallOk Tryz.prog 188 := ⟨Tryz.f188, _, Tryz.func188, rfl, by kernel_rfl⟩
theorem call189 : CallOk Tryz.prog 189 := ⟨Tryz.f189, _, Tryz.func189, rfl, by kernel_rfl⟩
theorem call190 : CallOk Tryz.prog 190 := ⟨Tryz.f190, _, Tryz.func190, rfl, by kernel_rfl⟩
theorem call191 : CallOk Tryz.prog 191 := ⟨Tryz.f191, _, Tryz.func191, rfl, by kernel_rfl⟩
theorem call192 : CallOk Tryz.prog 192 := ⟨Tryz.f192, _, Tryz.func192, rfl, by kernel_rfl⟩
theorem call193 : CallOk Tryz.prog 193 := ⟨Tryz.f193, _, Tryz.func193, rfl, by kernel_rfl⟩
theorem call194 : CallOk Tryz.prog 194 := ⟨Tryz.f194, _, Tryz.func194, rfl, by kernel_rfl⟩
theorem call195 : CallOk Tryz.prog 195 := ⟨Tryz.f195, _, Tryz.func195, rfl, by kernel_rfl⟩
theorem call196 : CallOk Tryz.prog 196 := ⟨Tryz.f196, _, Tryz.func196, rfl, by kernel_rfl⟩
theorem call197 : CallOk Tryz.prog 197 := ⟨Tryz.f197, _, Tryz.func197, rfl, by kernel_rfl⟩
theorem call204 : CallOk Tryz.prog 204 := ⟨Tryz.f204, _, Tryz.func204, rfl, by kernel_rfl⟩
theorem call207 : CallOk Tryz.prog 207 := ⟨Tryz.f207, _, Tryz.func207, rfl, by kernel_rfl⟩
theorem call208 : CallOk Tryz.prog 208 := ⟨Tryz.f208, _, Tryz.func208, rfl, by kernel_rfl⟩
theorem call214 : CallOk Tryz.prog 214 := ⟨Tryz.f214, _, Tryz.func214, rfl, by kernel_rfl⟩
abbrev ut0 := @Tryz.underlying0
abbrev ut2 := @Tryz.underlying2
abbrev ut3 := @Tryz.underlying3
abbrev ut4 := @Tryz.underlying4
abbrev ut5 := @Tryz.underlying5
abbrev ut9 := @Tryz.underlying9
abbrev ut22 := @Tryz.underlying22
abbrev ut24 := @Tryz.underlying24
abbrev ut26 := @Tryz.underlying26
abbrev ut28 := @Tryz.underlying28
abbrev ut35 := @Tryz.underlying35
abbrev ut49 := @Tryz.underlying49
abbrev ut53 := @Tryz.underlying53
abbrev ut81 := @Tryz.underlying81
abbrev ut89 := @Tryz.underlying89
abbrev ut119 := @Tryz.underlying119
abbrev ut130 := @Tryz.underlying130
abbrev ut133 := @Tryz.underlying133
abbrev ut140 := @Tryz.underlying140
abbrev ut145 := @Tryz.underlying145
abbrev ut152 := @Tryz.underlying152
abbrev ut153 := @Tryz.underlying153
abbrev ut184 := @Tryz.underlying184
abbrev ut186 := @Tryz.underlying186
abbrev ut193 := @Tryz.underlying193
abbrev ut195 := @Tryz.underlying195
abbrev ut198 := @Tryz.underlying198
abbrev ut206 := @Tryz.underlying206
abbrev ut207 := @Tryz.underlying207
abbrev ut212 := @Tryz.underlying212
abbrev ut215 := @Tryz.underlying215
abbrev ut227 := @Tryz.underlying227
abbrev ut231 := @Tryz.underlying231
abbrev ut237 := @Tryz.underlying237
abbrev ut238 := @Tryz.underlying238
end Go.Proofs.YtgfpljeppfaolaaGreat
