/-
  Contracts, part 1.
-/
import Derived.Test.YtjpfngmoabnffaaKa5
import Derived.Test.YtjpfngmoabnffaaProg
set_option linter.unusedVariables false
set_option linter.unusedSimpArgs false
namespace Go.Proofs.Ytjpfngmoabnffaa
open Go Go.Vc Go.Proofs
theorem mo : Try.prog.follows .mixedOrders = true := by kernel_rfl
theorem sz2 : Sz Try.prog 2 1 := by unfold Sz; kernel_rfl
theorem pl2 : plainT Try.prog 2 = true := by kernel_rfl
theorem inf2 : Inf Try.prog 2 1 8 (.int .i64 0) := by unfold Inf; kernel_rfl
theorem zr2 : Zr Try.prog 2 (.int .i64 0) := by unfold Zr; kernel_rfl
theorem sz4 : Sz Try.prog 4 1 := by unfold Sz; kernel_rfl
theorem pl4 : plainT Try.prog 4 = true := by kernel_rfl
theorem inf4 : Inf Try.prog 4 1 1 (.bool false) := by unfold Inf; kernel_rfl
theorem sz22 : Sz Try.prog 22 1 := by unfold Sz; kernel_rfl
theorem pl22 : plainT Try.prog 22 = true := by kernel_rfl
theorem sz28 : Sz Try.prog 28 1 := by unfold Sz; kernel_rfl
theorem pl28 : plainT Try.prog 28 = true := by kernel_rfl
theorem sz30 : Sz Try.prog 30 2 := by unfold Sz; kernel_rfl
theorem ag30 : aggT Try.prog 30 = true := by kernel_rfl
theorem zr30 : Zr Try.prog 30 (.agg #[.int .i64 0, .slice none 0 0]) := by unfold Zr; kernel_rfl
theorem sz50 : Sz Try.prog 50 3 := by unfold Sz; kernel_rfl
theorem ag50 : aggT Try.prog 50 = true := by kernel_rfl
theorem sz54 : Sz Try.prog 54 3 := by unfold Sz; kernel_rfl
theorem ag54 : aggT Try.prog 54 = true := by kernel_rfl
theorem zr54 : Zr Try.prog 54 (.agg #[.int .i64 0, .slice none 0 0, .slice none 0 0]) := by unfold Zr; kernel_rfl
theorem sz74 : Sz Try.prog 74 3 := by unfold Sz; kernel_rfl
theorem ag74 : aggT Try.prog 74 = true := by kernel_rfl
theorem sz75 : Sz Try.prog 75 3 := by unfold Sz; kernel_rfl
theorem ag75 : aggT Try.prog 75 = true := by kernel_rfl
theorem inf75 : Inf Try.prog 75 3 24 (.agg #[.int .i64 0, .int .i64 0, .int .i64 0]) := by unfold Inf; kernel_rfl
theorem zr75 : Zr Try.prog 75 (.agg #[.int .i64 0, .int .i64 0, .int .i64 0]) := by unfold Zr; kernel_rfl
theorem sz176 : Sz Try.prog 176 15 := by unfold Sz; kernel_rfl
theorem sz195 : Sz Try.prog 195 2 := by unfold Sz; kernel_rfl
theorem ag195 : aggT Try.prog 195 = true := by kernel_rfl
theorem inf195 : Inf Try.prog 195 2 16 (.agg #[.int .i64 0, .int .i64 0]) := by unfold Inf; kernel_rfl
theorem zr195 : Zr Try.prog 195 (.agg #[.int .i64 0, .int .i64 0]) := by unfold Zr; kernel_rfl
theorem zr222 : Zr Try.prog 222 (.agg (List.replicate 225 (.int .i64 0)).toArray) := by unfold Zr; kernel_rfl
theorem call33 : CallOk Try.prog 33 := ⟨Try.f33, _, Try.func33, rfl, by kernel_rfl⟩
theorem call34 : CallOk Try.prog 34 := ⟨Try.f34, _, Try.func34, rfl, by kernel_rfl⟩
theorem call35 : CallOk Try.prog 35 := ⟨Try.f35, _, Try.func35, rfl, by kernel_rfl⟩
theorem call40 : CallOk Try.prog 40 := ⟨Try.f40, _, Try.func40, rfl, by kernel_rfl⟩
theorem call41 : CallOk Try.prog 41 := ⟨Try.f41, _, Try.func41, rfl, by kernel_rfl⟩
theorem call42 : CallOk Try.prog 42 := ⟨Try.f42, _, Try.func42, rfl, by kernel_rfl⟩
theorem call43 : CallOk Try.prog 43 := ⟨Try.f43, _, Try.func43, rfl, by kernel_rfl⟩
theorem call44 : CallOk Try.prog 44 := ⟨Try.f44, _, Try.func44, rfl, by kernel_rfl⟩
theorem call45 : CallOk Try.prog 45 := ⟨Try.f45, _, Try.func45, rfl, by kernel_rfl⟩
theorem call56 : CallOk Try.prog 56 := ⟨Try.f56, _, Try.func56, rfl, by kernel_rfl⟩
theorem call58 : CallOk Try.prog 58 := ⟨Try.f58, _, Try.func58, rfl, by kernel_rfl⟩
theorem call60 : CallOk Try.prog 60 := ⟨Try.f60, _, Try.func60, rfl, by kernel_rfl⟩
theorem call78 : CallOk Try.prog 78 := ⟨Try.f78, _, Try.func78, rfl, by kernel_rfl⟩
theorem call79 : CallOk Try.prog 79 := ⟨Try.f79, _, Try.func79, rfl, by kernel_rfl⟩
theorem call81 : CallOk Try.prog 81 := ⟨Try.f81, _, Try.func81, rfl, by kernel_rfl⟩
theorem call91 : CallOk Try.prog 91 := ⟨Try.f91, _, Try.func91, rfl, by kernel_rfl⟩
theorem call94 : CallOk Try.prog 94 := ⟨Try.f94, _, Try.func94, rfl, by kernel_rfl⟩
theorem call95 : CallOk Try.prog 95 := ⟨Try.f95, _, Try.func95, rfl, by kernel_rfl⟩
theorem call96 : CallOk Try.prog 96 := ⟨Try.f96, _, Try.func96, rfl, by kernel_rfl⟩
theorem call97 : CallOk Try.prog 97 := ⟨Try.f97, _, Try.func97, rfl, by kernel_rfl⟩
theorem call98 : CallOk Try.prog 98 := ⟨Try.f98, _, Try.func98, rfl, by kernel_rfl⟩
theorem call99 : CallOk Try.prog 99 := ⟨Try.f99, _, Try.func99, rfl, by kernel_rfl⟩
theorem call127 : CallOk Try.prog 127 := ⟨Try.f127, _, Try.func127, rfl, by kernel_rfl⟩
theorem call131 : CallOk Try.prog 131 := ⟨Try.f131, _, Try.func131, rfl, by kernel_rfl⟩
theorem call134 : CallOk Try.prog 134 := ⟨Try.f134, _, Try.func134, rfl, by kernel_rfl⟩
theorem call139 : CallOk Try.prog 139 := ⟨Try.f139, _, Try.func139, rfl, by kernel_rfl⟩
theorem call142 : CallOk Try.prog 142 := ⟨Try.f142, _, Try.func142, rfl, by kernel_rfl⟩
theorem call143 : CallOk Try.prog 143 := ⟨Try.f143, _, Try.func143, rfl, by kernel_rfl⟩
theorem call147 : CallOk Try.prog 147 := ⟨Try.f147, _, Try.func147, rfl, by kernel_rfl⟩
theorem call148 : CallOk Try.prog 148 := ⟨Try.f148, _, Try.func148, rfl, by kernel_rfl⟩
theorem call149 : CallOk Try.prog 149 := ⟨Try.f149, _, Try.func149, rfl, by kernel_rfl⟩
theorem call150 : CallOk Try.prog 150 := ⟨Try.f150, _, Try.func150, rfl, by kernel_rfl⟩
theorem call151 : CallOk Try.prog 151 := ⟨Try.f151, _, Try.func151, rfl, by kernel_rfl⟩
theorem call158 : CallOk Try.prog 158 := ⟨Try.f158, _, Try.func158, rfl, by kernel_rfl⟩
theorem call160 : CallOk Try.prog 160 := ⟨Try.f160, _, Try.func160, rfl, by kernel_rfl⟩
theorem call161 : CallOk Try.prog 161 := ⟨Try.f161, _, Try.func161, rfl, by kernel_rfl⟩
theorem call162 : CallOk Try.prog 162 := ⟨Try.f162, _, Try.func162, rfl, by kernel_rfl⟩
theorem call164 : CallOk Try.prog 164 := ⟨Try.f164, _, Try.func164, rfl, by kernel_rfl⟩
theorem call175 : CallOk Try.prog 175 := ⟨Try.f175, _, Try.func175, rfl, by kernel_rfl⟩
theorem call182 : CallOk Try.prog 182 := ⟨Try.f182, _, Try.func182, rfl, by kernel_rfl⟩
theorem call199 : CallOk Try.prog 199 := ⟨Try.f199, _, Try.func199, rfl, by kernel_rfl⟩
theorem call200 : CallOk Try.prog 200 := ⟨Try.f200, _, Try.func200, rfl, by kernel_rfl⟩
theorem call203 : CallOk Try.prog 203 := ⟨Try.f203, _, Try.func203, rfl, by kernel_rfl⟩
theorem call204 : CallOk Try.prog 204 := ⟨Try.f204, _, Try.func204, rfl, by kernel_rfl⟩
theorem call206 : CallOk Try.prog 206 := ⟨Try.f206, _, Try.func206, rfl, by kernel_rfl⟩
theorem call207 : CallOk Try.prog 207 := ⟨Try.f207, _, Try.func207, rfl, by kernel_rfl⟩
theorem call208 : CallOk Try.prog 208 := ⟨Try.f208, _, Try.func208, rfl, by kernel_rfl⟩
theorem call212 : CallOk Try.prog 212 := ⟨Try.f212, _, Try.func212, rfl, by kernel_rfl⟩
theorem call213 : CallOk Try.prog 213 := ⟨Try.f213, _, Try.func213, rfl, by kernel_rfl⟩
theorem call214 : CallOk Try.prog 214 := ⟨Try.f214, _, Try.func214, rfl, by kernel_rfl⟩
theorem call233 : CallOk Try.prog 233 := ⟨Try.f233, _, Try.func233, rfl, by kernel_rfl⟩
theorem call234 : CallOk Try.prog 234 := ⟨Try.f234, _, Try.func234, rfl, by kernel_rfl⟩
end Go.Proofs.Ytjpfngmoabnffaa
