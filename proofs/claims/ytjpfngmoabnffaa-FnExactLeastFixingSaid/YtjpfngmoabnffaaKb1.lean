/-
  Contracts, part 1.
-/
import Derived.Test.YtjpfngmoabnffaaKa5
import Derived.Test.YtjpfngmoabnffaaProg
set_option linter.unusedVariables false
set_option linter.unusedSimpArgs false
namespace Go.Proofs.Ytjpfngmoabnffaa
open Go Go.Vc Go.Proofs
theorem mo : Try.prog.follows .mixedOrders = true := by kernel_rfl
theorem sz2 : Sz Try.prog 2 1 := by unfold Sz; kernel_rfl
theorem pl2 : plainT Try.prog 2 = true := by kernel_rfl
theorem inf2 : Inf Try.prog 2 1 8 (.int .i64 0) := by unfold Inf; kernel_rfl
theorem sz4 : Sz Try.prog 4 1 := by unfold Sz; kernel_rfl
theorem pl4 : plainT Try.prog 4 = true := by kernel_rfl
theorem inf4 : Inf Try.prog 4 1 1 (.bool false) := by unfold Inf; kernel_rfl
theorem sz22 : Sz Try.prog 22 1 := by unfold Sz; kernel_rfl
theorem pl22 : plainT Try.prog 22 = true := by kernel_rfl
theorem sz24 : Sz Try.prog 24 2 := by unfold Sz; kernel_rfl
theorem ag24 : aggT Try.prog 24 = true := by kernel_rfl
theorem sz28 : Sz Try.prog 28 1 := by unfold Sz; kernel_rfl
theorem pl28 : plainT Try.prog 28 = true := by kernel_rfl
theorem inf28 : Inf Try.prog 28 1 24 (.slice none 0 0) := by unfold Inf; kernel_rfl
theorem sz30 : Sz Try.prog 30 2 := by unfold Sz; kernel_rfl
theorem ag30 : aggT Try.prog 30 = true := by kernel_rfl
theorem zr30 : Zr Try.prog 30 (.agg #[.int .i64 0, .slice none 0 0]) := by unfold Zr; kernel_rfl
theorem sz43 : Sz Try.prog 43 1 := by unfold Sz; kernel_rfl
theorem pl43 : plainT Try.prog 43 = true := by kernel_rfl
theorem inf43 : Inf Try.prog 43 1 24 (.slice none 0 0) := by unfold Inf; kernel_rfl
theorem sz74 : Sz Try.prog 74 3 := by unfold Sz; kernel_rfl
theorem ag74 : aggT Try.prog 74 = true := by kernel_rfl
theorem sz75 : Sz Try.prog 75 3 := by unfold Sz; kernel_rfl
theorem ag75 : aggT Try.prog 75 = true := by kernel_rfl
theorem inf75 : Inf Try.prog 75 3 24 (.agg #[.int .i64 0, .int .i64 0, .int .i64 0]) := by unfold Inf; kernel_rfl
theorem zr75 : Zr Try.prog 75 (.agg #[.int .i64 0, .int .i64 0, .int .i64 0]) := by unfold Zr; kernel_rfl
theorem sz88 : Sz Try.prog 88 1 := by unfold Sz; kernel_rfl
theorem pl88 : plainT Try.prog 88 = true := by kernel_rfl
theorem sz89 : Sz Try.prog 89 1 := by unfold Sz; kernel_rfl
theorem pl89 : plainT Try.prog 89 = true := by kernel_rfl
theorem zr91 : Zr Try.prog 91 (.agg #[.int .i64 0, .slice none 0 0, .int .i64 0, .int .i64 0, .bool false, .slice none 0 0]) := by unfold Zr; kernel_rfl
theorem sz95 : Sz Try.prog 95 1 := by unfold Sz; kernel_rfl
theorem pl95 : plainT Try.prog 95 = true := by kernel_rfl
theorem zr95 : Zr Try.prog 95 (.slice none 0 0) := by unfold Zr; kernel_rfl
theorem sz97 : Sz Try.prog 97 1 := by unfold Sz; kernel_rfl
theorem pl97 : plainT Try.prog 97 = true := by kernel_rfl
theorem inf97 : Inf Try.prog 97 1 8 (.int .u64 0) := by unfold Inf; kernel_rfl
theorem zr97 : Zr Try.prog 97 (.int .u64 0) := by unfold Zr; kernel_rfl
theorem sz119 : Sz Try.prog 119 1 := by unfold Sz; kernel_rfl
theorem pl119 : plainT Try.prog 119 = true := by kernel_rfl
theorem sz140 : Sz Try.prog 140 1 := by unfold Sz; kernel_rfl
theorem pl140 : plainT Try.prog 140 = true := by kernel_rfl
theorem sz176 : Sz Try.prog 176 15 := by unfold Sz; kernel_rfl
theorem zr222 : Zr Try.prog 222 (.agg (List.replicate 225 (.int .i64 0)).toArray) := by unfold Zr; kernel_rfl
theorem call15 : CallOk Try.prog 15 := ⟨Try.f15, _, Try.func15, rfl, by kernel_rfl⟩
theorem call17 : CallOk Try.prog 17 := ⟨Try.f17, _, Try.func17, rfl, by kernel_rfl⟩
theorem call19 : CallOk Try.prog 19 := ⟨Try.f19, _, Try.func19, rfl, by kernel_rfl⟩
theorem call25 : CallOk Try.prog 25 := ⟨Try.f25, _, Try.func25, rfl, by kernel_rfl⟩
theorem call33 : CallOk Try.prog 33 := ⟨Try.f33, _, Try.func33, rfl, by kernel_rfl⟩
theorem call34 : CallOk Try.prog 34 := ⟨Try.f34, _, Try.func34, rfl, by kernel_rfl⟩
theorem call35 : CallOk Try.prog 35 := ⟨Try.f35, _, Try.func35, rfl, by kernel_rfl⟩
theorem call36 : CallOk Try.prog 36 := ⟨Try.f36, _, Try.func36, rfl, by kernel_rfl⟩
theorem call37 : CallOk Try.prog 37 := ⟨Try.f37, _, Try.func37, rfl, by kernel_rfl⟩
theorem call56 : CallOk Try.prog 56 := ⟨Try.f56, _, Try.func56, rfl, by kernel_rfl⟩
theorem call58 : CallOk Try.prog 58 := ⟨Try.f58, _, Try.func58, rfl, by kernel_rfl⟩
theorem call60 : CallOk Try.prog 60 := ⟨Try.f60, _, Try.func60, rfl, by kernel_rfl⟩
theorem call72 : CallOk Try.prog 72 := ⟨Try.f72, _, Try.func72, rfl, by kernel_rfl⟩
theorem call78 : CallOk Try.prog 78 := ⟨Try.f78, _, Try.func78, rfl, by kernel_rfl⟩
theorem call81 : CallOk Try.prog 81 := ⟨Try.f81, _, Try.func81, rfl, by kernel_rfl⟩
theorem call82 : CallOk Try.prog 82 := ⟨Try.f82, _, Try.func82, rfl, by kernel_rfl⟩
theorem call83 : CallOk Try.prog 83 := ⟨Try.f83, _, Try.func83, rfl, by kernel_rfl⟩
theorem call84 : CallOk Try.prog 84 := ⟨Try.f84, _, Try.func84, rfl, by kernel_rfl⟩
theorem call85 : CallOk Try.prog 85 := ⟨Try.f85, _, Try.func85, rfl, by kernel_rfl⟩
theorem call86 : CallOk Try.prog 86 := ⟨Try.f86, _, Try.func86, rfl, by kernel_rfl⟩
theorem call87 : CallOk Try.prog 87 := ⟨Try.f87, _, Try.func87, rfl, by kernel_rfl⟩
theorem call88 : CallOk Try.prog 88 := ⟨Try.f88, _, Try.func88, rfl, by kernel_rfl⟩
theorem call89 : CallOk Try.prog 89 := ⟨Try.f89, _, Try.func89, rfl, by kernel_rfl⟩
theorem call90 : CallOk Try.prog 90 := ⟨Try.f90, _, Try.func90, rfl, by kernel_rfl⟩
theorem call91 : CallOk Try.prog 91 := ⟨Try.f91, _, Try.func91, rfl, by kernel_rfl⟩
theorem call117 : CallOk Try.prog 117 := ⟨Try.f117, _, Try.func117, rfl, by kernel_rfl⟩
theorem call127 : CallOk Try.prog 127 := ⟨Try.f127, _, Try.func127, rfl, by kernel_rfl⟩
theorem call131 : CallOk Try.prog 131 := ⟨Try.f131, _, Try.func131, rfl, by kernel_rfl⟩
theorem call136 : CallOk Try.prog 136 := ⟨Try.f136, _, Try.func136, rfl, by kernel_rfl⟩
theorem call138 : CallOk Try.prog 138 := ⟨Try.f138, _, Try.func138, rfl, by kernel_rfl⟩
theorem call139 : CallOk Try.prog 139 := ⟨Try.f139, _, Try.func139, rfl, by kernel_rfl⟩
theorem call142 : CallOk Try.prog 142 := ⟨Try.f142, _, Try.func142, rfl, by kernel_rfl⟩
theorem call143 : CallOk Try.prog 143 := ⟨Try.f143, _, Try.func143, rfl, by kernel_rfl⟩
theorem call147 : CallOk Try.prog 147 := ⟨Try.f147, _, Try.func147, rfl, by kernel_rfl⟩
theorem call148 : CallOk Try.prog 148 := ⟨Try.f148, _, Try.func148, rfl, by kernel_rfl⟩
theorem call149 : CallOk Try.prog 149 := ⟨Try.f149, _, Try.func149, rfl, by kernel_rfl⟩
theorem call150 : CallOk Try.prog 150 := ⟨Try.f150, _, Try.func150, rfl, by kernel_rfl⟩
theorem call151 : CallOk Try.prog 151 := ⟨Try.f151, _, Try.func151, rfl, by kernel_rfl⟩
theorem call152 : CallOk Try.prog 152 := ⟨Try.f152, _, Try.func152, rfl, by kernel_rfl⟩
theorem call153 : CallOk Try.prog 153 := ⟨Try.f153, _, Try.func153, rfl, by kernel_rfl⟩
theorem call155 : CallOk Try.prog 155 := ⟨Try.f155, _, Try.func155, rfl, by kernel_rfl⟩
theorem call156 : CallOk Try.prog 156 := ⟨Try.f156, _, Try.func156, rfl, by kernel_rfl⟩
theorem call157 : CallOk Try.prog 157 := ⟨Try.f157, _, Try.func157, rfl, by kernel_rfl⟩
theorem call158 : CallOk Try.prog 158 := ⟨Try.f158, _, Try.func158, rfl, by kernel_rfl⟩
theorem call164 : CallOk Try.prog 164 := ⟨Try.f164, _, Try.func164, rfl, by kernel_rfl⟩
theorem call175 : CallOk Try.prog 175 := ⟨Try.f175, _, Try.func175, rfl, by kernel_rfl⟩
theorem call182 : CallOk Try.prog 182 := ⟨Try.f182, _, Try.func182, rfl, by kernel_rfl⟩
theorem call196 : CallOk Try.prog 196 := ⟨Try.f196, _, Try.func196, rfl, by kernel_rfl⟩
theorem call199 : CallOk Try.prog 199 := ⟨Try.f199, _, Try.func199, rfl, by kernel_rfl⟩
theorem call200 : CallOk Try.prog 200 := ⟨Try.f200, _, Try.func200, rfl, by kernel_rfl⟩
theorem call203 : CallOk Try.prog 203 := ⟨Try.f203, _, Try.func203, rfl, by kernel_rfl⟩
theorem call204 : CallOk Try.prog 204 := ⟨Try.f204, _, Try.func204, rfl, by kernel_rfl⟩
theorem call205 : CallOk Try.prog 205 := ⟨Try.f205, _, Try.func205, rfl, by kernel_rfl⟩
theorem call206 : CallOk Try.prog 206 := ⟨Try.f206, _, Try.func206, rfl, by kernel_rfl⟩
theorem call212 : CallOk Try.prog 212 := ⟨Try.f212, _, Try.func212, rfl, by kernel_rfl⟩
theorem call213 : CallOk Try.prog 213 := ⟨Try.f213, _, Try.func213, rfl, by kernel_rfl⟩
theorem call214 : CallOk Try.prog 214 := ⟨Try.f214, _, Try.func214, rfl, by kernel_rfl⟩
theorem call232 : CallOk Try.prog 232 := ⟨Try.f232, _, Try.func232, rfl, by kernel_rfl⟩
end Go.Proofs.Ytjpfngmoabnffaa
