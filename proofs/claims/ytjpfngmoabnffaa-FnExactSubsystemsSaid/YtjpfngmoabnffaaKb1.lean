/-
  Contracts, part 1.
-/
import Derived.Test.YtjpfngmoabnffaaKa6
import Derived.Test.YtjpfngmoabnffaaProg
set_option linter.unusedVariables false
set_option linter.unusedSimpArgs false
namespace Go.Proofs.Ytjpfngmoabnffaa
open Go Go.Vc Go.Proofs
theorem mo : Try.prog.follows .mixedOrders = true := by kernel_rfl
theorem sz2 : Sz Try.prog 2 1 := by unfold Sz; kernel_rfl
theorem pl2 : plainT Try.prog 2 = true := by kernel_rfl
theorem inf2 : Inf Try.prog 2 1 8 (.int .i64 0) := by unfold Inf; kernel_rfl
theorem sz22 : Sz Try.prog 22 1 := by unfold Sz; kernel_rfl
theorem pl22 : plainT Try.prog 22 = true := by kernel_rfl
theorem sz24 : Sz Try.prog 24 2 := by unfold Sz; kernel_rfl
theorem ag24 : aggT Try.prog 24 = true := by kernel_rfl
theorem sz28 : Sz Try.prog 28 1 := by unfold Sz; kernel_rfl
theorem pl28 : plainT Try.prog 28 = true := by kernel_rfl
theorem sz30 : Sz Try.prog 30 2 := by unfold Sz; kernel_rfl
theorem ag30 : aggT Try.prog 30 = true := by kernel_rfl
theorem zr30 : Zr Try.prog 30 (.agg #[.int .i64 0, .slice none 0 0]) := by unfold Zr; kernel_rfl
theorem sz43 : Sz Try.prog 43 1 := by unfold Sz; kernel_rfl
theorem pl43 : plainT Try.prog 43 = true := by kernel_rfl
theorem inf43 : Inf Try.prog 43 1 24 (.slice none 0 0) := by unfold Inf; kernel_rfl
theorem sz74 : Sz Try.prog 74 3 := by unfold Sz; kernel_rfl
theorem ag74 : aggT Try.prog 74 = true := by kernel_rfl
theorem sz75 : Sz Try.prog 75 3 := by unfold Sz; kernel_rfl
theorem ag75 : aggT Try.prog 75 = true := by kernel_rfl
theorem inf75 : Inf Try.prog 75 3 24 (.agg #[.int .i64 0, .int .i64 0, .int .i64 0]) := by unfold Inf; kernel_rfl
theorem zr75 : Zr Try.prog 75 (.agg #[.int .i64 0, .int .i64 0, .int .i64 0]) := by unfold Zr; kernel_rfl
theorem sz176 : Sz Try.prog 176 15 := by unfold Sz; kernel_rfl
theorem zr222 : Zr Try.prog 222 (.agg (List.replicate 225 (.int .i64 0)).toArray) := by unfold Zr; kernel_rfl
theorem call15 : CallOk Try.prog 15 := ⟨Try.f15, _, Try.func15, rfl, by kernel_rfl⟩
theorem call17 : CallOk Try.prog 17 := ⟨Try.f17, _, Try.func17, rfl, by kernel_rfl⟩
theorem call19 : CallOk Try.prog 19 := ⟨Try.f19, _, Try.func19, rfl, by kernel_rfl⟩
theorem call24 : CallOk Try.prog 24 := ⟨Try.f24, _, Try.func24, rfl, by kernel_rfl⟩
theorem call25 : CallOk Try.prog 25 := ⟨Try.f25, _, Try.func25, rfl, by kernel_rfl⟩
theorem call26 : CallOk Try.prog 26 := ⟨Try.f26, _, Try.func26, rfl, by kernel_rfl⟩
theorem call27 : CallOk Try.prog 27 := ⟨Try.f27, _, Try.func27, rfl, by kernel_rfl⟩
theorem call33 : CallOk Try.prog 33 := ⟨Try.f33, _, Try.func33, rfl, by kernel_rfl⟩
theorem call34 : CallOk Try.prog 34 := ⟨Try.f34, _, Try.func34, rfl, by kernel_rfl⟩
theorem call35 : CallOk Try.prog 35 := ⟨Try.f35, _, Try.func35, rfl, by kernel_rfl⟩
theorem call52 : CallOk Try.prog 52 := ⟨Try.f52, _, Try.func52, rfl, by kernel_rfl⟩
theorem call53 : CallOk Try.prog 53 := ⟨Try.f53, _, Try.func53, rfl, by kernel_rfl⟩
theorem call56 : CallOk Try.prog 56 := ⟨Try.f56, _, Try.func56, rfl, by kernel_rfl⟩
theorem call58 : CallOk Try.prog 58 := ⟨Try.f58, _, Try.func58, rfl, by kernel_rfl⟩
theorem call60 : CallOk Try.prog 60 := ⟨Try.f60, _, Try.func60, rfl, by kernel_rfl⟩
theorem call72 : CallOk Try.prog 72 := ⟨Try.f72, _, Try.func72, rfl, by kernel_rfl⟩
theorem call78 : CallOk Try.prog 78 := ⟨Try.f78, _, Try.func78, rfl, by kernel_rfl⟩
theorem call81 : CallOk Try.prog 81 := ⟨Try.f81, _, Try.func81, rfl, by kernel_rfl⟩
theorem call87 : CallOk Try.prog 87 := ⟨Try.f87, _, Try.func87, rfl, by kernel_rfl⟩
theorem call90 : CallOk Try.prog 90 := ⟨Try.f90, _, Try.func90, rfl, by kernel_rfl⟩
theorem call91 : CallOk Try.prog 91 := ⟨Try.f91, _, Try.func91, rfl, by kernel_rfl⟩
theorem call103 : CallOk Try.prog 103 := ⟨Try.f103, _, Try.func103, rfl, by kernel_rfl⟩
theorem call113 : CallOk Try.prog 113 := ⟨Try.f113, _, Try.func113, rfl, by kernel_rfl⟩
theorem call114 : CallOk Try.prog 114 := ⟨Try.f114, _, Try.func114, rfl, by kernel_rfl⟩
theorem call115 : CallOk Try.prog 115 := ⟨Try.f115, _, Try.func115, rfl, by kernel_rfl⟩
theorem call116 : CallOk Try.prog 116 := ⟨Try.f116, _, Try.func116, rfl, by kernel_rfl⟩
theorem call117 : CallOk Try.prog 117 := ⟨Try.f117, _, Try.func117, rfl, by kernel_rfl⟩
theorem call118 : CallOk Try.prog 118 := ⟨Try.f118, _, Try.func118, rfl, by kernel_rfl⟩
theorem call119 : CallOk Try.prog 119 := ⟨Try.f119, _, Try.func119, rfl, by kernel_rfl⟩
theorem call120 : CallOk Try.prog 120 := ⟨Try.f120, _, Try.func120, rfl, by kernel_rfl⟩
theorem call121 : CallOk Try.prog 121 := ⟨Try.f121, _, Try.func121, rfl, by kernel_rfl⟩
theorem call122 : CallOk Try.prog 122 := ⟨Try.f122, _, Try.func122, rfl, by kernel_rfl⟩
theorem call127 : CallOk Try.prog 127 := ⟨Try.f127, _, Try.func127, rfl, by kernel_rfl⟩
theorem call131 : CallOk Try.prog 131 := ⟨Try.f131, _, Try.func131, rfl, by kernel_rfl⟩
theorem call139 : CallOk Try.prog 139 := ⟨Try.f139, _, Try.func139, rfl, by kernel_rfl⟩
theorem call142 : CallOk Try.prog 142 := ⟨Try.f142, _, Try.func142, rfl, by kernel_rfl⟩
theorem call143 : CallOk Try.prog 143 := ⟨Try.f143, _, Try.func143, rfl, by kernel_rfl⟩
theorem call148 : CallOk Try.prog 148 := ⟨Try.f148, _, Try.func148, rfl, by kernel_rfl⟩
theorem call149 : CallOk Try.prog 149 := ⟨Try.f149, _, Try.func149, rfl, by kernel_rfl⟩
theorem call150 : CallOk Try.prog 150 := ⟨Try.f150, _, Try.func150, rfl, by kernel_rfl⟩
theorem call155 : CallOk Try.prog 155 := ⟨Try.f155, _, Try.func155, rfl, by kernel_rfl⟩
theorem call157 : CallOk Try.prog 157 := ⟨Try.f157, _, Try.func157, rfl, by kernel_rfl⟩
theorem call158 : CallOk Try.prog 158 := ⟨Try.f158, _, Try.func158, rfl, by kernel_rfl⟩
theorem call164 : CallOk Try.prog 164 := ⟨Try.f164, _, Try.func164, rfl, by kernel_rfl⟩
theorem call180 : CallOk Try.prog 180 := ⟨Try.f180, _, Try.func180, rfl, by kernel_rfl⟩
theorem call181 : CallOk Try.prog 181 := ⟨Try.f181, _, Try.func181, rfl, by kernel_rfl⟩
theorem call182 : CallOk Try.prog 182 := ⟨Try.f182, _, Try.func182, rfl, by kernel_rfl⟩
theorem call197 : CallOk Try.prog 197 := ⟨Try.f197, _, Try.func197, rfl, by kernel_rfl⟩
theorem call199 : CallOk Try.prog 199 := ⟨Try.f199, _, Try.func199, rfl, by kernel_rfl⟩
theorem call200 : CallOk Try.prog 200 := ⟨Try.f200, _, Try.func200, rfl, by kernel_rfl⟩
theorem call203 : CallOk Try.prog 203 := ⟨Try.f203, _, Try.func203, rfl, by kernel_rfl⟩
theorem call206 : CallOk Try.prog 206 := ⟨Try.f206, _, Try.func206, rfl, by kernel_rfl⟩
theorem call212 : CallOk Try.prog 212 := ⟨Try.f212, _, Try.func212, rfl, by kernel_rfl⟩
theorem call213 : CallOk Try.prog 213 := ⟨Try.f213, _, Try.func213, rfl, by kernel_rfl⟩
theorem call214 : CallOk Try.prog 214 := ⟨Try.f214, _, Try.func214, rfl, by kernel_rfl⟩
end Go.Proofs.Ytjpfngmoabnffaa
