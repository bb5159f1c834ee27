/-
  Contracts, part 1.
-/
import Derived.Test.YtphgcnegmkafiaaKa8
import Derived.Test.YtphgcnegmkafiaaProg
set_option linter.unusedVariables false
set_option linter.unusedSimpArgs false
namespace Go.Proofs.Ytphgcnegmkafiaa
open Go Go.Vc Go.Proofs
theorem mo : Try.prog.follows .mixedOrders = true := by kernel_rfl
theorem sz2 : Sz Try.prog 2 1 := by unfold Sz; kernel_rfl
theorem pl2 : plainT Try.prog 2 = true := by kernel_rfl
theorem inf2 : Inf Try.prog 2 1 8 (.int .i64 0) := by unfold Inf; kernel_rfl
theorem zr2 : Zr Try.prog 2 (.int .i64 0) := by unfold Zr; kernel_rfl
theorem sz3 : Sz Try.prog 3 1 := by unfold Sz; kernel_rfl
theorem pl3 : plainT Try.prog 3 = true := by kernel_rfl
theorem sz22 : Sz Try.prog 22 1 := by unfold Sz; kernel_rfl
theorem pl22 : plainT Try.prog 22 = true := by kernel_rfl
theorem sz24 : Sz Try.prog 24 2 := by unfold Sz; kernel_rfl
theorem ag24 : aggT Try.prog 24 = true := by kernel_rfl
theorem sz28 : Sz Try.prog 28 1 := by unfold Sz; kernel_rfl
theorem pl28 : plainT Try.prog 28 = true := by kernel_rfl
theorem sz30 : Sz Try.prog 30 2 := by unfold Sz; kernel_rfl
theorem ag30 : aggT Try.prog 30 = true := by kernel_rfl
theorem zr30 : Zr Try.prog 30 (.agg #[.int .i64 0, .slice none 0 0]) := by unfold Zr; kernel_rfl
theorem sz54 : Sz Try.prog 54 1 := by unfold Sz; kernel_rfl
theorem pl54 : plainT Try.prog 54 = true := by kernel_rfl
theorem inf54 : Inf Try.prog 54 1 24 (.slice none 0 0) := by unfold Inf; kernel_rfl
theorem sz66 : Sz Try.prog 66 3 := by unfold Sz; kernel_rfl
theorem ag66 : aggT Try.prog 66 = true := by kernel_rfl
theorem sz67 : Sz Try.prog 67 3 := by unfold Sz; kernel_rfl
theorem ag67 : aggT Try.prog 67 = true := by kernel_rfl
theorem inf67 : Inf Try.prog 67 3 24 (.agg #[.int .i64 0, .int .i64 0, .int .i64 0]) := by unfold Inf; kernel_rfl
theorem zr67 : Zr Try.prog 67 (.agg #[.int .i64 0, .int .i64 0, .int .i64 0]) := by unfold Zr; kernel_rfl
theorem sz74 : Sz Try.prog 74 3 := by unfold Sz; kernel_rfl
theorem ag74 : aggT Try.prog 74 = true := by kernel_rfl
theorem inf74 : Inf Try.prog 74 3 56 (.agg #[.int .i64 0, .slice none 0 0, .slice none 0 0]) := by unfold Inf; kernel_rfl
theorem zr74 : Zr Try.prog 74 (.agg #[.int .i64 0, .slice none 0 0, .slice none 0 0]) := by unfold Zr; kernel_rfl
theorem zr150 : Zr Try.prog 150 (.agg #[.int .i64 0, .int .i64 0, .int .i64 0, .int .i64 0, .int .i64 0, .int .i64 0, .int .i64 0, .int .i64 0, .int .i64 0, .int .i64 0, .int .i64 0, .int .i64 0, .int .i64 0, .int .i64 0, .int .i64 0]) := by unfold Zr; kernel_rfl
theorem sz171 : Sz Try.prog 171 15 := by unfold Sz; kernel_rfl
theorem zr173 : Zr Try.prog 173 (.agg (List.replicate 225 (.int .i64 0)).toArray) := by unfold Zr; kernel_rfl
theorem call7 : CallOk Try.prog 7 := ⟨Try.f7, _, Try.func7, rfl, by kernel_rfl⟩
theorem call9 : CallOk Try.prog 9 := ⟨Try.f9, _, Try.func9, rfl, by kernel_rfl⟩
theorem call11 : CallOk Try.prog 11 := ⟨Try.f11, _, Try.func11, rfl, by kernel_rfl⟩
theorem call15 : CallOk Try.prog 15 := ⟨Try.f15, _, Try.func15, rfl, by kernel_rfl⟩
theorem call18 : CallOk Try.prog 18 := ⟨Try.f18, _, Try.func18, rfl, by kernel_rfl⟩
theorem call19 : CallOk Try.prog 19 := ⟨Try.f19, _, Try.func19, rfl, by kernel_rfl⟩
theorem call20 : CallOk Try.prog 20 := ⟨Try.f20, _, Try.func20, rfl, by kernel_rfl⟩
theorem call21 : CallOk Try.prog 21 := ⟨Try.f21, _, Try.func21, rfl, by kernel_rfl⟩
theorem call22 : CallOk Try.prog 22 := ⟨Try.f22, _, Try.func22, rfl, by kernel_rfl⟩
theorem call28 : CallOk Try.prog 28 := ⟨Try.f28, _, Try.func28, rfl, by kernel_rfl⟩
theorem call32 : CallOk Try.prog 32 := ⟨Try.f32, _, Try.func32, rfl, by kernel_rfl⟩
theorem call34 : CallOk Try.prog 34 := ⟨Try.f34, _, Try.func34, rfl, by kernel_rfl⟩
theorem call36 : CallOk Try.prog 36 := ⟨Try.f36, _, Try.func36, rfl, by kernel_rfl⟩
theorem call38 : CallOk Try.prog 38 := ⟨Try.f38, _, Try.func38, rfl, by kernel_rfl⟩
theorem call39 : CallOk Try.prog 39 := ⟨Try.f39, _, Try.func39, rfl, by kernel_rfl⟩
theorem call40 : CallOk Try.prog 40 := ⟨Try.f40, _, Try.func40, rfl, by kernel_rfl⟩
theorem call41 : CallOk Try.prog 41 := ⟨Try.f41, _, Try.func41, rfl, by kernel_rfl⟩
theorem call42 : CallOk Try.prog 42 := ⟨Try.f42, _, Try.func42, rfl, by kernel_rfl⟩
theorem call43 : CallOk Try.prog 43 := ⟨Try.f43, _, Try.func43, rfl, by kernel_rfl⟩
theorem call44 : CallOk Try.prog 44 := ⟨Try.f44, _, Try.func44, rfl, by kernel_rfl⟩
theorem call45 : CallOk Try.prog 45 := ⟨Try.f45, _, Try.func45, rfl, by kernel_rfl⟩
theorem call46 : CallOk Try.prog 46 := ⟨Try.f46, _, Try.func46, rfl, by kernel_rfl⟩
theorem call63 : CallOk Try.prog 63 := ⟨Try.f63, _, Try.func63, rfl, by kernel_rfl⟩
theorem call68 : CallOk Try.prog 68 := ⟨Try.f68, _, Try.func68, rfl, by kernel_rfl⟩
theorem call69 : CallOk Try.prog 69 := ⟨Try.f69, _, Try.func69, rfl, by kernel_rfl⟩
theorem call70 : CallOk Try.prog 70 := ⟨Try.f70, _, Try.func70, rfl, by kernel_rfl⟩
theorem call71 : CallOk Try.prog 71 := ⟨Try.f71, _, Try.func71, rfl, by kernel_rfl⟩
theorem call72 : CallOk Try.prog 72 := ⟨Try.f72, _, Try.func72, rfl, by kernel_rfl⟩
theorem call73 : CallOk Try.prog 73 := ⟨Try.f73, _, Try.func73, rfl, by kernel_rfl⟩
theorem call74 : CallOk Try.prog 74 := ⟨Try.f74, _, Try.func74, rfl, by kernel_rfl⟩
theorem call75 : CallOk Try.prog 75 := ⟨Try.f75, _, Try.func75, rfl, by kernel_rfl⟩
theorem call76 : CallOk Try.prog 76 := ⟨Try.f76, _, Try.func76, rfl, by kernel_rfl⟩
theorem call77 : CallOk Try.prog 77 := ⟨Try.f77, _, Try.func77, rfl, by kernel_rfl⟩
theorem call78 : CallOk Try.prog 78 := ⟨Try.f78, _, Try.func78, rfl, by kernel_rfl⟩
theorem call79 : CallOk Try.prog 79 := ⟨Try.f79, _, Try.func79, rfl, by kernel_rfl⟩
theorem call82 : CallOk Try.prog 82 := ⟨Try.f82, _, Try.func82, rfl, by kernel_rfl⟩
theorem call97 : CallOk Try.prog 97 := ⟨Try.f97, _, Try.func97, rfl, by kernel_rfl⟩
theorem call102 : CallOk Try.prog 102 := ⟨Try.f102, _, Try.func102, rfl, by kernel_rfl⟩
theorem call103 : CallOk Try.prog 103 := ⟨Try.f103, _, Try.func103, rfl, by kernel_rfl⟩
theorem call104 : CallOk Try.prog 104 := ⟨Try.f104, _, Try.func104, rfl, by kernel_rfl⟩
theorem call105 : CallOk Try.prog 105 := ⟨Try.f105, _, Try.func105, rfl, by kernel_rfl⟩
theorem call106 : CallOk Try.prog 106 := ⟨Try.f106, _, Try.func106, rfl, by kernel_rfl⟩
theorem call107 : CallOk Try.prog 107 := ⟨Try.f107, _, Try.func107, rfl, by kernel_rfl⟩
theorem call108 : CallOk Try.prog 108 := ⟨Try.f108, _, Try.func108, rfl, by kernel_rfl⟩
theorem call109 : CallOk Try.prog 109 := ⟨Try.f109, _, Try.func109, rfl, by kernel_rfl⟩
theorem call110 : CallOk Try.prog 110 := ⟨Try.f110, _, Try.func110, rfl, by kernel_rfl⟩
theorem call111 : CallOk Try.prog 111 := ⟨Try.f111, _, Try.func111, rfl, by kernel_rfl⟩
theorem call112 : CallOk Try.prog 112 := ⟨Try.f112, _, Try.func112, rfl, by kernel_rfl⟩
theorem call113 : CallOk Try.prog 113 := ⟨Try.f113, _, Try.func113, rfl, by kernel_rfl⟩
theorem call114 : CallOk Try.prog 114 := ⟨Try.f114, _, Try.func114, rfl, by kernel_rfl⟩
theorem call115 : CallOk Try.prog 115 := ⟨Try.f115, _, Try.func115, rfl, by kernel_rfl⟩
theorem call125 : CallOk Try.prog 125 := ⟨Try.f125, _, Try.func125, rfl, by kernel_rfl⟩
theorem call126 : CallOk Try.prog 126 := ⟨Try.f126, _, Try.func126, rfl, by kernel_rfl⟩
theorem call127 : CallOk Try.prog 127 := ⟨Try.f127, _, Try.func127, rfl, by kernel_rfl⟩
theorem call128 : CallOk Try.prog 128 := ⟨Try.f128, _, Try.func128, rfl, by kernel_rfl⟩
theorem call129 : CallOk Try.prog 129 := ⟨Try.f129, _, Try.func129, rfl, by kernel_rfl⟩
theorem call130 : CallOk Try.prog 130 := ⟨Try.f130, _, Try.func130, rfl, by kernel_rfl⟩
theorem call131 : CallOk Try.prog 131 := ⟨Try.f131, _, Try.func131, rfl, by kernel_rfl⟩
theorem call132 : CallOk Try.prog 132 := ⟨Try.f132, _, Try.func132, rfl, by kernel_rfl⟩
theorem call147 : CallOk Try.prog 147 := ⟨Try.f147, _, Try.func147, rfl, by kernel_rfl⟩
theorem call148 : CallOk Try.prog 148 := ⟨Try.f148, _, Try.func148, rfl, by kernel_rfl⟩
end Go.Proofs.Ytphgcnegmkafiaa
