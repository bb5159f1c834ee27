/-
  Contracts, part 1.
-/
import Derived.Test.YtnngcemighmikaaKa4
import Derived.Test.YtnngcemighmikaaProg
set_option linter.unusedVariables false
set_option linter.unusedSimpArgs false
namespace Go.Proofs.Ytnngcemighmikaa
open Go Go.Vc Go.Proofs
theorem mo : Try.prog.follows .mixedOrders = true := by kernel_rfl
theorem sz2 : Sz Try.prog 2 1 := by unfold Sz; kernel_rfl
theorem pl2 : plainT Try.prog 2 = true := by kernel_rfl
theorem sz26 : Sz Try.prog 26 1 := by unfold Sz; kernel_rfl
theorem pl26 : plainT Try.prog 26 = true := by kernel_rfl
theorem sz28 : Sz Try.prog 28 2 := by unfold Sz; kernel_rfl
theorem ag28 : aggT Try.prog 28 = true := by kernel_rfl
theorem zr28 : Zr Try.prog 28 (.agg #[.int .i64 0, .slice none 0 0]) := by unfold Zr; kernel_rfl
theorem sz39 : Sz Try.prog 39 4 := by unfold Sz; kernel_rfl
theorem ag39 : aggT Try.prog 39 = true := by kernel_rfl
theorem zr39 : Zr Try.prog 39 (.agg #[.int .i64 0, .slice none 0 0, .int .i64 0, .slice none 0 0]) := by unfold Zr; kernel_rfl
theorem sz70 : Sz Try.prog 70 3 := by unfold Sz; kernel_rfl
theorem ag70 : aggT Try.prog 70 = true := by kernel_rfl
theorem inf70 : Inf Try.prog 70 3 24 (.agg #[.int .i64 0, .int .i64 0, .int .i64 0]) := by unfold Inf; kernel_rfl
theorem zr70 : Zr Try.prog 70 (.agg #[.int .i64 0, .int .i64 0, .int .i64 0]) := by unfold Zr; kernel_rfl
theorem call12 : CallOk Try.prog 12 := ⟨Try.f12, _, Try.func12, rfl, by kernel_rfl⟩
theorem call13 : CallOk Try.prog 13 := ⟨Try.f13, _, Try.func13, rfl, by kernel_rfl⟩
theorem call14 : CallOk Try.prog 14 := ⟨Try.f14, _, Try.func14, rfl, by kernel_rfl⟩
theorem call17 : CallOk Try.prog 17 := ⟨Try.f17, _, Try.func17, rfl, by kernel_rfl⟩
theorem call18 : CallOk Try.prog 18 := ⟨Try.f18, _, Try.func18, rfl, by kernel_rfl⟩
theorem call19 : CallOk Try.prog 19 := ⟨Try.f19, _, Try.func19, rfl, by kernel_rfl⟩
theorem call20 : CallOk Try.prog 20 := ⟨Try.f20, _, Try.func20, rfl, by kernel_rfl⟩
theorem call21 : CallOk Try.prog 21 := ⟨Try.f21, _, Try.func21, rfl, by kernel_rfl⟩
theorem call40 : CallOk Try.prog 40 := ⟨Try.f40, _, Try.func40, rfl, by kernel_rfl⟩
theorem call41 : CallOk Try.prog 41 := ⟨Try.f41, _, Try.func41, rfl, by kernel_rfl⟩
theorem call42 : CallOk Try.prog 42 := ⟨Try.f42, _, Try.func42, rfl, by kernel_rfl⟩
theorem call45 : CallOk Try.prog 45 := ⟨Try.f45, _, Try.func45, rfl, by kernel_rfl⟩
theorem call46 : CallOk Try.prog 46 := ⟨Try.f46, _, Try.func46, rfl, by kernel_rfl⟩
theorem call50 : CallOk Try.prog 50 := ⟨Try.f50, _, Try.func50, rfl, by kernel_rfl⟩
theorem call64 : CallOk Try.prog 64 := ⟨Try.f64, _, Try.func64, rfl, by kernel_rfl⟩
theorem call70 : CallOk Try.prog 70 := ⟨Try.f70, _, Try.func70, rfl, by kernel_rfl⟩
theorem call72 : CallOk Try.prog 72 := ⟨Try.f72, _, Try.func72, rfl, by kernel_rfl⟩
theorem call73 : CallOk Try.prog 73 := ⟨Try.f73, _, Try.func73, rfl, by kernel_rfl⟩
theorem call74 : CallOk Try.prog 74 := ⟨Try.f74, _, Try.func74, rfl, by kernel_rfl⟩
theorem call79 : CallOk Try.prog 79 := ⟨Try.f79, _, Try.func79, rfl, by kernel_rfl⟩
theorem call82 : CallOk Try.prog 82 := ⟨Try.f82, _, Try.func82, rfl, by kernel_rfl⟩
theorem call83 : CallOk Try.prog 83 := ⟨Try.f83, _, Try.func83, rfl, by kernel_rfl⟩
theorem call87 : CallOk Try.prog 87 := ⟨Try.f87, _, Try.func87, rfl, by kernel_rfl⟩
theorem call89 : CallOk Try.prog 89 := ⟨Try.f89, _, Try.func89, rfl, by kernel_rfl⟩
theorem call90 : CallOk Try.prog 90 := ⟨Try.f90, _, Try.func90, rfl, by kernel_rfl⟩
theorem call91 : CallOk Try.prog 91 := ⟨Try.f91, _, Try.func91, rfl, by kernel_rfl⟩
theorem call92 : CallOk Try.prog 92 := ⟨Try.f92, _, Try.func92, rfl, by kernel_rfl⟩
theorem call96 : CallOk Try.prog 96 := ⟨Try.f96, _, Try.func96, rfl, by kernel_rfl⟩
theorem call97 : CallOk Try.prog 97 := ⟨Try.f97, _, Try.func97, rfl, by kernel_rfl⟩
theorem call98 : CallOk Try.prog 98 := ⟨Try.f98, _, Try.func98, rfl, by kernel_rfl⟩
theorem call105 : CallOk Try.prog 105 := ⟨Try.f105, _, Try.func105, rfl, by kernel_rfl⟩
theorem call112 : CallOk Try.prog 112 := ⟨Try.f112, _, Try.func112, rfl, by kernel_rfl⟩
theorem call133 : CallOk Try.prog 133 := ⟨Try.f133, _, Try.func133, rfl, by kernel_rfl⟩
end Go.Proofs.Ytnngcemighmikaa
