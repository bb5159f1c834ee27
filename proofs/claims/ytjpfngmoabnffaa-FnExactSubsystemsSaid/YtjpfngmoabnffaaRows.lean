/-
  No cell of these rows narrows 'for every input' (looked for: loops, veiled, ifaces, maps, wideKeys, modest, calm, conditions, laid).
  DERIVED. THE GIVEN ROWS OF THIS SEAT. 12 by the template 'for every input the law returns true; each argument reads behind the call as it read before'; 0 by the template 'total and deterministic' (their statements: YtjpfngmoabnffaaTotals.lean).
  GIVEN WITH THE SEED: the statements are not yours to turn. If you find one false, say at which input.
  Laid BY PROGRAM, IN A SANDBOX (cutbox-rows.mjs): the forced cells as the released guide's own fill.sh prints them over the translation e8c63482e1fb0e77… (all of the seat's roots in one cut). By AI agents, Wed Nov 11 2026. No macro, syntax, notation, axiom, sorry.
-/
import Derived.Test.YtjpfngmoabnffaaChecked
import GoSem.Claim
import GoSem.ClaimJoined
import GoSem.ClaimMapViews
import Derived.JoinedTies
import Derived.KernelRfl
namespace Go.Proofs.Ytjpfngmoabnffaa
/- THE CELL 'sum', in the pinned program and in every row, IS THE sha256 OF THE DUMP (.gsa) THAT YtjpfngmoabnffaaProg.lean LOADS. Nothing in Lean hashes anything: it is a label: what it is worth is what the hold of that sum in a sandbox is worth. -/
noncomputable def Try.pinned : Pinned := { name := "ytjpfngmoabnffaa", sum := "e8c63482e1fb0e775a79878291a0a3b0beec8b3665cada0103b9ca97e62575c2", checked := Try.checked }
namespace Rows
def none {H : Type} : Left H := { results := [], args := [] }

/-- 'laws.FnExactCountResolutions': WHATEVER THE INPUT: true; the input reads as it did. -/
def fnExactCountResolutionsSpec : ChangeSpec := { name := "fnExactCountResolutions", fn := fun _ => fun
  | [d] => { results := [.lit (.bool true)], args := [d] }
  | _ => none }
def fnExactCountResolutionsRow : OpenClaim := { program := "ytjpfngmoabnffaa", sum := "e8c63482e1fb0e775a79878291a0a3b0beec8b3665cada0103b9ca97e62575c2", func := "loop.example/g01355/laws.FnExactCountResolutions", spec := "fnExactCountResolutions", unfollowed := true, recurses := true, apart := false }
def FnExactCountResolutionsSaid : Prop := fnExactCountResolutionsRow.holds Try.pinned (OpenSpec.ofChange fnExactCountResolutionsSpec)

/-- ITS FALSE NEIGHBOUR: 'it returns false'. Refute it at one input. -/
def fnExactCountResolutionsWrong : ChangeSpec := { name := "fnExactCountResolutions", fn := fun _ => fun
  | [d] => { results := [.lit (.bool false)], args := [d] }
  | _ => none }
def FnExactCountResolutionsWrongFalsely : Prop := fnExactCountResolutionsRow.holds Try.pinned (OpenSpec.ofChange fnExactCountResolutionsWrong)

/-- 'laws.FnExactNumberOfSystem': WHATEVER THE INPUT: true; the input reads as it did. -/
def fnExactNumberOfSystemSpec : ChangeSpec := { name := "fnExactNumberOfSystem", fn := fun _ => fun
  | [d] => { results := [.lit (.bool true)], args := [d] }
  | _ => none }
def fnExactNumberOfSystemRow : OpenClaim := { program := "ytjpfngmoabnffaa", sum := "e8c63482e1fb0e775a79878291a0a3b0beec8b3665cada0103b9ca97e62575c2", func := "loop.example/g01355/laws.FnExactNumberOfSystem", spec := "fnExactNumberOfSystem", unfollowed := true, recurses := true, apart := false }
def FnExactNumberOfSystemSaid : Prop := fnExactNumberOfSystemRow.holds Try.pinned (OpenSpec.ofChange fnExactNumberOfSystemSpec)

/-- ITS FALSE NEIGHBOUR: 'it returns false'. Refute it at one input. -/
def fnExactNumberOfSystemWrong : ChangeSpec := { name := "fnExactNumberOfSystem", fn := fun _ => fun
  | [d] => { results := [.lit (.bool false)], args := [d] }
  | _ => none }
def FnExactNumberOfSystemWrongFalsely : Prop := fnExactNumberOfSystemRow.holds Try.pinned (OpenSpec.ofChange fnExactNumberOfSystemWrong)

/-- 'laws.FnExactClassesWith': WHATEVER THE INPUT: true; the input reads as it did. -/
def fnExactClassesWithSpec : ChangeSpec := { name := "fnExactClassesWith", fn := fun _ => fun
  | [d1, d2] => { results := [.lit (.bool true)], args := [d1, d2] }
  | _ => none }
def fnExactClassesWithRow : OpenClaim := { program := "ytjpfngmoabnffaa", sum := "e8c63482e1fb0e775a79878291a0a3b0beec8b3665cada0103b9ca97e62575c2", func := "loop.example/g01355/laws.FnExactClassesWith", spec := "fnExactClassesWith", unfollowed := true, recurses := true, apart := false }
def FnExactClassesWithSaid : Prop := fnExactClassesWithRow.holds Try.pinned (OpenSpec.ofChange fnExactClassesWithSpec)

/-- ITS FALSE NEIGHBOUR: 'it returns false'. Refute it at one input. -/
def fnExactClassesWithWrong : ChangeSpec := { name := "fnExactClassesWith", fn := fun _ => fun
  | [d1, d2] => { results := [.lit (.bool false)], args := [d1, d2] }
  | _ => none }
def FnExactClassesWithWrongFalsely : Prop := fnExactClassesWithRow.holds Try.pinned (OpenSpec.ofChange fnExactClassesWithWrong)

/-- 'laws.FnExactFirstApart': WHATEVER THE INPUT: true; the input reads as it did. -/
def fnExactFirstApartSpec : ChangeSpec := { name := "fnExactFirstApart", fn := fun _ => fun
  | [d] => { results := [.lit (.bool true)], args := [d] }
  | _ => none }
def fnExactFirstApartRow : OpenClaim := { program := "ytjpfngmoabnffaa", sum := "e8c63482e1fb0e775a79878291a0a3b0beec8b3665cada0103b9ca97e62575c2", func := "loop.example/g01355/laws.FnExactFirstApart", spec := "fnExactFirstApart", unfollowed := true, recurses := true, apart := false }
def FnExactFirstApartSaid : Prop := fnExactFirstApartRow.holds Try.pinned (OpenSpec.ofChange fnExactFirstApartSpec)

/-- ITS FALSE NEIGHBOUR: 'it returns false'. Refute it at one input. -/
def fnExactFirstApartWrong : ChangeSpec := { name := "fnExactFirstApart", fn := fun _ => fun
  | [d] => { results := [.lit (.bool false)], args := [d] }
  | _ => none }
def FnExactFirstApartWrongFalsely : Prop := fnExactFirstApartRow.holds Try.pinned (OpenSpec.ofChange fnExactFirstApartWrong)

/-- 'laws.FnExactCommonNumbers': WHATEVER THE INPUT: true; the input reads as it did. -/
def fnExactCommonNumbersSpec : ChangeSpec := { name := "fnExactCommonNumbers", fn := fun _ => fun
  | [d] => { results := [.lit (.bool true)], args := [d] }
  | _ => none }
def fnExactCommonNumbersRow : OpenClaim := { program := "ytjpfngmoabnffaa", sum := "e8c63482e1fb0e775a79878291a0a3b0beec8b3665cada0103b9ca97e62575c2", func := "loop.example/g01355/laws.FnExactCommonNumbers", spec := "fnExactCommonNumbers", unfollowed := true, recurses := true, apart := false }
def FnExactCommonNumbersSaid : Prop := fnExactCommonNumbersRow.holds Try.pinned (OpenSpec.ofChange fnExactCommonNumbersSpec)

/-- ITS FALSE NEIGHBOUR: 'it returns false'. Refute it at one input. -/
def fnExactCommonNumbersWrong : ChangeSpec := { name := "fnExactCommonNumbers", fn := fun _ => fun
  | [d] => { results := [.lit (.bool false)], args := [d] }
  | _ => none }
def FnExactCommonNumbersWrongFalsely : Prop := fnExactCommonNumbersRow.holds Try.pinned (OpenSpec.ofChange fnExactCommonNumbersWrong)

/-- 'laws.FnExactLeastFixing': WHATEVER THE INPUT: true; the input reads as it did. -/
def fnExactLeastFixingSpec : ChangeSpec := { name := "fnExactLeastFixing", fn := fun _ => fun
  | [d] => { results := [.lit (.bool true)], args := [d] }
  | _ => none }
def fnExactLeastFixingRow : OpenClaim := { program := "ytjpfngmoabnffaa", sum := "e8c63482e1fb0e775a79878291a0a3b0beec8b3665cada0103b9ca97e62575c2", func := "loop.example/g01355/laws.FnExactLeastFixing", spec := "fnExactLeastFixing", unfollowed := true, recurses := true, apart := false }
def FnExactLeastFixingSaid : Prop := fnExactLeastFixingRow.holds Try.pinned (OpenSpec.ofChange fnExactLeastFixingSpec)

/-- ITS FALSE NEIGHBOUR: 'it returns false'. Refute it at one input. -/
def fnExactLeastFixingWrong : ChangeSpec := { name := "fnExactLeastFixing", fn := fun _ => fun
  | [d] => { results := [.lit (.bool false)], args := [d] }
  | _ => none }
def FnExactLeastFixingWrongFalsely : Prop := fnExactLeastFixingRow.holds Try.pinned (OpenSpec.ofChange fnExactLeastFixingWrong)

/-- 'laws.FnExactFirstResolution': WHATEVER THE INPUT: true; the input reads as it did. -/
def fnExactFirstResolutionSpec : ChangeSpec := { name := "fnExactFirstResolution", fn := fun _ => fun
  | [d] => { results := [.lit (.bool true)], args := [d] }
  | _ => none }
def fnExactFirstResolutionRow : OpenClaim := { program := "ytjpfngmoabnffaa", sum := "e8c63482e1fb0e775a79878291a0a3b0beec8b3665cada0103b9ca97e62575c2", func := "loop.example/g01355/laws.FnExactFirstResolution", spec := "fnExactFirstResolution", unfollowed := true, recurses := true, apart := false }
def FnExactFirstResolutionSaid : Prop := fnExactFirstResolutionRow.holds Try.pinned (OpenSpec.ofChange fnExactFirstResolutionSpec)

/-- ITS FALSE NEIGHBOUR: 'it returns false'. Refute it at one input. -/
def fnExactFirstResolutionWrong : ChangeSpec := { name := "fnExactFirstResolution", fn := fun _ => fun
  | [d] => { results := [.lit (.bool false)], args := [d] }
  | _ => none }
def FnExactFirstResolutionWrongFalsely : Prop := fnExactFirstResolutionRow.holds Try.pinned (OpenSpec.ofChange fnExactFirstResolutionWrong)

/-- 'laws.FnExactPointsOfTrade': WHATEVER THE INPUT: true; the input reads as it did. -/
def fnExactPointsOfTradeSpec : ChangeSpec := { name := "fnExactPointsOfTrade", fn := fun _ => fun
  | [d] => { results := [.lit (.bool true)], args := [d] }
  | _ => none }
def fnExactPointsOfTradeRow : OpenClaim := { program := "ytjpfngmoabnffaa", sum := "e8c63482e1fb0e775a79878291a0a3b0beec8b3665cada0103b9ca97e62575c2", func := "loop.example/g01355/laws.FnExactPointsOfTrade", spec := "fnExactPointsOfTrade", unfollowed := true, recurses := true, apart := false }
def FnExactPointsOfTradeSaid : Prop := fnExactPointsOfTradeRow.holds Try.pinned (OpenSpec.ofChange fnExactPointsOfTradeSpec)

/-- ITS FALSE NEIGHBOUR: 'it returns false'. Refute it at one input. -/
def fnExactPointsOfTradeWrong : ChangeSpec := { name := "fnExactPointsOfTrade", fn := fun _ => fun
  | [d] => { results := [.lit (.bool false)], args := [d] }
  | _ => none }
def FnExactPointsOfTradeWrongFalsely : Prop := fnExactPointsOfTradeRow.holds Try.pinned (OpenSpec.ofChange fnExactPointsOfTradeWrong)

/-- 'laws.FnExactIsResolution': WHATEVER THE INPUT: true; the input reads as it did. -/
def fnExactIsResolutionSpec : ChangeSpec := { name := "fnExactIsResolution", fn := fun _ => fun
  | [d1, d2] => { results := [.lit (.bool true)], args := [d1, d2] }
  | _ => none }
def fnExactIsResolutionRow : OpenClaim := { program := "ytjpfngmoabnffaa", sum := "e8c63482e1fb0e775a79878291a0a3b0beec8b3665cada0103b9ca97e62575c2", func := "loop.example/g01355/laws.FnExactIsResolution", spec := "fnExactIsResolution", unfollowed := true, recurses := true, apart := false }
def FnExactIsResolutionSaid : Prop := fnExactIsResolutionRow.holds Try.pinned (OpenSpec.ofChange fnExactIsResolutionSpec)

/-- ITS FALSE NEIGHBOUR: 'it returns false'. Refute it at one input. -/
def fnExactIsResolutionWrong : ChangeSpec := { name := "fnExactIsResolution", fn := fun _ => fun
  | [d1, d2] => { results := [.lit (.bool false)], args := [d1, d2] }
  | _ => none }
def FnExactIsResolutionWrongFalsely : Prop := fnExactIsResolutionRow.holds Try.pinned (OpenSpec.ofChange fnExactIsResolutionWrong)

/-- 'laws.FnExactMitreCentres': WHATEVER THE INPUT: true; the input reads as it did. -/
def fnExactMitreCentresSpec : ChangeSpec := { name := "fnExactMitreCentres", fn := fun _ => fun
  | [d] => { results := [.lit (.bool true)], args := [d] }
  | _ => none }
def fnExactMitreCentresRow : OpenClaim := { program := "ytjpfngmoabnffaa", sum := "e8c63482e1fb0e775a79878291a0a3b0beec8b3665cada0103b9ca97e62575c2", func := "loop.example/g01355/laws.FnExactMitreCentres", spec := "fnExactMitreCentres", unfollowed := true, recurses := true, apart := false }
def FnExactMitreCentresSaid : Prop := fnExactMitreCentresRow.holds Try.pinned (OpenSpec.ofChange fnExactMitreCentresSpec)

/-- ITS FALSE NEIGHBOUR: 'it returns false'. Refute it at one input. -/
def fnExactMitreCentresWrong : ChangeSpec := { name := "fnExactMitreCentres", fn := fun _ => fun
  | [d] => { results := [.lit (.bool false)], args := [d] }
  | _ => none }
def FnExactMitreCentresWrongFalsely : Prop := fnExactMitreCentresRow.holds Try.pinned (OpenSpec.ofChange fnExactMitreCentresWrong)

/-- 'laws.FnExactSubsystems': WHATEVER THE INPUT: true; the input reads as it did. -/
def fnExactSubsystemsSpec : ChangeSpec := { name := "fnExactSubsystems", fn := fun _ => fun
  | [d] => { results := [.lit (.bool true)], args := [d] }
  | _ => none }
def fnExactSubsystemsRow : OpenClaim := { program := "ytjpfngmoabnffaa", sum := "e8c63482e1fb0e775a79878291a0a3b0beec8b3665cada0103b9ca97e62575c2", func := "loop.example/g01355/laws.FnExactSubsystems", spec := "fnExactSubsystems", unfollowed := true, recurses := true, apart := false }
def FnExactSubsystemsSaid : Prop := fnExactSubsystemsRow.holds Try.pinned (OpenSpec.ofChange fnExactSubsystemsSpec)

/-- ITS FALSE NEIGHBOUR: 'it returns false'. Refute it at one input. -/
def fnExactSubsystemsWrong : ChangeSpec := { name := "fnExactSubsystems", fn := fun _ => fun
  | [d] => { results := [.lit (.bool false)], args := [d] }
  | _ => none }
def FnExactSubsystemsWrongFalsely : Prop := fnExactSubsystemsRow.holds Try.pinned (OpenSpec.ofChange fnExactSubsystemsWrong)

/-- 'laws.FnExactCountFamilies': WHATEVER THE INPUT: true; the input reads as it did. -/
def fnExactCountFamiliesSpec : ChangeSpec := { name := "fnExactCountFamilies", fn := fun _ => fun
  | [d] => { results := [.lit (.bool true)], args := [d] }
  | _ => none }
def fnExactCountFamiliesRow : OpenClaim := { program := "ytjpfngmoabnffaa", sum := "e8c63482e1fb0e775a79878291a0a3b0beec8b3665cada0103b9ca97e62575c2", func := "loop.example/g01355/laws.FnExactCountFamilies", spec := "fnExactCountFamilies", unfollowed := true, recurses := true, apart := false }
def FnExactCountFamiliesSaid : Prop := fnExactCountFamiliesRow.holds Try.pinned (OpenSpec.ofChange fnExactCountFamiliesSpec)

/-- ITS FALSE NEIGHBOUR: 'it returns false'. Refute it at one input. -/
def fnExactCountFamiliesWrong : ChangeSpec := { name := "fnExactCountFamilies", fn := fun _ => fun
  | [d] => { results := [.lit (.bool false)], args := [d] }
  | _ => none }
def FnExactCountFamiliesWrongFalsely : Prop := fnExactCountFamiliesRow.holds Try.pinned (OpenSpec.ofChange fnExactCountFamiliesWrong)

/- THE SECOND FORM. 'bulk': how many values and letters a reading holds, each counted each time it is reached (what is shared counts as often as it is met; a slice's spare places count too). A statement '..UptoSaid' is the law's where the arguments, and the package variables that the reading takes, are together of bulk at most 1048576: NARROWER than '..Said'. Prove '..Said' where nothing that the law and all that it calls make is longer than what came in: it says more and counts as full. Else prove '..UptoSaid'. A law counts once. -/
mutual
def uptoBulk {H : Type} : DataW H → Nat
  | .lit (.string bytes) => bytes.length + 1
  | .lit _ => 1
  | .nil => 1
  | .ptr d => uptoBulk d + 1
  | .slice elems spare => uptoBulkAll elems + uptoBulkAll spare + 1
  | .agg parts => uptoBulkAll parts + 1
  | .iface _ d => uptoBulk d + 1
  | .map entries => uptoBulkEntries entries + 1
  | .held _ => 1
def uptoBulkAll {H : Type} : List (DataW H) → Nat
  | [] => 0
  | d :: r => uptoBulk d + uptoBulkAll r
def uptoBulkEntries {H : Type} : List (Lit × DataW H) → Nat
  | [] => 0
  | x :: r => uptoBulkEntry x + uptoBulkEntries r
def uptoBulkEntry {H : Type} : Lit × DataW H → Nat
  | (.string bytes, d) => bytes.length + uptoBulk d + 1
  | (_, d) => uptoBulk d + 1
 end
def uptoSmall : (H : Type) → List (DataW H) → Bool := fun _ ds => decide (uptoBulkAll ds ≤ 1048576)
def OpenSpec.upto (s : _root_.Go.ChangeSpec) : _root_.Go.OpenSpec := { _root_.Go.OpenSpec.ofChange s with cond := some uptoSmall }

/-- 'laws.FnExactCountResolutions', WHERE WHAT IT READS IS OF BULK AT MOST 1048576: true; the input reads as it did. -/
def fnExactCountResolutionsUptoRow : OpenClaim := { program := "ytjpfngmoabnffaa", sum := "e8c63482e1fb0e775a79878291a0a3b0beec8b3665cada0103b9ca97e62575c2", func := "loop.example/g01355/laws.FnExactCountResolutions", spec := "fnExactCountResolutions", unfollowed := true, recurses := true, apart := false, narrowed := true }
def FnExactCountResolutionsUptoSaid : Prop := fnExactCountResolutionsUptoRow.holds Try.pinned (OpenSpec.upto fnExactCountResolutionsSpec)

/-- 'laws.FnExactNumberOfSystem', WHERE WHAT IT READS IS OF BULK AT MOST 1048576: true; the input reads as it did. -/
def fnExactNumberOfSystemUptoRow : OpenClaim := { program := "ytjpfngmoabnffaa", sum := "e8c63482e1fb0e775a79878291a0a3b0beec8b3665cada0103b9ca97e62575c2", func := "loop.example/g01355/laws.FnExactNumberOfSystem", spec := "fnExactNumberOfSystem", unfollowed := true, recurses := true, apart := false, narrowed := true }
def FnExactNumberOfSystemUptoSaid : Prop := fnExactNumberOfSystemUptoRow.holds Try.pinned (OpenSpec.upto fnExactNumberOfSystemSpec)

/-- 'laws.FnExactClassesWith', WHERE WHAT IT READS IS OF BULK AT MOST 1048576: true; the input reads as it did. -/
def fnExactClassesWithUptoRow : OpenClaim := { program := "ytjpfngmoabnffaa", sum := "e8c63482e1fb0e775a79878291a0a3b0beec8b3665cada0103b9ca97e62575c2", func := "loop.example/g01355/laws.FnExactClassesWith", spec := "fnExactClassesWith", unfollowed := true, recurses := true, apart := false, narrowed := true }
def FnExactClassesWithUptoSaid : Prop := fnExactClassesWithUptoRow.holds Try.pinned (OpenSpec.upto fnExactClassesWithSpec)

/-- 'laws.FnExactFirstApart', WHERE WHAT IT READS IS OF BULK AT MOST 1048576: true; the input reads as it did. -/
def fnExactFirstApartUptoRow : OpenClaim := { program := "ytjpfngmoabnffaa", sum := "e8c63482e1fb0e775a79878291a0a3b0beec8b3665cada0103b9ca97e62575c2", func := "loop.example/g01355/laws.FnExactFirstApart", spec := "fnExactFirstApart", unfollowed := true, recurses := true, apart := false, narrowed := true }
def FnExactFirstApartUptoSaid : Prop := fnExactFirstApartUptoRow.holds Try.pinned (OpenSpec.upto fnExactFirstApartSpec)

/-- 'laws.FnExactCommonNumbers', WHERE WHAT IT READS IS OF BULK AT MOST 1048576: true; the input reads as it did. -/
def fnExactCommonNumbersUptoRow : OpenClaim := { program := "ytjpfngmoabnffaa", sum := "e8c63482e1fb0e775a79878291a0a3b0beec8b3665cada0103b9ca97e62575c2", func := "loop.example/g01355/laws.FnExactCommonNumbers", spec := "fnExactCommonNumbers", unfollowed := true, recurses := true, apart := false, narrowed := true }
def FnExactCommonNumbersUptoSaid : Prop := fnExactCommonNumbersUptoRow.holds Try.pinned (OpenSpec.upto fnExactCommonNumbersSpec)

/-- 'laws.FnExactLeastFixing', WHERE WHAT IT READS IS OF BULK AT MOST 1048576: true; the input reads as it did. -/
def fnExactLeastFixingUptoRow : OpenClaim := { program := "ytjpfngmoabnffaa", sum := "e8c63482e1fb0e775a79878291a0a3b0beec8b3665cada0103b9ca97e62575c2", func := "loop.example/g01355/laws.FnExactLeastFixing", spec := "fnExactLeastFixing", unfollowed := true, recurses := true, apart := false, narrowed := true }
def FnExactLeastFixingUptoSaid : Prop := fnExactLeastFixingUptoRow.holds Try.pinned (OpenSpec.upto fnExactLeastFixingSpec)

/-- 'laws.FnExactFirstResolution', WHERE WHAT IT READS IS OF BULK AT MOST 1048576: true; the input reads as it did. -/
def fnExactFirstResolutionUptoRow : OpenClaim := { program := "ytjpfngmoabnffaa", sum := "e8c63482e1fb0e775a79878291a0a3b0beec8b3665cada0103b9ca97e62575c2", func := "loop.example/g01355/laws.FnExactFirstResolution", spec := "fnExactFirstResolution", unfollowed := true, recurses := true, apart := false, narrowed := true }
def FnExactFirstResolutionUptoSaid : Prop := fnExactFirstResolutionUptoRow.holds Try.pinned (OpenSpec.upto fnExactFirstResolutionSpec)

/-- 'laws.FnExactPointsOfTrade', WHERE WHAT IT READS IS OF BULK AT MOST 1048576: true; the input reads as it did. -/
def fnExactPointsOfTradeUptoRow : OpenClaim := { program := "ytjpfngmoabnffaa", sum := "e8c63482e1fb0e775a79878291a0a3b0beec8b3665cada0103b9ca97e62575c2", func := "loop.example/g01355/laws.FnExactPointsOfTrade", spec := "fnExactPointsOfTrade", unfollowed := true, recurses := true, apart := false, narrowed := true }
def FnExactPointsOfTradeUptoSaid : Prop := fnExactPointsOfTradeUptoRow.holds Try.pinned (OpenSpec.upto fnExactPointsOfTradeSpec)

/-- 'laws.FnExactIsResolution', WHERE WHAT IT READS IS OF BULK AT MOST 1048576: true; the input reads as it did. -/
def fnExactIsResolutionUptoRow : OpenClaim := { program := "ytjpfngmoabnffaa", sum := "e8c63482e1fb0e775a79878291a0a3b0beec8b3665cada0103b9ca97e62575c2", func := "loop.example/g01355/laws.FnExactIsResolution", spec := "fnExactIsResolution", unfollowed := true, recurses := true, apart := false, narrowed := true }
def FnExactIsResolutionUptoSaid : Prop := fnExactIsResolutionUptoRow.holds Try.pinned (OpenSpec.upto fnExactIsResolutionSpec)

/-- 'laws.FnExactMitreCentres', WHERE WHAT IT READS IS OF BULK AT MOST 1048576: true; the input reads as it did. -/
def fnExactMitreCentresUptoRow : OpenClaim := { program := "ytjpfngmoabnffaa", sum := "e8c63482e1fb0e775a79878291a0a3b0beec8b3665cada0103b9ca97e62575c2", func := "loop.example/g01355/laws.FnExactMitreCentres", spec := "fnExactMitreCentres", unfollowed := true, recurses := true, apart := false, narrowed := true }
def FnExactMitreCentresUptoSaid : Prop := fnExactMitreCentresUptoRow.holds Try.pinned (OpenSpec.upto fnExactMitreCentresSpec)

/-- 'laws.FnExactSubsystems', WHERE WHAT IT READS IS OF BULK AT MOST 1048576: true; the input reads as it did. -/
def fnExactSubsystemsUptoRow : OpenClaim := { program := "ytjpfngmoabnffaa", sum := "e8c63482e1fb0e775a79878291a0a3b0beec8b3665cada0103b9ca97e62575c2", func := "loop.example/g01355/laws.FnExactSubsystems", spec := "fnExactSubsystems", unfollowed := true, recurses := true, apart := false, narrowed := true }
def FnExactSubsystemsUptoSaid : Prop := fnExactSubsystemsUptoRow.holds Try.pinned (OpenSpec.upto fnExactSubsystemsSpec)

/-- 'laws.FnExactCountFamilies', WHERE WHAT IT READS IS OF BULK AT MOST 1048576: true; the input reads as it did. -/
def fnExactCountFamiliesUptoRow : OpenClaim := { program := "ytjpfngmoabnffaa", sum := "e8c63482e1fb0e775a79878291a0a3b0beec8b3665cada0103b9ca97e62575c2", func := "loop.example/g01355/laws.FnExactCountFamilies", spec := "fnExactCountFamilies", unfollowed := true, recurses := true, apart := false, narrowed := true }
def FnExactCountFamiliesUptoSaid : Prop := fnExactCountFamiliesUptoRow.holds Try.pinned (OpenSpec.upto fnExactCountFamiliesSpec)

end Rows
end Go.Proofs.Ytjpfngmoabnffaa
