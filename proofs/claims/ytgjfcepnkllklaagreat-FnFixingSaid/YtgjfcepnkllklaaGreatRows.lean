/-
  No cell of these rows narrows 'for every input' (looked for: loops, veiled, ifaces, maps, wideKeys, modest, calm, conditions, laid).
  DERIVED. THE GIVEN ROWS OF THIS SEAT. 4 by the template 'for every input the law returns true; each argument reads behind the call as it read before'; 0 by the template 'total and deterministic' (their statements: YtgjfcepnkllklaaGreatTotals.lean).
  GIVEN WITH THE SEED: the statements are not yours to turn. If you find one false, say at which input.
  Laid BY PROGRAM, IN A SANDBOX (cutbox-rows.mjs): the forced cells as the released guide's own fill.sh prints them over the translation 2e410955a09033b0… (all of the seat's roots in one cut). By AI agents, Wed Nov 11 2026. No macro, syntax, notation, axiom, sorry.
-/
import Derived.Test.YtgjfcepnkllklaaGreatChecked
import GoSem.Claim
import GoSem.ClaimJoined
import GoSem.ClaimMapViews
import Derived.JoinedTies
import Derived.KernelRfl
namespace Go.Proofs.YtgjfcepnkllklaaGreat
/- THE CELL 'sum', in the pinned program and in every row, IS THE sha256 OF THE DUMP (.gsa) THAT YtgjfcepnkllklaaGreatProg.lean LOADS. Nothing in Lean hashes anything: it is a label: what it is worth is what the hold of that sum in a sandbox is worth. -/
noncomputable def Tryz.pinned : Pinned := { name := "ytgjfcepnkllklaagreat", sum := "2e410955a09033b0ba2039a49ec5dd83f473914e5886303e04b414025a199f68", checked := Tryz.checked }
namespace Rows
def none {H : Type} : Left H := { results := [], args := [] }

/-- 'laws.FnShapes': WHATEVER THE INPUT: true; the input reads as it did. -/
def fnShapesSpec : ChangeSpec := { name := "fnShapes", fn := fun _ => fun
  | [d] => { results := [.lit (.bool true)], args := [d] }
  | _ => none }
def fnShapesRow : OpenClaim := { program := "ytgjfcepnkllklaagreat", sum := "2e410955a09033b0ba2039a49ec5dd83f473914e5886303e04b414025a199f68", func := "loop.example/g01355/laws.FnShapes", spec := "fnShapes", unfollowed := true, recurses := true, apart := false }
def FnShapesSaid : Prop := fnShapesRow.holds Tryz.pinned (OpenSpec.ofChange fnShapesSpec)

/-- ITS FALSE NEIGHBOUR: 'it returns false'. Refute it at one input. -/
def fnShapesWrong : ChangeSpec := { name := "fnShapes", fn := fun _ => fun
  | [d] => { results := [.lit (.bool false)], args := [d] }
  | _ => none }
def FnShapesWrongFalsely : Prop := fnShapesRow.holds Tryz.pinned (OpenSpec.ofChange fnShapesWrong)

/-- 'laws.FnSubsystems': WHATEVER THE INPUT: true; the input reads as it did. -/
def fnSubsystemsSpec : ChangeSpec := { name := "fnSubsystems", fn := fun _ => fun
  | [d] => { results := [.lit (.bool true)], args := [d] }
  | _ => none }
def fnSubsystemsRow : OpenClaim := { program := "ytgjfcepnkllklaagreat", sum := "2e410955a09033b0ba2039a49ec5dd83f473914e5886303e04b414025a199f68", func := "loop.example/g01355/laws.FnSubsystems", spec := "fnSubsystems", unfollowed := true, recurses := true, apart := false }
def FnSubsystemsSaid : Prop := fnSubsystemsRow.holds Tryz.pinned (OpenSpec.ofChange fnSubsystemsSpec)

/-- ITS FALSE NEIGHBOUR: 'it returns false'. Refute it at one input. -/
def fnSubsystemsWrong : ChangeSpec := { name := "fnSubsystems", fn := fun _ => fun
  | [d] => { results := [.lit (.bool false)], args := [d] }
  | _ => none }
def FnSubsystemsWrongFalsely : Prop := fnSubsystemsRow.holds Tryz.pinned (OpenSpec.ofChange fnSubsystemsWrong)

/-- 'laws.FnFixing': WHATEVER THE INPUT: true; the input reads as it did. -/
def fnFixingSpec : ChangeSpec := { name := "fnFixing", fn := fun _ => fun
  | [d] => { results := [.lit (.bool true)], args := [d] }
  | _ => none }
def fnFixingRow : OpenClaim := { program := "ytgjfcepnkllklaagreat", sum := "2e410955a09033b0ba2039a49ec5dd83f473914e5886303e04b414025a199f68", func := "loop.example/g01355/laws.FnFixing", spec := "fnFixing", unfollowed := true, recurses := true, apart := false }
def FnFixingSaid : Prop := fnFixingRow.holds Tryz.pinned (OpenSpec.ofChange fnFixingSpec)

/-- ITS FALSE NEIGHBOUR: 'it returns false'. Refute it at one input. -/
def fnFixingWrong : ChangeSpec := { name := "fnFixing", fn := fun _ => fun
  | [d] => { results := [.lit (.bool false)], args := [d] }
  | _ => none }
def FnFixingWrongFalsely : Prop := fnFixingRow.holds Tryz.pinned (OpenSpec.ofChange fnFixingWrong)

/-- 'laws.FnClasses': WHATEVER THE INPUT: true; the input reads as it did. -/
def fnClassesSpec : ChangeSpec := { name := "fnClasses", fn := fun _ => fun
  | [d] => { results := [.lit (.bool true)], args := [d] }
  | _ => none }
def fnClassesRow : OpenClaim := { program := "ytgjfcepnkllklaagreat", sum := "2e410955a09033b0ba2039a49ec5dd83f473914e5886303e04b414025a199f68", func := "loop.example/g01355/laws.FnClasses", spec := "fnClasses", unfollowed := true, recurses := true, apart := false }
def FnClassesSaid : Prop := fnClassesRow.holds Tryz.pinned (OpenSpec.ofChange fnClassesSpec)

/-- ITS FALSE NEIGHBOUR: 'it returns false'. Refute it at one input. -/
def fnClassesWrong : ChangeSpec := { name := "fnClasses", fn := fun _ => fun
  | [d] => { results := [.lit (.bool false)], args := [d] }
  | _ => none }
def FnClassesWrongFalsely : Prop := fnClassesRow.holds Tryz.pinned (OpenSpec.ofChange fnClassesWrong)

/- THE SECOND FORM. 'bulk': how many values and letters a reading holds, each counted each time it is reached (what is shared counts as often as it is met; a slice's spare places count too). A statement '..UptoSaid' is the law's where the arguments, and the package variables that the reading takes, are together of bulk at most 1048576: NARROWER than '..Said'. Prove '..Said' where nothing that the law and all that it calls make is longer than what came in: it says more and counts as full. Else prove '..UptoSaid'. A law counts once. -/
mutual
def uptoBulk {H : Type} : DataW H → Nat
  | .lit (.string bytes) => bytes.length + 1
  | .lit _ => 1
  | .nil => 1
  | .ptr d => uptoBulk d + 1
  | .slice elems spare => uptoBulkAll elems + uptoBulkAll spare + 1
  | .agg parts => uptoBulkAll parts + 1
  | .iface _ d => uptoBulk d + 1
  | .map entries => uptoBulkEntries entries + 1
  | .held _ => 1
def uptoBulkAll {H : Type} : List (DataW H) → Nat
  | [] => 0
  | d :: r => uptoBulk d + uptoBulkAll r
def uptoBulkEntries {H : Type} : List (Lit × DataW H) → Nat
  | [] => 0
  | x :: r => uptoBulkEntry x + uptoBulkEntries r
def uptoBulkEntry {H : Type} : Lit × DataW H → Nat
  | (.string bytes, d) => bytes.length + uptoBulk d + 1
  | (_, d) => uptoBulk d + 1
 end
def uptoSmall : (H : Type) → List (DataW H) → Bool := fun _ ds => decide (uptoBulkAll ds ≤ 1048576)
def OpenSpec.upto (s : _root_.Go.ChangeSpec) : _root_.Go.OpenSpec := { _root_.Go.OpenSpec.ofChange s with cond := some uptoSmall }

/-- 'laws.FnShapes', WHERE WHAT IT READS IS OF BULK AT MOST 1048576: true; the input reads as it did. -/
def fnShapesUptoRow : OpenClaim := { program := "ytgjfcepnkllklaagreat", sum := "2e410955a09033b0ba2039a49ec5dd83f473914e5886303e04b414025a199f68", func := "loop.example/g01355/laws.FnShapes", spec := "fnShapes", unfollowed := true, recurses := true, apart := false, narrowed := true }
def FnShapesUptoSaid : Prop := fnShapesUptoRow.holds Tryz.pinned (OpenSpec.upto fnShapesSpec)

/-- 'laws.FnSubsystems', WHERE WHAT IT READS IS OF BULK AT MOST 1048576: true; the input reads as it did. -/
def fnSubsystemsUptoRow : OpenClaim := { program := "ytgjfcepnkllklaagreat", sum := "2e410955a09033b0ba2039a49ec5dd83f473914e5886303e04b414025a199f68", func := "loop.example/g01355/laws.FnSubsystems", spec := "fnSubsystems", unfollowed := true, recurses := true, apart := false, narrowed := true }
def FnSubsystemsUptoSaid : Prop := fnSubsystemsUptoRow.holds Tryz.pinned (OpenSpec.upto fnSubsystemsSpec)

/-- 'laws.FnFixing', WHERE WHAT IT READS IS OF BULK AT MOST 1048576: true; the input reads as it did. -/
def fnFixingUptoRow : OpenClaim := { program := "ytgjfcepnkllklaagreat", sum := "2e410955a09033b0ba2039a49ec5dd83f473914e5886303e04b414025a199f68", func := "loop.example/g01355/laws.FnFixing", spec := "fnFixing", unfollowed := true, recurses := true, apart := false, narrowed := true }
def FnFixingUptoSaid : Prop := fnFixingUptoRow.holds Tryz.pinned (OpenSpec.upto fnFixingSpec)

/-- 'laws.FnClasses', WHERE WHAT IT READS IS OF BULK AT MOST 1048576: true; the input reads as it did. -/
def fnClassesUptoRow : OpenClaim := { program := "ytgjfcepnkllklaagreat", sum := "2e410955a09033b0ba2039a49ec5dd83f473914e5886303e04b414025a199f68", func := "loop.example/g01355/laws.FnClasses", spec := "fnClasses", unfollowed := true, recurses := true, apart := false, narrowed := true }
def FnClassesUptoSaid : Prop := fnClassesUptoRow.holds Tryz.pinned (OpenSpec.upto fnClassesSpec)

end Rows
end Go.Proofs.YtgjfcepnkllklaaGreat
