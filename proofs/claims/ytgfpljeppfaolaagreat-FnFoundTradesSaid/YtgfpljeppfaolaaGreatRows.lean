/-
  No cell of these rows narrows 'for every input' (looked for: loops, veiled, ifaces, maps, wideKeys, modest, calm, conditions, laid).
  DERIVED. THE GIVEN ROWS OF THIS SEAT. 3 by the template 'for every input the law returns true; each argument reads behind the call as it read before'; 0 by the template 'total and deterministic' (their statements: YtgfpljeppfaolaaGreatTotals.lean).
  GIVEN WITH THE SEED: the statements are not yours to turn. If you find one false, say at which input.
  Laid BY PROGRAM, IN A SANDBOX (cutbox-rows.mjs): the forced cells as the released guide's own fill.sh prints them over the translation d11e2ae38945071a… (all of the seat's roots in one cut). By AI agents, Wed Nov 11 2026. No macro, syntax, notation, axiom, sorry.
-/
import Derived.Test.YtgfpljeppfaolaaGreatChecked
import GoSem.Claim
import GoSem.ClaimJoined
import GoSem.ClaimMapViews
import Derived.JoinedTies
import Derived.KernelRfl
namespace Go.Proofs.YtgfpljeppfaolaaGreat
/- THE CELL 'sum', in the pinned program and in every row, IS THE sha256 OF THE DUMP (.gsa) THAT YtgfpljeppfaolaaGreatProg.lean LOADS. Nothing in Lean hashes anything: it is a label: what it is worth is what the hold of that sum in a sandbox is worth. -/
noncomputable def Tryz.pinned : Pinned := { name := "ytgfpljeppfaolaagreat", sum := "d11e2ae38945071a964c4b032ea4790e1cb45509b274902f0de8fbd219fd4db8", checked := Tryz.checked }
namespace Rows
def none {H : Type} : Left H := { results := [], args := [] }

/-- 'laws.FnFoundTrades': WHATEVER THE INPUT: true; the input reads as it did. -/
def fnFoundTradesSpec : ChangeSpec := { name := "fnFoundTrades", fn := fun _ => fun
  | [d] => { results := [.lit (.bool true)], args := [d] }
  | _ => none }
def fnFoundTradesRow : OpenClaim := { program := "ytgfpljeppfaolaagreat", sum := "d11e2ae38945071a964c4b032ea4790e1cb45509b274902f0de8fbd219fd4db8", func := "loop.example/g01355/laws.FnFoundTrades", spec := "fnFoundTrades", unfollowed := true, recurses := true, apart := false }
def FnFoundTradesSaid : Prop := fnFoundTradesRow.holds Tryz.pinned (OpenSpec.ofChange fnFoundTradesSpec)

/-- ITS FALSE NEIGHBOUR: 'it returns false'. Refute it at one input. -/
def fnFoundTradesWrong : ChangeSpec := { name := "fnFoundTrades", fn := fun _ => fun
  | [d] => { results := [.lit (.bool false)], args := [d] }
  | _ => none }
def FnFoundTradesWrongFalsely : Prop := fnFoundTradesRow.holds Tryz.pinned (OpenSpec.ofChange fnFoundTradesWrong)

/-- 'laws.FnClasses': WHATEVER THE INPUT: true; the input reads as it did. -/
def fnClassesSpec : ChangeSpec := { name := "fnClasses", fn := fun _ => fun
  | [d] => { results := [.lit (.bool true)], args := [d] }
  | _ => none }
def fnClassesRow : OpenClaim := { program := "ytgfpljeppfaolaagreat", sum := "d11e2ae38945071a964c4b032ea4790e1cb45509b274902f0de8fbd219fd4db8", func := "loop.example/g01355/laws.FnClasses", spec := "fnClasses", unfollowed := true, recurses := true, apart := false }
def FnClassesSaid : Prop := fnClassesRow.holds Tryz.pinned (OpenSpec.ofChange fnClassesSpec)

/-- ITS FALSE NEIGHBOUR: 'it returns false'. Refute it at one input. -/
def fnClassesWrong : ChangeSpec := { name := "fnClasses", fn := fun _ => fun
  | [d] => { results := [.lit (.bool false)], args := [d] }
  | _ => none }
def FnClassesWrongFalsely : Prop := fnClassesRow.holds Tryz.pinned (OpenSpec.ofChange fnClassesWrong)

/-- 'laws.FnResolutions': WHATEVER THE INPUT: true; the input reads as it did. -/
def fnResolutionsSpec : ChangeSpec := { name := "fnResolutions", fn := fun _ => fun
  | [d] => { results := [.lit (.bool true)], args := [d] }
  | _ => none }
def fnResolutionsRow : OpenClaim := { program := "ytgfpljeppfaolaagreat", sum := "d11e2ae38945071a964c4b032ea4790e1cb45509b274902f0de8fbd219fd4db8", func := "loop.example/g01355/laws.FnResolutions", spec := "fnResolutions", unfollowed := true, recurses := true, apart := false }
def FnResolutionsSaid : Prop := fnResolutionsRow.holds Tryz.pinned (OpenSpec.ofChange fnResolutionsSpec)

/-- ITS FALSE NEIGHBOUR: 'it returns false'. Refute it at one input. -/
def fnResolutionsWrong : ChangeSpec := { name := "fnResolutions", fn := fun _ => fun
  | [d] => { results := [.lit (.bool false)], args := [d] }
  | _ => none }
def FnResolutionsWrongFalsely : Prop := fnResolutionsRow.holds Tryz.pinned (OpenSpec.ofChange fnResolutionsWrong)

/- THE SECOND FORM. 'bulk': how many values and letters a reading holds, each counted each time it is reached (what is shared counts as often as it is met; a slice's spare places count too). A statement '..UptoSaid' is the law's where the arguments, and the package variables that the reading takes, are together of bulk at most 1048576: NARROWER than '..Said'. Prove '..Said' where nothing that the law and all that it calls make is longer than what came in: it says more and counts as full. Else prove '..UptoSaid'. A law counts once. -/
mutual
def uptoBulk {H : Type} : DataW H → Nat
  | .lit (.string bytes) => bytes.length + 1
  | .lit _ => 1
  | .nil => 1
  | .ptr d => uptoBulk d + 1
  | .slice elems spare => uptoBulkAll elems + uptoBulkAll spare + 1
  | .agg parts => uptoBulkAll parts + 1
  | .iface _ d => uptoBulk d + 1
  | .map entries => uptoBulkEntries entries + 1
  | .held _ => 1
def uptoBulkAll {H : Type} : List (DataW H) → Nat
  | [] => 0
  | d :: r => uptoBulk d + uptoBulkAll r
def uptoBulkEntries {H : Type} : List (Lit × DataW H) → Nat
  | [] => 0
  | x :: r => uptoBulkEntry x + uptoBulkEntries r
def uptoBulkEntry {H : Type} : Lit × DataW H → Nat
  | (.string bytes, d) => bytes.length + uptoBulk d + 1
  | (_, d) => uptoBulk d + 1
 end
def uptoSmall : (H : Type) → List (DataW H) → Bool := fun _ ds => decide (uptoBulkAll ds ≤ 1048576)
def OpenSpec.upto (s : _root_.Go.ChangeSpec) : _root_.Go.OpenSpec := { _root_.Go.OpenSpec.ofChange s with cond := some uptoSmall }

/-- 'laws.FnFoundTrades', WHERE WHAT IT READS IS OF BULK AT MOST 1048576: true; the input reads as it did. -/
def fnFoundTradesUptoRow : OpenClaim := { program := "ytgfpljeppfaolaagreat", sum := "d11e2ae38945071a964c4b032ea4790e1cb45509b274902f0de8fbd219fd4db8", func := "loop.example/g01355/laws.FnFoundTrades", spec := "fnFoundTrades", unfollowed := true, recurses := true, apart := false, narrowed := true }
def FnFoundTradesUptoSaid : Prop := fnFoundTradesUptoRow.holds Tryz.pinned (OpenSpec.upto fnFoundTradesSpec)

/-- 'laws.FnClasses', WHERE WHAT IT READS IS OF BULK AT MOST 1048576: true; the input reads as it did. -/
def fnClassesUptoRow : OpenClaim := { program := "ytgfpljeppfaolaagreat", sum := "d11e2ae38945071a964c4b032ea4790e1cb45509b274902f0de8fbd219fd4db8", func := "loop.example/g01355/laws.FnClasses", spec := "fnClasses", unfollowed := true, recurses := true, apart := false, narrowed := true }
def FnClassesUptoSaid : Prop := fnClassesUptoRow.holds Tryz.pinned (OpenSpec.upto fnClassesSpec)

/-- 'laws.FnResolutions', WHERE WHAT IT READS IS OF BULK AT MOST 1048576: true; the input reads as it did. -/
def fnResolutionsUptoRow : OpenClaim := { program := "ytgfpljeppfaolaagreat", sum := "d11e2ae38945071a964c4b032ea4790e1cb45509b274902f0de8fbd219fd4db8", func := "loop.example/g01355/laws.FnResolutions", spec := "fnResolutions", unfollowed := true, recurses := true, apart := false, narrowed := true }
def FnResolutionsUptoSaid : Prop := fnResolutionsUptoRow.holds Tryz.pinned (OpenSpec.upto fnResolutionsSpec)

end Rows
end Go.Proofs.YtgfpljeppfaolaaGreat
