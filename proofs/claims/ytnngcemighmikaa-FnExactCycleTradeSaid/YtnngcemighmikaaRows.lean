/-
  No cell of these rows narrows 'for every input' (looked for: loops, veiled, ifaces, maps, wideKeys, modest, calm, conditions, laid).
  DERIVED. THE GIVEN ROWS OF THIS SEAT. 5 by the template 'for every input the law returns true; each argument reads behind the call as it read before'; 0 by the template 'total and deterministic' (their statements: YtnngcemighmikaaTotals.lean).
  GIVEN WITH THE SEED: the statements are not yours to turn. If you find one false, say at which input.
  Laid BY PROGRAM, IN A SANDBOX (cutbox-rows.mjs): the forced cells as the released guide's own fill.sh prints them over the translation 140575a4d1aeaff8… (all of the seat's roots in one cut). By AI agents, Wed Nov 11 2026. No macro, syntax, notation, axiom, sorry.
-/
import Derived.Test.YtnngcemighmikaaChecked
import GoSem.Claim
import GoSem.ClaimJoined
import GoSem.ClaimMapViews
import Derived.JoinedTies
import Derived.KernelRfl
namespace Go.Proofs.Ytnngcemighmikaa
/- THE CELL 'sum', in the pinned program and in every row, IS THE sha256 OF THE DUMP (.gsa) THAT YtnngcemighmikaaProg.lean LOADS. Nothing in Lean hashes anything: it is a label: what it is worth is what the hold of that sum in a sandbox is worth. -/
noncomputable def Try.pinned : Pinned := { name := "ytnngcemighmikaa", sum := "140575a4d1aeaff8ce91617c0cfe30d109b8eb99623452527d875ae89ce960d0", checked := Try.checked }
namespace Rows
def none {H : Type} : Left H := { results := [], args := [] }

/-- 'laws.FnExactTurnSystem': WHATEVER THE INPUT: true; the input reads as it did. -/
def fnExactTurnSystemSpec : ChangeSpec := { name := "fnExactTurnSystem", fn := fun _ => fun
  | [d1, d2] => { results := [.lit (.bool true)], args := [d1, d2] }
  | _ => none }
def fnExactTurnSystemRow : OpenClaim := { program := "ytnngcemighmikaa", sum := "140575a4d1aeaff8ce91617c0cfe30d109b8eb99623452527d875ae89ce960d0", func := "loop.example/g01355/laws.FnExactTurnSystem", spec := "fnExactTurnSystem", unfollowed := true, recurses := true, apart := false }
def FnExactTurnSystemSaid : Prop := fnExactTurnSystemRow.holds Try.pinned (OpenSpec.ofChange fnExactTurnSystemSpec)

/-- ITS FALSE NEIGHBOUR: 'it returns false'. Refute it at one input. -/
def fnExactTurnSystemWrong : ChangeSpec := { name := "fnExactTurnSystem", fn := fun _ => fun
  | [d1, d2] => { results := [.lit (.bool false)], args := [d1, d2] }
  | _ => none }
def FnExactTurnSystemWrongFalsely : Prop := fnExactTurnSystemRow.holds Try.pinned (OpenSpec.ofChange fnExactTurnSystemWrong)

/-- 'laws.FnExactMateByTurning': WHATEVER THE INPUT: true; the input reads as it did. -/
def fnExactMateByTurningSpec : ChangeSpec := { name := "fnExactMateByTurning", fn := fun _ => fun
  | [d] => { results := [.lit (.bool true)], args := [d] }
  | _ => none }
def fnExactMateByTurningRow : OpenClaim := { program := "ytnngcemighmikaa", sum := "140575a4d1aeaff8ce91617c0cfe30d109b8eb99623452527d875ae89ce960d0", func := "loop.example/g01355/laws.FnExactMateByTurning", spec := "fnExactMateByTurning", unfollowed := true, recurses := true, apart := false }
def FnExactMateByTurningSaid : Prop := fnExactMateByTurningRow.holds Try.pinned (OpenSpec.ofChange fnExactMateByTurningSpec)

/-- ITS FALSE NEIGHBOUR: 'it returns false'. Refute it at one input. -/
def fnExactMateByTurningWrong : ChangeSpec := { name := "fnExactMateByTurning", fn := fun _ => fun
  | [d] => { results := [.lit (.bool false)], args := [d] }
  | _ => none }
def FnExactMateByTurningWrongFalsely : Prop := fnExactMateByTurningRow.holds Try.pinned (OpenSpec.ofChange fnExactMateByTurningWrong)

/-- 'laws.FnExactNewDesk': WHATEVER THE INPUT: true; the input reads as it did. -/
def fnExactNewDeskSpec : ChangeSpec := { name := "fnExactNewDesk", fn := fun _ => fun
  | [] => { results := [.lit (.bool true)], args := [] }
  | _ => none }
def fnExactNewDeskRow : OpenClaim := { program := "ytnngcemighmikaa", sum := "140575a4d1aeaff8ce91617c0cfe30d109b8eb99623452527d875ae89ce960d0", func := "loop.example/g01355/laws.FnExactNewDesk", spec := "fnExactNewDesk", unfollowed := true, recurses := true, apart := false }
def FnExactNewDeskSaid : Prop := fnExactNewDeskRow.holds Try.pinned (OpenSpec.ofChange fnExactNewDeskSpec)

/-- ITS FALSE NEIGHBOUR: 'it returns false'. Refute it at one input. -/
def fnExactNewDeskWrong : ChangeSpec := { name := "fnExactNewDesk", fn := fun _ => fun
  | [] => { results := [.lit (.bool false)], args := [] }
  | _ => none }
def FnExactNewDeskWrongFalsely : Prop := fnExactNewDeskRow.holds Try.pinned (OpenSpec.ofChange fnExactNewDeskWrong)

/-- 'laws.FnExactCycleTrade': WHATEVER THE INPUT: true; the input reads as it did. -/
def fnExactCycleTradeSpec : ChangeSpec := { name := "fnExactCycleTrade", fn := fun _ => fun
  | [d1, d2, d3, d4] => { results := [.lit (.bool true)], args := [d1, d2, d3, d4] }
  | _ => none }
def fnExactCycleTradeRow : OpenClaim := { program := "ytnngcemighmikaa", sum := "140575a4d1aeaff8ce91617c0cfe30d109b8eb99623452527d875ae89ce960d0", func := "loop.example/g01355/laws.FnExactCycleTrade", spec := "fnExactCycleTrade", unfollowed := true, recurses := true, apart := false }
def FnExactCycleTradeSaid : Prop := fnExactCycleTradeRow.holds Try.pinned (OpenSpec.ofChange fnExactCycleTradeSpec)

/-- ITS FALSE NEIGHBOUR: 'it returns false'. Refute it at one input. -/
def fnExactCycleTradeWrong : ChangeSpec := { name := "fnExactCycleTrade", fn := fun _ => fun
  | [d1, d2, d3, d4] => { results := [.lit (.bool false)], args := [d1, d2, d3, d4] }
  | _ => none }
def FnExactCycleTradeWrongFalsely : Prop := fnExactCycleTradeRow.holds Try.pinned (OpenSpec.ofChange fnExactCycleTradeWrong)

/-- 'laws.FnExactPaschTrades': WHATEVER THE INPUT: true; the input reads as it did. -/
def fnExactPaschTradesSpec : ChangeSpec := { name := "fnExactPaschTrades", fn := fun _ => fun
  | [d] => { results := [.lit (.bool true)], args := [d] }
  | _ => none }
def fnExactPaschTradesRow : OpenClaim := { program := "ytnngcemighmikaa", sum := "140575a4d1aeaff8ce91617c0cfe30d109b8eb99623452527d875ae89ce960d0", func := "loop.example/g01355/laws.FnExactPaschTrades", spec := "fnExactPaschTrades", unfollowed := true, recurses := true, apart := false }
def FnExactPaschTradesSaid : Prop := fnExactPaschTradesRow.holds Try.pinned (OpenSpec.ofChange fnExactPaschTradesSpec)

/-- ITS FALSE NEIGHBOUR: 'it returns false'. Refute it at one input. -/
def fnExactPaschTradesWrong : ChangeSpec := { name := "fnExactPaschTrades", fn := fun _ => fun
  | [d] => { results := [.lit (.bool false)], args := [d] }
  | _ => none }
def FnExactPaschTradesWrongFalsely : Prop := fnExactPaschTradesRow.holds Try.pinned (OpenSpec.ofChange fnExactPaschTradesWrong)

/- THE SECOND FORM. 'bulk': how many values and letters a reading holds, each counted each time it is reached (what is shared counts as often as it is met; a slice's spare places count too). A statement '..UptoSaid' is the law's where the arguments, and the package variables that the reading takes, are together of bulk at most 1048576: NARROWER than '..Said'. Prove '..Said' where nothing that the law and all that it calls make is longer than what came in: it says more and counts as full. Else prove '..UptoSaid'. A law counts once. -/
mutual
def uptoBulk {H : Type} : DataW H → Nat
  | .lit (.string bytes) => bytes.length + 1
  | .lit _ => 1
  | .nil => 1
  | .ptr d => uptoBulk d + 1
  | .slice elems spare => uptoBulkAll elems + uptoBulkAll spare + 1
  | .agg parts => uptoBulkAll parts + 1
  | .iface _ d => uptoBulk d + 1
  | .map entries => uptoBulkEntries entries + 1
  | .held _ => 1
def uptoBulkAll {H : Type} : List (DataW H) → Nat
  | [] => 0
  | d :: r => uptoBulk d + uptoBulkAll r
def uptoBulkEntries {H : Type} : List (Lit × DataW H) → Nat
  | [] => 0
  | x :: r => uptoBulkEntry x + uptoBulkEntries r
def uptoBulkEntry {H : Type} : Lit × DataW H → Nat
  | (.string bytes, d) => bytes.length + uptoBulk d + 1
  | (_, d) => uptoBulk d + 1
 end
def uptoSmall : (H : Type) → List (DataW H) → Bool := fun _ ds => decide (uptoBulkAll ds ≤ 1048576)
def OpenSpec.upto (s : _root_.Go.ChangeSpec) : _root_.Go.OpenSpec := { _root_.Go.OpenSpec.ofChange s with cond := some uptoSmall }

/-- 'laws.FnExactTurnSystem', WHERE WHAT IT READS IS OF BULK AT MOST 1048576: true; the input reads as it did. -/
def fnExactTurnSystemUptoRow : OpenClaim := { program := "ytnngcemighmikaa", sum := "140575a4d1aeaff8ce91617c0cfe30d109b8eb99623452527d875ae89ce960d0", func := "loop.example/g01355/laws.FnExactTurnSystem", spec := "fnExactTurnSystem", unfollowed := true, recurses := true, apart := false, narrowed := true }
def FnExactTurnSystemUptoSaid : Prop := fnExactTurnSystemUptoRow.holds Try.pinned (OpenSpec.upto fnExactTurnSystemSpec)

/-- 'laws.FnExactMateByTurning', WHERE WHAT IT READS IS OF BULK AT MOST 1048576: true; the input reads as it did. -/
def fnExactMateByTurningUptoRow : OpenClaim := { program := "ytnngcemighmikaa", sum := "140575a4d1aeaff8ce91617c0cfe30d109b8eb99623452527d875ae89ce960d0", func := "loop.example/g01355/laws.FnExactMateByTurning", spec := "fnExactMateByTurning", unfollowed := true, recurses := true, apart := false, narrowed := true }
def FnExactMateByTurningUptoSaid : Prop := fnExactMateByTurningUptoRow.holds Try.pinned (OpenSpec.upto fnExactMateByTurningSpec)

/-- 'laws.FnExactNewDesk', WHERE WHAT IT READS IS OF BULK AT MOST 1048576: true; the input reads as it did. -/
def fnExactNewDeskUptoRow : OpenClaim := { program := "ytnngcemighmikaa", sum := "140575a4d1aeaff8ce91617c0cfe30d109b8eb99623452527d875ae89ce960d0", func := "loop.example/g01355/laws.FnExactNewDesk", spec := "fnExactNewDesk", unfollowed := true, recurses := true, apart := false, narrowed := true }
def FnExactNewDeskUptoSaid : Prop := fnExactNewDeskUptoRow.holds Try.pinned (OpenSpec.upto fnExactNewDeskSpec)

/-- 'laws.FnExactCycleTrade', WHERE WHAT IT READS IS OF BULK AT MOST 1048576: true; the input reads as it did. -/
def fnExactCycleTradeUptoRow : OpenClaim := { program := "ytnngcemighmikaa", sum := "140575a4d1aeaff8ce91617c0cfe30d109b8eb99623452527d875ae89ce960d0", func := "loop.example/g01355/laws.FnExactCycleTrade", spec := "fnExactCycleTrade", unfollowed := true, recurses := true, apart := false, narrowed := true }
def FnExactCycleTradeUptoSaid : Prop := fnExactCycleTradeUptoRow.holds Try.pinned (OpenSpec.upto fnExactCycleTradeSpec)

/-- 'laws.FnExactPaschTrades', WHERE WHAT IT READS IS OF BULK AT MOST 1048576: true; the input reads as it did. -/
def fnExactPaschTradesUptoRow : OpenClaim := { program := "ytnngcemighmikaa", sum := "140575a4d1aeaff8ce91617c0cfe30d109b8eb99623452527d875ae89ce960d0", func := "loop.example/g01355/laws.FnExactPaschTrades", spec := "fnExactPaschTrades", unfollowed := true, recurses := true, apart := false, narrowed := true }
def FnExactPaschTradesUptoSaid : Prop := fnExactPaschTradesUptoRow.holds Try.pinned (OpenSpec.upto fnExactPaschTradesSpec)

end Rows
end Go.Proofs.Ytnngcemighmikaa
