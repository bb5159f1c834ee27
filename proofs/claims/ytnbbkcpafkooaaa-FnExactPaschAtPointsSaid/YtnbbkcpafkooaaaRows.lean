/-
  No cell of these rows narrows 'for every input' (looked for: loops, veiled, ifaces, maps, wideKeys, modest, calm, conditions, laid).
  DERIVED. THE GIVEN ROWS OF THIS SEAT. 5 by the template 'for every input the law returns true; each argument reads behind the call as it read before'; 0 by the template 'total and deterministic' (their statements: YtnbbkcpafkooaaaTotals.lean).
  GIVEN WITH THE SEED: the statements are not yours to turn. If you find one false, say at which input.
  Laid BY PROGRAM, IN A SANDBOX (cutbox-rows.mjs): the forced cells as the released guide's own fill.sh prints them over the translation c76f37f8511db035… (all of the seat's roots in one cut). By AI agents, Wed Nov 11 2026. No macro, syntax, notation, axiom, sorry.
-/
import Derived.Test.YtnbbkcpafkooaaaChecked
import GoSem.Claim
import GoSem.ClaimJoined
import GoSem.ClaimMapViews
import Derived.JoinedTies
import Derived.KernelRfl
namespace Go.Proofs.Ytnbbkcpafkooaaa
/- THE CELL 'sum', in the pinned program and in every row, IS THE sha256 OF THE DUMP (.gsa) THAT YtnbbkcpafkooaaaProg.lean LOADS. Nothing in Lean hashes anything: it is a label: what it is worth is what the hold of that sum in a sandbox is worth. -/
noncomputable def Try.pinned : Pinned := { name := "ytnbbkcpafkooaaa", sum := "c76f37f8511db035933dd452ef810c26adb4f816753332864eb507e6d6e56e0f", checked := Try.checked }
namespace Rows
def none {H : Type} : Left H := { results := [], args := [] }

/-- 'laws.FnExactIsDesk': WHATEVER THE INPUT: true; the input reads as it did. -/
def fnExactIsDeskSpec : ChangeSpec := { name := "fnExactIsDesk", fn := fun _ => fun
  | [d] => { results := [.lit (.bool true)], args := [d] }
  | _ => none }
def fnExactIsDeskRow : OpenClaim := { program := "ytnbbkcpafkooaaa", sum := "c76f37f8511db035933dd452ef810c26adb4f816753332864eb507e6d6e56e0f", func := "loop.example/g01355/laws.FnExactIsDesk", spec := "fnExactIsDesk", apart := false }
def FnExactIsDeskSaid : Prop := fnExactIsDeskRow.holds Try.pinned (OpenSpec.ofChange fnExactIsDeskSpec)

/-- ITS FALSE NEIGHBOUR: 'it returns false'. Refute it at one input. -/
def fnExactIsDeskWrong : ChangeSpec := { name := "fnExactIsDesk", fn := fun _ => fun
  | [d] => { results := [.lit (.bool false)], args := [d] }
  | _ => none }
def FnExactIsDeskWrongFalsely : Prop := fnExactIsDeskRow.holds Try.pinned (OpenSpec.ofChange fnExactIsDeskWrong)

/-- 'laws.FnExactClassList': WHATEVER THE INPUT: true; the input reads as it did. -/
def fnExactClassListSpec : ChangeSpec := { name := "fnExactClassList", fn := fun _ => fun
  | [d] => { results := [.lit (.bool true)], args := [d] }
  | _ => none }
def fnExactClassListRow : OpenClaim := { program := "ytnbbkcpafkooaaa", sum := "c76f37f8511db035933dd452ef810c26adb4f816753332864eb507e6d6e56e0f", func := "loop.example/g01355/laws.FnExactClassList", spec := "fnExactClassList", unfollowed := true, recurses := true, apart := false }
def FnExactClassListSaid : Prop := fnExactClassListRow.holds Try.pinned (OpenSpec.ofChange fnExactClassListSpec)

/-- ITS FALSE NEIGHBOUR: 'it returns false'. Refute it at one input. -/
def fnExactClassListWrong : ChangeSpec := { name := "fnExactClassList", fn := fun _ => fun
  | [d] => { results := [.lit (.bool false)], args := [d] }
  | _ => none }
def FnExactClassListWrongFalsely : Prop := fnExactClassListRow.holds Try.pinned (OpenSpec.ofChange fnExactClassListWrong)

/-- 'laws.FnExactLeastMeeting': WHATEVER THE INPUT: true; the input reads as it did. -/
def fnExactLeastMeetingSpec : ChangeSpec := { name := "fnExactLeastMeeting", fn := fun _ => fun
  | [d] => { results := [.lit (.bool true)], args := [d] }
  | _ => none }
def fnExactLeastMeetingRow : OpenClaim := { program := "ytnbbkcpafkooaaa", sum := "c76f37f8511db035933dd452ef810c26adb4f816753332864eb507e6d6e56e0f", func := "loop.example/g01355/laws.FnExactLeastMeeting", spec := "fnExactLeastMeeting", unfollowed := true, recurses := true, apart := false }
def FnExactLeastMeetingSaid : Prop := fnExactLeastMeetingRow.holds Try.pinned (OpenSpec.ofChange fnExactLeastMeetingSpec)

/-- ITS FALSE NEIGHBOUR: 'it returns false'. Refute it at one input. -/
def fnExactLeastMeetingWrong : ChangeSpec := { name := "fnExactLeastMeeting", fn := fun _ => fun
  | [d] => { results := [.lit (.bool false)], args := [d] }
  | _ => none }
def FnExactLeastMeetingWrongFalsely : Prop := fnExactLeastMeetingRow.holds Try.pinned (OpenSpec.ofChange fnExactLeastMeetingWrong)

/-- 'laws.FnExactPaschAtPoints': WHATEVER THE INPUT: true; the input reads as it did. -/
def fnExactPaschAtPointsSpec : ChangeSpec := { name := "fnExactPaschAtPoints", fn := fun _ => fun
  | [d] => { results := [.lit (.bool true)], args := [d] }
  | _ => none }
def fnExactPaschAtPointsRow : OpenClaim := { program := "ytnbbkcpafkooaaa", sum := "c76f37f8511db035933dd452ef810c26adb4f816753332864eb507e6d6e56e0f", func := "loop.example/g01355/laws.FnExactPaschAtPoints", spec := "fnExactPaschAtPoints", unfollowed := true, recurses := true, apart := false }
def FnExactPaschAtPointsSaid : Prop := fnExactPaschAtPointsRow.holds Try.pinned (OpenSpec.ofChange fnExactPaschAtPointsSpec)

/-- ITS FALSE NEIGHBOUR: 'it returns false'. Refute it at one input. -/
def fnExactPaschAtPointsWrong : ChangeSpec := { name := "fnExactPaschAtPoints", fn := fun _ => fun
  | [d] => { results := [.lit (.bool false)], args := [d] }
  | _ => none }
def FnExactPaschAtPointsWrongFalsely : Prop := fnExactPaschAtPointsRow.holds Try.pinned (OpenSpec.ofChange fnExactPaschAtPointsWrong)

/-- 'laws.FnExactPaschList': WHATEVER THE INPUT: true; the input reads as it did. -/
def fnExactPaschListSpec : ChangeSpec := { name := "fnExactPaschList", fn := fun _ => fun
  | [d] => { results := [.lit (.bool true)], args := [d] }
  | _ => none }
def fnExactPaschListRow : OpenClaim := { program := "ytnbbkcpafkooaaa", sum := "c76f37f8511db035933dd452ef810c26adb4f816753332864eb507e6d6e56e0f", func := "loop.example/g01355/laws.FnExactPaschList", spec := "fnExactPaschList", unfollowed := true, recurses := true, apart := false }
def FnExactPaschListSaid : Prop := fnExactPaschListRow.holds Try.pinned (OpenSpec.ofChange fnExactPaschListSpec)

/-- ITS FALSE NEIGHBOUR: 'it returns false'. Refute it at one input. -/
def fnExactPaschListWrong : ChangeSpec := { name := "fnExactPaschList", fn := fun _ => fun
  | [d] => { results := [.lit (.bool false)], args := [d] }
  | _ => none }
def FnExactPaschListWrongFalsely : Prop := fnExactPaschListRow.holds Try.pinned (OpenSpec.ofChange fnExactPaschListWrong)

/- THE SECOND FORM. 'bulk': how many values and letters a reading holds, each counted each time it is reached (what is shared counts as often as it is met; a slice's spare places count too). A statement '..UptoSaid' is the law's where the arguments, and the package variables that the reading takes, are together of bulk at most 1048576: NARROWER than '..Said'. Prove '..Said' where nothing that the law and all that it calls make is longer than what came in: it says more and counts as full. Else prove '..UptoSaid'. A law counts once. -/
mutual
def uptoBulk {H : Type} : DataW H → Nat
  | .lit (.string bytes) => bytes.length + 1
  | .lit _ => 1
  | .nil => 1
  | .ptr d => uptoBulk d + 1
  | .slice elems spare => uptoBulkAll elems + uptoBulkAll spare + 1
  | .agg parts => uptoBulkAll parts + 1
  | .iface _ d => uptoBulk d + 1
  | .map entries => uptoBulkEntries entries + 1
  | .held _ => 1
def uptoBulkAll {H : Type} : List (DataW H) → Nat
  | [] => 0
  | d :: r => uptoBulk d + uptoBulkAll r
def uptoBulkEntries {H : Type} : List (Lit × DataW H) → Nat
  | [] => 0
  | x :: r => uptoBulkEntry x + uptoBulkEntries r
def uptoBulkEntry {H : Type} : Lit × DataW H → Nat
  | (.string bytes, d) => bytes.length + uptoBulk d + 1
  | (_, d) => uptoBulk d + 1
 end
def uptoSmall : (H : Type) → List (DataW H) → Bool := fun _ ds => decide (uptoBulkAll ds ≤ 1048576)
def OpenSpec.upto (s : _root_.Go.ChangeSpec) : _root_.Go.OpenSpec := { _root_.Go.OpenSpec.ofChange s with cond := some uptoSmall }

/-- 'laws.FnExactIsDesk', WHERE WHAT IT READS IS OF BULK AT MOST 1048576: true; the input reads as it did. -/
def fnExactIsDeskUptoRow : OpenClaim := { program := "ytnbbkcpafkooaaa", sum := "c76f37f8511db035933dd452ef810c26adb4f816753332864eb507e6d6e56e0f", func := "loop.example/g01355/laws.FnExactIsDesk", spec := "fnExactIsDesk", apart := false, narrowed := true }
def FnExactIsDeskUptoSaid : Prop := fnExactIsDeskUptoRow.holds Try.pinned (OpenSpec.upto fnExactIsDeskSpec)

/-- 'laws.FnExactClassList', WHERE WHAT IT READS IS OF BULK AT MOST 1048576: true; the input reads as it did. -/
def fnExactClassListUptoRow : OpenClaim := { program := "ytnbbkcpafkooaaa", sum := "c76f37f8511db035933dd452ef810c26adb4f816753332864eb507e6d6e56e0f", func := "loop.example/g01355/laws.FnExactClassList", spec := "fnExactClassList", unfollowed := true, recurses := true, apart := false, narrowed := true }
def FnExactClassListUptoSaid : Prop := fnExactClassListUptoRow.holds Try.pinned (OpenSpec.upto fnExactClassListSpec)

/-- 'laws.FnExactLeastMeeting', WHERE WHAT IT READS IS OF BULK AT MOST 1048576: true; the input reads as it did. -/
def fnExactLeastMeetingUptoRow : OpenClaim := { program := "ytnbbkcpafkooaaa", sum := "c76f37f8511db035933dd452ef810c26adb4f816753332864eb507e6d6e56e0f", func := "loop.example/g01355/laws.FnExactLeastMeeting", spec := "fnExactLeastMeeting", unfollowed := true, recurses := true, apart := false, narrowed := true }
def FnExactLeastMeetingUptoSaid : Prop := fnExactLeastMeetingUptoRow.holds Try.pinned (OpenSpec.upto fnExactLeastMeetingSpec)

/-- 'laws.FnExactPaschAtPoints', WHERE WHAT IT READS IS OF BULK AT MOST 1048576: true; the input reads as it did. -/
def fnExactPaschAtPointsUptoRow : OpenClaim := { program := "ytnbbkcpafkooaaa", sum := "c76f37f8511db035933dd452ef810c26adb4f816753332864eb507e6d6e56e0f", func := "loop.example/g01355/laws.FnExactPaschAtPoints", spec := "fnExactPaschAtPoints", unfollowed := true, recurses := true, apart := false, narrowed := true }
def FnExactPaschAtPointsUptoSaid : Prop := fnExactPaschAtPointsUptoRow.holds Try.pinned (OpenSpec.upto fnExactPaschAtPointsSpec)

/-- 'laws.FnExactPaschList', WHERE WHAT IT READS IS OF BULK AT MOST 1048576: true; the input reads as it did. -/
def fnExactPaschListUptoRow : OpenClaim := { program := "ytnbbkcpafkooaaa", sum := "c76f37f8511db035933dd452ef810c26adb4f816753332864eb507e6d6e56e0f", func := "loop.example/g01355/laws.FnExactPaschList", spec := "fnExactPaschList", unfollowed := true, recurses := true, apart := false, narrowed := true }
def FnExactPaschListUptoSaid : Prop := fnExactPaschListUptoRow.holds Try.pinned (OpenSpec.upto fnExactPaschListSpec)

end Rows
end Go.Proofs.Ytnbbkcpafkooaaa
