/-
  'laws.FnExactIsResolution' returns true for all arguments, and leaves them as they were: no condition.
-/
import Derived.Test.YtgfpljeppfaolaaRows
import Derived.WalkKit
import Derived.ProofKit
import Derived.OpenShut
import Derived.ShutString
import Derived.ChangeOld
import Derived.Below
import Derived.Test.YtgfpljeppfaolaaKb3
import Derived.Test.YtgfpljeppfaolaaFacts
set_option linter.unusedVariables false
set_option linter.unusedSimpArgs false
namespace Go.Proofs.Ytgfpljeppfaolaa.FnExactIsResolutionProof
open Go.ChangeShapes Go.WideShapes Go.ChangeAt Go.RowKit Go.Vc
theorem own_ : ownKnob Try.prog.godebug = none := by kernel_rfl
theorem laidOut_ : laidOutB Try.prog = true := by kernel_rfl
set_option maxRecDepth 100000 in
theorem lifted (os : Os) (started : os.Started) (H : Type) (enc : TypeId × Value → H) :
    ReturnsInHanded {} Try.checked os 3 .any (Rows.fnExactIsResolutionSpec.pre6 enc Try.prog Try.f3 Rows.fnExactIsResolutionRow.domain false) (Rows.fnExactIsResolutionSpec.post enc Try.prog Try.f3 false true false false) := by
  refine returnsInHanded_of_change (C := Try.checked) own_ started (by kernel_rfl) Try.func3
    (ChangeSpec.witness6 (enc := enc) (C := Try.checked) false ⟨#[], #[.agg #[.int .i64 0, .slice none 0 0], .slice none 0 0], []⟩ 8 (by kernel_rfl) (by kernel_rfl) (by kernel_rfl) (by kernel_rfl)) ?_
  intro W base args ds gs before hval0 hW hcnd _
  have hval : ∀ (j : Nat) t v, Try.f3.params[j]? = some t → args[j]? = some v → Value.okWide Try.prog W .any base t v := hval0
  have hW' := hW
  obtain ⟨p, q, hA0, hV, rfl, hfz, hnd⟩ := hW
  have hA : DataW.TrodAll enc Try.prog W 0 (fun _ => true) true Try.f3.params.toList args.toList ds p := hA0
  rw [Try.params3] at hA hval
  obtain ⟨v0, vs0, d0, ds0, p0, q0, hargs, rfl, rfl, h0, r_0⟩ := trodAll_cons hA
  obtain ⟨v1, vs1, d1, ds1, p1, q1, rfl, rfl, rfl, h1, r_1⟩ := trodAll_cons r_0
  obtain ⟨rfl, rfl, rfl⟩ := trodAll_nil r_1
  obtain rfl : args = #[v0, v1] := by cases args; simp_all
  obtain ⟨rfl, rfl⟩ := trodVars_none hV
  have k0 := h0
  have lt0 : ∀ x ∈ p0, x.block < W.heap.size := by obtain ⟨m, hm⟩ := k0; exact DataW.trod_lt m _ _ _ hm
  obtain ⟨cs0, rfl⟩ := okWide_agg ag24 (hval 0 24 v0 rfl rfl)
  obtain ⟨fuel0, hf0⟩ := k0
  obtain ⟨x0, A0, c0, bs0, e0, b0, l0, r0⟩ := open_system Try.underlying24 (by kernel_rfl) rfl rfl rfl rfl Try.underlying22 Try.underlying56 Try.underlying2 (by kernel_rfl) (by kernel_rfl) (by kernel_rfl) hf0
  obtain rfl : cs0 = #[.int .i64 x0, .slice A0 bs0.length c0] := Array.ext' e0
  have k1 := h1
  have lt1 : ∀ x ∈ p1, x.block < W.heap.size := by obtain ⟨m, hm⟩ := k1; exact DataW.trod_lt m _ _ _ hm
  obtain ⟨a1, n1, m1, rfl⟩ := okWide_slice Try.underlying25 (hval 1 25 v1 rfl rfl)
  obtain ⟨fuel1, hf1⟩ := k1
  obtain ⟨A1, c1, bs1, e1, l1, r1⟩ := open_rows Try.underlying25 Try.underlying40 Try.underlying2 (by kernel_rfl) (by kernel_rfl) hf1
  obtain ⟨rfl, rfl, rfl⟩ : a1 = A1 ∧ n1 = (tops bs1).length ∧ m1 = c1 := by
    have e : [Value.slice a1 n1 m1] = [Value.slice A1 (tops bs1).length c1] := e1
    simpa using e
  clear hA0 hval0
  refine (law_calls (FnExactIsResolution_ok x0 bs0 bs1 A0 c0 a1 m1 W r0 r1 l0 l1)).mono fun e W' ⟨he, bel⟩ => ?_
  subst he
  exact ⟨_, rfl, _, _, _, [], _, [], hW', trodAll_mk1 (shut_bool Try.underlying4 _), (trodAll_cons_mk (Below.trod laidOut_ (by kernel_rfl) (of_decide_eq_true (by kernel_rfl)) h0 bel lt0) (trodAll_cons_mk (Below.trod laidOut_ (by kernel_rfl) (of_decide_eq_true (by kernel_rfl)) h1 bel lt1) trodAll_mk0)), rfl, bel.frame _, fun h => by cases h⟩
theorem row0 : (fun (P : Program) (f : FuncId) (fn : Func) (s : ChangeSpec) (c : OpenClaim) => (c.wf (OpenSpec.ofChange s) : Bool)) Try.prog 3 Try.f3 Rows.fnExactIsResolutionSpec Rows.fnExactIsResolutionRow = true := by kernel_rfl
theorem row3 : (fun (P : Program) (f : FuncId) (fn : Func) (s : ChangeSpec) (c : OpenClaim) => (fn.params.all (P.readableRec ·) : Bool)) Try.prog 3 Try.f3 Rows.fnExactIsResolutionSpec Rows.fnExactIsResolutionRow = true := by kernel_rfl
theorem row4 : (fun (P : Program) (f : FuncId) (fn : Func) (s : ChangeSpec) (c : OpenClaim) => (namedTie P c.named s.vars : Bool)) Try.prog 3 Try.f3 Rows.fnExactIsResolutionSpec Rows.fnExactIsResolutionRow = true := by kernel_rfl
theorem row5 : (fun (P : Program) (f : FuncId) (fn : Func) (s : ChangeSpec) (c : OpenClaim) => ((c.stops == []) : Bool)) Try.prog 3 Try.f3 Rows.fnExactIsResolutionSpec Rows.fnExactIsResolutionRow = true := by kernel_rfl
theorem row7 : (fun (P : Program) (f : FuncId) (fn : Func) (s : ChangeSpec) (c : OpenClaim) => ((c.knobs == []) : Bool)) Try.prog 3 Try.f3 Rows.fnExactIsResolutionSpec Rows.fnExactIsResolutionRow = true := by kernel_rfl
theorem row9 : (fun (P : Program) (f : FuncId) (fn : Func) (s : ChangeSpec) (c : OpenClaim) => ((c.inPlace == P.inPlace f) : Bool)) Try.prog 3 Try.f3 Rows.fnExactIsResolutionSpec Rows.fnExactIsResolutionRow = true := by kernel_rfl
theorem row10 : (fun (P : Program) (f : FuncId) (fn : Func) (s : ChangeSpec) (c : OpenClaim) => ((c.unfollowed == P.unfollowed f) : Bool)) Try.prog 3 Try.f3 Rows.fnExactIsResolutionSpec Rows.fnExactIsResolutionRow = true := by kernel_rfl
theorem row11 : (fun (P : Program) (f : FuncId) (fn : Func) (s : ChangeSpec) (c : OpenClaim) => ((c.recurses == P.recurses f) : Bool)) Try.prog 3 Try.f3 Rows.fnExactIsResolutionSpec Rows.fnExactIsResolutionRow = true := by kernel_rfl
theorem row12 : (fun (P : Program) (f : FuncId) (fn : Func) (s : ChangeSpec) (c : OpenClaim) => ((c.named == P.varsNamed f) : Bool)) Try.prog 3 Try.f3 Rows.fnExactIsResolutionSpec Rows.fnExactIsResolutionRow = true := by kernel_rfl
theorem row13 : (fun (P : Program) (f : FuncId) (fn : Func) (s : ChangeSpec) (c : OpenClaim) => ((c.maps == (fn.params.toList ++ s.plain.varTypes P).any (P.mapsRec ·)) : Bool)) Try.prog 3 Try.f3 Rows.fnExactIsResolutionSpec Rows.fnExactIsResolutionRow = true := by kernel_rfl
theorem row14 : (fun (P : Program) (f : FuncId) (fn : Func) (s : ChangeSpec) (c : OpenClaim) => ((c.ifaces == (fn.params.toList ++ s.plain.varTypes P).any (P.ifacesRec ·)) : Bool)) Try.prog 3 Try.f3 Rows.fnExactIsResolutionSpec Rows.fnExactIsResolutionRow = true := by kernel_rfl
theorem row15 : (fun (P : Program) (f : FuncId) (fn : Func) (s : ChangeSpec) (c : OpenClaim) => ((c.mapsOut == P.mapsAmong fn.resultTypes.toList) : Bool)) Try.prog 3 Try.f3 Rows.fnExactIsResolutionSpec Rows.fnExactIsResolutionRow = true := by kernel_rfl
theorem row16 : (fun (P : Program) (f : FuncId) (fn : Func) (s : ChangeSpec) (c : OpenClaim) => ((c.loops == (fn.params.toList ++ s.plain.varTypes P).any (P.loopsFrom ·)) : Bool)) Try.prog 3 Try.f3 Rows.fnExactIsResolutionSpec Rows.fnExactIsResolutionRow = true := by kernel_rfl
theorem row17 : (fun (P : Program) (f : FuncId) (fn : Func) (s : ChangeSpec) (c : OpenClaim) => ((c.wideKeys == (fn.params.toList ++ s.plain.varTypes P ++ fn.resultTypes.toList).any (P.wideKeysFrom ·)) : Bool)) Try.prog 3 Try.f3 Rows.fnExactIsResolutionSpec Rows.fnExactIsResolutionRow = true := by kernel_rfl
theorem row18 : (fun (P : Program) (f : FuncId) (fn : Func) (s : ChangeSpec) (c : OpenClaim) => (s.vars.all (P.varReadable ·) : Bool)) Try.prog 3 Try.f3 Rows.fnExactIsResolutionSpec Rows.fnExactIsResolutionRow = true := by kernel_rfl
theorem row19 : (fun (P : Program) (f : FuncId) (fn : Func) (s : ChangeSpec) (c : OpenClaim) => (fn.resultTypes.all (fun t => P.readableRec t && decide (t < P.types.size)) : Bool)) Try.prog 3 Try.f3 Rows.fnExactIsResolutionSpec Rows.fnExactIsResolutionRow = true := by kernel_rfl
theorem row20 : (fun (P : Program) (f : FuncId) (fn : Func) (s : ChangeSpec) (c : OpenClaim) => ((c.ifacesOut == fn.resultTypes.toList.any (P.ifacesRec ·)) : Bool)) Try.prog 3 Try.f3 Rows.fnExactIsResolutionSpec Rows.fnExactIsResolutionRow = true := by kernel_rfl
theorem row21 : (fun (P : Program) (f : FuncId) (fn : Func) (s : ChangeSpec) (c : OpenClaim) => ((c.loopsOut == fn.resultTypes.toList.any (P.loopsFrom ·)) : Bool)) Try.prog 3 Try.f3 Rows.fnExactIsResolutionSpec Rows.fnExactIsResolutionRow = true := by kernel_rfl
theorem row23 : (fun (P : Program) (f : FuncId) (fn : Func) (s : ChangeSpec) (c : OpenClaim) => (c.shortTexts.isNone : Bool)) Try.prog 3 Try.f3 Rows.fnExactIsResolutionSpec Rows.fnExactIsResolutionRow = true := by kernel_rfl
theorem row28 : (fun (P : Program) (f : FuncId) (fn : Func) (s : ChangeSpec) (c : OpenClaim) => ((c.kinds == (if c.domain.isEmpty then [] else fn.params.toList.map fun t => match P.underlying t with | some (.int k) => some k | _ => none)) : Bool)) Try.prog 3 Try.f3 Rows.fnExactIsResolutionSpec Rows.fnExactIsResolutionRow = true := by kernel_rfl
theorem row29 : (fun (P : Program) (f : FuncId) (fn : Func) (s : ChangeSpec) (c : OpenClaim) => ((c.pinned == c.pinnedBy) : Bool)) Try.prog 3 Try.f3 Rows.fnExactIsResolutionSpec Rows.fnExactIsResolutionRow = true := by kernel_rfl
theorem row30 : (fun (P : Program) (f : FuncId) (fn : Func) (s : ChangeSpec) (c : OpenClaim) => ((c.veiled == (fn.params.toList ++ s.plain.varTypes P ++ fn.resultTypes.toList).any (P.veiledRec ·)) : Bool)) Try.prog 3 Try.f3 Rows.fnExactIsResolutionSpec Rows.fnExactIsResolutionRow = true := by kernel_rfl
theorem row31 : (fun (P : Program) (f : FuncId) (fn : Func) (s : ChangeSpec) (c : OpenClaim) => (c.veiledFits P fn.params.toList (fn.params.toList ++ s.plain.varTypes P ++ fn.resultTypes.toList) : Bool)) Try.prog 3 Try.f3 Rows.fnExactIsResolutionSpec Rows.fnExactIsResolutionRow = true := by kernel_rfl
theorem and_t {a b : Bool} (h : a = true) (g : b = true) : (a && b) = true := by rw [h, g]; rfl
set_option maxRecDepth 100000 in
theorem closed_ : joinedFacts Try.prog 3 Try.f3 Rows.fnExactIsResolutionSpec Rows.fnExactIsResolutionRow = true := by
  unfold joinedFacts
  exact (and_t (and_t (and_t (and_t (and_t (and_t (and_t (and_t (and_t (and_t (and_t (and_t (and_t (and_t (and_t (and_t (and_t (and_t (and_t (and_t (and_t (and_t (and_t (and_t (and_t (and_t (and_t (and_t (and_t (and_t (and_t row0 fact1) fact2) row3) row4) row5) fact6) row7) fact8) row9) row10) row11) row12) row13) row14) row15) row16) row17) row18) row19) row20) row21) fact22) row23) fact24) fact25) fact26) fact27) row28) row29) row30) row31)
theorem named_ : Try.prog.funcNamed Rows.fnExactIsResolutionRow.func = some 3 := by kernel_rfl
theorem instance_ : Try.f3.isInstance Try.prog Rows.fnExactIsResolutionRow.origin Rows.fnExactIsResolutionRow.targs := of_decide_eq_true (by kernel_rfl)
theorem wrapper_ : Try.f3.isWrapper Try.prog Rows.fnExactIsResolutionRow.wrapper Rows.fnExactIsResolutionRow.mainSum := by unfold Func.isWrapper; first | (rw [if_pos (by decide +kernel)]; kernel_rfl) | (rw [if_neg (by decide +kernel)]; exact ⟨rfl, rfl⟩)
theorem proved : Rows.FnExactIsResolutionSaid :=
  OpenClaim.holds_of_wide 3 Try.f3 rfl rfl rfl rfl rfl rfl rfl ⟨rfl, rfl, rfl, rfl, rfl⟩ rfl rfl rfl rfl rfl named_ Try.func3 closed_ instance_ wrapper_
    (fun os started H enc _ => lifted os started H enc)
#print axioms proved
end Go.Proofs.Ytgfpljeppfaolaa.FnExactIsResolutionProof
