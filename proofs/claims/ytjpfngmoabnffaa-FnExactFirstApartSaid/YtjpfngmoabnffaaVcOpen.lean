/-
  The calculus, part 6: what the arguments of a statement read as; from a contract to the call.
-/
import Derived.Test.YtjpfngmoabnffaaVcOwn
import Derived.OpenShut
import Derived.Deep.Slices
import Derived.ChangeSame
import Derived.ChangeArms
set_option linter.unusedVariables false
set_option linter.unusedSimpArgs false
namespace Go.Vc
open Go Go.RowKit Go.ChangeShapes Go.WideShapes

section
variable {H : Type} {enc : TypeId × Value → H} {P : Program} {w : World} {base : Nat} {spare : Nat → Bool} {held : Bool}

theorem open_b3 {e i : TypeId} {fuel : Nat} {cs : List Value} {x : DataW H × List MemPlace} (he : P.underlying e = some (.array 3 i)) (hi : P.underlying i = some (.int .i64)) (ce : P.cellsOf e = 3) (ci : P.cellsOf i = 1)
    (h : DataW.trod enc P w base spare held fuel e cs = some x) : ∃ b : B3, cs = B3.cs b := by
  obtain ⟨xs, m, _, _, hl, hlen, hf⟩ := DataW.trod_array he h
  rw [ce] at hl
  match cs, hl with
  | [u0, u1, u2], _ =>
    match xs, hlen with
    | [y0, y1, y2], _ =>
      have g0 := hf 0 (by omega)
      have g1 := hf 1 (by omega)
      have g2 := hf 2 (by omega)
      simp [ci] at g0 g1 g2
      obtain ⟨n0, e0, _, _⟩ := DataW.trod_int hi g0
      obtain ⟨n1, e1, _, _⟩ := DataW.trod_int hi g1
      obtain ⟨n2, e2, _, _⟩ := DataW.trod_int hi g2
      simp only [List.cons.injEq, and_true] at e0 e1 e2
      exact ⟨(n0, n1, n2), by rw [e0, e1, e2]; rfl⟩

theorem rd_of_cells {α : Type} {C : Cod α} {a : Addr} {n : Nat} (h : ∀ i, i < n → ∃ x : α, w.cells? base (a.add (i * C.sz)) C.sz = some (C.enc x)) : ∃ xs : List α, xs.length = n ∧ Rd C w (some a) xs := by
  have key : ∀ m, m ≤ n → ∃ xs : List α, xs.length = m ∧ Rd C w (some a) xs := by
    intro m
    induction m with
    | zero => exact fun _ => ⟨[], rfl, Rd.nil _ _ _⟩
    | succ m ih =>
      intro hm
      obtain ⟨xs, hl, hr⟩ := ih (by omega)
      obtain ⟨x, hx⟩ := h m (by omega)
      refine ⟨xs ++ [x], by simp [hl], fun i hi => ?_⟩
      by_cases e : i < xs.length
      · rw [List.getElem_append_left e]
        exact hr i e
      · have : i = m := by simp at hi; omega
        subst this
        refine ⟨a, rfl, fun j u hj => ?_⟩
        have hxx : (xs ++ [x])[i] = x := by simp [hl]
        rw [hxx] at hj
        obtain ⟨_, hlen, hcell⟩ := World.cells?_some hx
        have hjs : j < C.sz := by have := (List.getElem?_eq_some_iff.1 hj).1; rwa [C.len] at this
        have hc := hcell j hjs
        rw [Addr.add_add'] at hc
        rw [hc]
        exact hj
  exact key n (Nat.le_refl _)

theorem open_blocks {t e i : TypeId} {fuel : Nat} {cs : List Value} {x : DataW H × List MemPlace} (ht : P.underlying t = some (.slice e)) (he : P.underlying e = some (.array 3 i)) (hi : P.underlying i = some (.int .i64)) (ce : P.cellsOf e = 3) (ci : P.cellsOf i = 1)
    (h : DataW.trod enc P w base spare held fuel t cs = some x) : ∃ (A : Option Addr) (c : Nat) (bs : List B3), cs = [.slice A bs.length c] ∧ bs.length ≤ 9223372036854775807 ∧ Rd B3C w A bs := by
  rcases Deep.open_slice ht h with ⟨rfl, _⟩ | ⟨a, len, cap, m, n, D, Pl, rfl, hb, hl, hm, hmm, _, hx⟩
  · exact ⟨none, 0, [], rfl, by simp, Rd.nil _ _ _⟩
  · have hlm : len ≤ m := by rw [hmm]; split <;> omega
    have each : ∀ i, i < len → ∃ b : B3, w.cells? base (a.add (i * B3C.sz)) B3C.sz = some (B3C.enc b) := by
      intro j hj
      obtain ⟨cs', h1, h2⟩ := hx j (by omega)
      obtain ⟨b, rfl⟩ := open_b3 he hi ce ci h2
      rw [ce] at h1
      exact ⟨b, h1⟩
    obtain ⟨bs, hbl, hr⟩ := rd_of_cells each
    subst hbl
    simp only [maxLen] at hm
    exact ⟨some a, cap, bs, rfl, by omega, hr⟩

/-- A struct of a number and a slice of blocks. -/
theorem open_system {T t e i : TypeId} {f0 f1 : Field} {fuel : Nat} {cs : List Value} {x : DataW H × List MemPlace} (hT : P.underlying T = some (.struct #[f0, f1])) (cT : P.cellsOf T = 2) (o0 : f0.offset = 0) (o1 : f1.offset = 1) (t0 : f0.type = i) (t1 : f1.type = t)
    (ht : P.underlying t = some (.slice e)) (he : P.underlying e = some (.array 3 i)) (hi : P.underlying i = some (.int .i64)) (ce : P.cellsOf e = 3) (ci : P.cellsOf i = 1) (ct : P.cellsOf t = 1)
    (h : DataW.trod enc P w base spare held fuel T cs = some x) : ∃ (v : Int) (A : Option Addr) (c : Nat) (bs : List B3), cs = [.int .i64 v, .slice A bs.length c] ∧ (-9223372036854775808 ≤ v ∧ v ≤ 9223372036854775807) ∧ bs.length ≤ 9223372036854775807 ∧ Rd B3C w A bs := by
  obtain ⟨y0, y1, n, _, hl, h0, h1⟩ := ChangeShapes.trod_struct2 hT h
  rw [cT] at hl
  match cs, hl with
  | [u0, u1], _ =>
    subst t0
    subst t1
    simp [o0, o1, ci, ct] at h0 h1
    obtain ⟨v, e0, _, hv⟩ := DataW.trod_int hi h0
    obtain ⟨A, c, bs, e1, hb, hr⟩ := open_blocks ht he hi ce ci h1
    simp only [List.cons.injEq, and_true] at e0 e1
    refine ⟨v, A, c, bs, by rw [e0, e1], ?_, hb, hr⟩
    simp [Lit.wf, IntKind.min, IntKind.max, IntKind.signed, IntKind.bits] at hv
    omega

theorem okWide_agg {r : Reach} {t : TypeId} {v : Value} {b0 : Nat} (ht : aggT P t = true) (h : Value.okWide P w r b0 t v) : ∃ cs, v = .agg cs := by
  unfold Value.okWide at h
  unfold aggT at ht
  cases hu : P.underlying t with
  | none => simp [hu] at ht
  | some d =>
    rw [hu] at h ht
    cases d <;> simp at ht <;> (obtain ⟨cs, rfl, _⟩ := h; exact ⟨cs, rfl⟩)
end

theorem desk_cells {cs : Array Value} {a b c d : Value} (hl : cs.toList.length = 4) (h1 : (cs.toList.drop 0).take 2 = [a, b]) (h2 : (cs.toList.drop 2).take 2 = [c, d]) : cs = #[a, b, c, d] := by
  apply Array.ext'
  match h : cs.toList, hl with
  | [w, x, y, z], _ =>
    rw [h] at h1 h2
    simp at h1 h2
    simp [h1, h2]
/-- From the contract of a law to its call. -/
theorem law_calls {P : Program} {f : FuncId} {args : List Value} {w : World} (h : Does P f args w [] (fun v => [.pur (v = .bool true)])) : Calls P f args.toArray w fun e w' => e = .returned (.bool true) ∧ Below w.heap.size w w' := by
  refine (h w (St.start w)).mono ?_
  rintro e w' ⟨v, rfl, hs⟩
  exact ⟨by rw [hs.pur.1], hs.below.low⟩
end Go.Vc
