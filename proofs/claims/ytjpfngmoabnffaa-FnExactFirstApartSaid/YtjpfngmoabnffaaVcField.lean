/-
  The calculus, part 19: fields of a list's elements.
-/
import Derived.Test.YtjpfngmoabnffaaVcSrch
import Derived.Test.YtjpfngmoabnffaaPureNum
import Derived.Test.YtjpfngmoabnffaaPureSort
set_option linter.unusedVariables false
set_option linter.unusedSimpArgs false
namespace Go.Vc
open Go Go.RowKit
section
variable {P : Program} {w0 w : World} {σ : Sig} {H H' : List Assn} {o : Oper} {v : Int}
theorem Pu.fieldAddr' {T : TypeId} {x : Operand} {f off : Nat} {p : Option Addr} {fs : Array Field} {fd : Field} {n : Nat} (ho : o.op = .fieldAddr T x f) (hT : P.underlying T = some (.struct fs)) (hf : fs[f]? = some fd) (hs : Sz P fd.type (n + 1)) (hx : ev σ x = some (.pointer p)) (hr : fd.offset = off) (hp : ∀ w, St w0 H w → p.isSome = true) :
    Pu P w0 o σ H (.pointer (p.map (·.add off))) := by
  intro w hw a ha
  subst hr
  have h1 := ha x (by simp [ho, Op.operands]) _ hx
  obtain ⟨q, rfl⟩ := Option.isSome_iff_exists.1 (hp w hw)
  simp [execOp, ho, h1, Instr.fieldAt, run_underlying hT, hf, Instr.sureAddr, fieldPlace, run_sz hs]
theorem Ld.rowYf {A : Option Addr} {ps : List (Sl × List B3)} (hr : ∀ w, St w0 H w → Rd (SyC v) w A (tops ps)) (hn : LenOk ps) {k s : Nat} (hk : k < ps.length) (hs : s = 2) :
    ∀ w, St w0 H w → ∃ q, (A.map (·.add (k * s))).map (·.add 1) = some q ∧ w.cell? q = some (.slice (ps[k]).1.A (ps[k]).2.length (ps[k]).1.c) := by
  intro w hw
  obtain ⟨q, h1, h2⟩ := Ld.rowY hr hn hk hs w hw
  exact ⟨q.add 1, by rw [h1]; rfl, h2 1 _ rfl⟩
theorem prev_bef {ps qs : List (Sl × List B3)} {i k : Nat} (hpw : (conts ps).Pairwise befB) (ho : conts qs = (conts ps).take i) (hi : i < ps.length) (hk : k < qs.length) (hki : k < i) : befB (qs[k]).2 (ps[i]).2 := by
  have l1 := conts_len ps
  have l2 := conts_len qs
  have h := List.pairwise_iff_getElem.1 hpw k i (by omega) (by omega) hki
  have e1 : (conts ps)[i]'(by omega) = (ps[i]).2 := List.getElem_map ..
  have e2 : (conts qs)[k]'(by omega) = (qs[k]).2 := List.getElem_map ..
  have e3 : (conts qs)[k]'(by omega) = (conts ps)[k]'(by omega) := by
    have h4 : (conts qs)[k]? = (conts ps)[k]? := by rw [ho, List.getElem?_take]; simp [hki]
    rw [List.getElem?_eq_getElem (by omega), List.getElem?_eq_getElem (by omega)] at h4
    exact Option.some.inj h4
  rw [← e1, ← e2, e3]
  exact h
theorem runC_sub {α : Type} {cont : Nat → Bool} : ∀ {L : List α} {k : Nat}, (runC cont k L).Sublist L := by
  intro L
  induction L with
  | nil => intro k; exact List.Sublist.refl _
  | cons x L ih =>
    intro k
    unfold runC
    split
    · exact ih.cons_cons x
    · exact (List.nil_sublist L).cons_cons x
theorem runC_leaf_sub {cont : Nat → Bool} {n v m k : Nat} : (runC cont k (leaf [] (compM n v m))).Sublist (compM n v m) := by
  have e : leaf [] (compM n v m) = compM n v m := by simp [leaf]
  rw [e]
  exact runC_sub
end
theorem few_lt {v : Int} (h : few9 v) : (compM 40 v.toNat 0).length < 1000 := by
  rcases h with rfl | rfl | rfl
  · rw [cntM_eq]; show cntM 40 3 0 < 1000; rw [cnt3]; decide
  · rw [cntM_eq]; show cntM 40 7 0 < 1000; rw [cnt7]; decide
  · rw [cntM_eq]; show cntM 40 9 0 < 1000; rw [cnt9]; decide
theorem run_all {n v most : Nat} (h : (compM n v 0).length < most) : runC (fun j => decide (j < most)) 0 (leaf [] (compM n v 0)) = compM n v 0 := by
  have e : leaf [] (compM n v 0) = compM n v 0 := by simp [leaf]
  rw [e]
  refine runC_all ?_
  rw [goesC_most (by omega)]
  have := runC_le (cont := fun j => decide (j < most)) (k := 0) (l := compM n v 0)
  exact decide_eq_true (by omega)
theorem sub_sorted : ∀ {m l : List B3}, l.Pairwise B3.lt → m.Pairwise B3.lt → (∀ b ∈ l, b ∈ m) → l.Sublist m := by
  intro m
  induction m with
  | nil =>
    intro l _ _ h
    cases l with
    | nil => exact List.Sublist.refl _
    | cons x l => exact absurd (h x (by simp)) (by simp)
  | cons y m ih =>
    intro l hl hm h
    cases l with
    | nil => exact List.nil_sublist _
    | cons x l =>
      obtain ⟨h1, h2⟩ := List.pairwise_cons.1 hl
      obtain ⟨h3, h4⟩ := List.pairwise_cons.1 hm
      rcases List.mem_cons.1 (h x (by simp)) with rfl | hx
      · refine (ih h2 h4 fun b hb => ?_).cons_cons x
        rcases List.mem_cons.1 (h b (by simp [hb])) with rfl | hb'
        · exact absurd (h1 b hb) (lt_irrefl b)
        · exact hb'
      · refine (ih hl h4 fun b hb => ?_).cons y
        rcases List.mem_cons.1 (h b hb) with rfl | hb'
        · exfalso
          rcases List.mem_cons.1 hb with rfl | hb2
          · exact lt_irrefl b (h3 b hx)
          · exact lt_asymm3 (h3 x hx) (h1 b hb2)
        · exact hb'
/-- All the blocks of one list are in the other one. -/
theorem common_all {l m : List B3} (hl : l.Pairwise B3.lt) (hm : m.Pairwise B3.lt) (he : l.length = m.length) : (l.filter fun b => decide (b ∈ m)).length = m.length ↔ m = l := by
  constructor
  · intro h
    have h1 : l.filter (fun b => decide (b ∈ m)) = l := by
      have hs := List.filter_sublist (p := fun b => decide (b ∈ m)) (l := l)
      exact hs.eq_of_length (by omega)
    have hsub : ∀ b ∈ l, b ∈ m := by
      intro b hb
      rw [← h1] at hb
      simpa using (List.mem_filter.1 hb).2
    exact ((sub_sorted hl hm hsub).eq_of_length he).symm
  · intro h
    subst h
    rw [List.filter_eq_self.2 (by simp)]
end Go.Vc
