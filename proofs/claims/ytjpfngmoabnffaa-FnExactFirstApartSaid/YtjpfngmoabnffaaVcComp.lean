/-
  The calculus, part 14: a search for completions that hands them on.
-/
import Derived.Test.YtjpfngmoabnffaaVcDraw2
import Derived.Test.YtjpfngmoabnffaaPureComp2
import Derived.Test.YtjpfngmoabnffaaVcSub
set_option linter.unusedVariables false
set_option linter.unusedSimpArgs false
namespace Go.Vc
open Go Go.RowKit
section
variable {P : Program} {N : Nat} {w0 : World} {Q : Exit → Act → World → Prop} {σ : Sig} {H H' : List Assn} {ops : Array Oper} {rest : List Oper}
/-- A search: the completer's cells, its grid, its list; what has been handed on, l. -/
def CompK (T eT gT : TypeId) (cb gb v : Nat) (f : Value) (E : List (List B3) → Assn) (m : Nat) (xs : List B3) (l : List (List B3)) : Assn :=
  .exi fun q : (Option Addr × Nat) × (Int → Int → Int) => .sep (.pur (Rel v q.2 m)) (.sep (Blk cb [.int .i64 (v : Int), .pointer (some ⟨gb, 0, none⟩), .slice q.1.1 xs.length q.1.2, f] T) (.sep (Grid gb q.2 gT) (.sep (Own eT B3C q.1.1 q.1.2 xs) (E l))))
variable {T eT gT : TypeId} {cb gb v m : Nat} {f : Value} {E : List (List B3) → Assn} {xs : List B3} {l : List (List B3)}
theorem V.compK {c : Code} (h : ∀ A k G, Rel v G m → V P N w0 c Q σ (Blk cb [.int .i64 (v : Int), .pointer (some ⟨gb, 0, none⟩), .slice A xs.length k, f] T :: Grid gb G gT :: Own eT B3C A k xs :: E l :: H)) : V P N w0 c Q σ (CompK T eT gT cb gb v f E m xs l :: H) := by
  intro w hw
  obtain ⟨q, hw⟩ := hw.exi
  have h1 := hw.sep.pur
  exact h _ _ _ h1.1 w (by
    have h2 := h1.2.sep
    have h3 := (h2.perm (List.Perm.swap _ _ _)).sep
    have h4 := (h3.sub (Sub.keep 1 rfl (Sub.keep 0 rfl (Sub.refl _)))).perm (List.Perm.refl _)
    have h5 := (h3.perm (List.Perm.swap _ _ _)).sep
    exact (h5.sub (Sub.keep 3 rfl (Sub.keep 2 rfl (Sub.keep 0 rfl (Sub.keep 0 rfl (Sub.refl _)))))))
theorem X.compK {e : Exit} (h : ∀ A k G, Rel v G m → X N w0 Q e σ (Blk cb [.int .i64 (v : Int), .pointer (some ⟨gb, 0, none⟩), .slice A xs.length k, f] T :: Grid gb G gT :: Own eT B3C A k xs :: E l :: H)) : X N w0 Q e σ (CompK T eT gT cb gb v f E m xs l :: H) := by
  intro w hw
  obtain ⟨q, hw⟩ := hw.exi
  have h1 := hw.sep.pur
  exact h _ _ _ h1.1 w (by
    have h2 := h1.2.sep
    have h3 := (h2.perm (List.Perm.swap _ _ _)).sep
    have h5 := (h3.perm (List.Perm.swap _ _ _)).sep
    exact (h5.sub (Sub.keep 3 rfl (Sub.keep 2 rfl (Sub.keep 0 rfl (Sub.keep 0 rfl (Sub.refl _)))))))
theorem CompK.mk {A : Option Addr} {k : Nat} {G : Int → Int → Int} (hr : Rel v G m) {w : World} (hw : St w0 (Blk cb [.int .i64 (v : Int), .pointer (some ⟨gb, 0, none⟩), .slice A xs.length k, f] T :: Grid gb G gT :: Own eT B3C A k xs :: E l :: H) w) : St w0 (CompK T eT gT cb gb v f E m xs l :: H) w := by
  refine St.mkExi ((A, k), G) (St.unsep (St.addPur hr ?_))
  have h1 : St w0 (Own eT B3C A k xs :: E l :: Grid gb G gT :: Blk cb [.int .i64 (v : Int), .pointer (some ⟨gb, 0, none⟩), .slice A xs.length k, f] T :: H) w := hw.sub (Sub.keep 2 rfl (Sub.keep 2 rfl (Sub.keep 1 rfl (Sub.keep 0 rfl (Sub.refl _)))))
  have h2 := (St.unsep h1).perm (List.Perm.swap _ _ _)
  have h3 := (St.unsep h2).perm (List.Perm.swap _ _ _)
  exact St.unsep h3
theorem CompK.mk' {A : Option Addr} {k n : Nat} {b : B3} {G : Int → Int → Int} (hr : Rel v G m) (hn : n = xs.length) {w : World} (hw : St w0 (Blk cb [.int .i64 (v : Int), .pointer (some ⟨gb, 0, none⟩), .slice A n k, f] T :: Grid gb G gT :: Own eT B3C A k (xs ++ [b]) :: E l :: H) w) : St w0 (CompK T eT gT cb gb v f E m xs l :: H) w := by
  subst hn
  refine CompK.mk hr (hw.sub (Sub.keep 0 rfl (Sub.keep 0 rfl (Sub.cons 0 rfl (fun w F h => ?_) (Sub.refl _)))))
  have := Own.takeP xs.length w F h
  rwa [List.take_left'] at this
  rfl
/-- What a search calls with each completion. -/
def CallB (P : Program) (w0 : World) (eT : TypeId) (gf : Nat) (caps : Array Value) (E : List (List B3) → Assn) (cont : Nat → Bool) (okL : List B3 → Prop) (M : Nat) : Prop :=
  ∀ (l : List (List B3)) (xs : List B3) (A : Option Addr) (k : Nat) (H : List Assn), l.length < M → okL xs → Does P gf ([.slice A xs.length k] ++ caps.toList) w0 (Own eT B3C A k xs :: E l :: H) (fun r => [.sep (.pur (r = .bool (cont (l.length + 1)))) (.sep (Own eT B3C A k xs) (E (l ++ [xs])))] ++ H)
end
section
variable {v m a b c n p k M : Nat} {cont : Nat → Bool} {xs : List B3} {l : List (List B3)} {okL : List B3 → Prop}
theorem comp_some' (h : nextM v m = some (a, b)) (hn : 0 < n) : compM n v m = compJ (n - 1) v m a b v := by
  obtain ⟨k, rfl⟩ : ∃ k, n = k + 1 := ⟨n - 1, by omega⟩
  exact compM_some h
theorem left_pos (h : IsNext v m a b) (hn : leftN v m ≤ n) : 0 < n := by
  apply Decidable.byContradiction
  intro h0
  have h1 := leftN_zero (v := v) (m := m) (by omega) a b h.ab h.bv
  rw [h.left] at h1
  cases h1
theorem compM_len : ∀ n v m (q : List B3), q ∈ compM n v m → q.length ≤ n := by
  intro n
  induction n with
  | zero =>
    intro v m q hq
    unfold compM at hq
    split at hq
    · simp at hq; subst hq; simp
    · simp at hq
  | succ n ih =>
    intro v m q hq
    unfold compM at hq
    split at hq
    · simp at hq; subst hq; simp
    · obtain ⟨c, hc, h1⟩ := List.mem_flatMap.1 hq
      split at h1
      · obtain ⟨r, hr, rfl⟩ := List.mem_map.1 h1
        have := ih _ _ _ hr
        simp only [List.length_cons]
        omega
      · simp at h1
theorem leaf_nil_len {q : List B3} (h : q ∈ leaf [] (compM n v m)) : q.length ≤ n := by
  have : q ∈ compM n v m := by simpa [leaf] using h
  exact compM_len n v m q this
theorem fitsAt_nil : fitsAt ([] : List B3) ([] : List B3).length := fitsAt_zero []
theorem leaf_none (h : nextM v m = none) : leaf xs (compM n v m) = [xs] := by rw [compM_none h]; simp [leaf]
theorem runC_one {α : Type} {x : α} : runC cont k [x] = [x] := by unfold runC; split <;> rfl
theorem goesC_one {α : Type} {x : α} : goesC cont k [x] = cont (k + 1) := by simp [goesC]
theorem runC_pre {α : Type} {l r : List α} : (runC cont k l).length ≤ (runC cont k (l ++ r)).length := by
  cases h : goesC cont k l with
  | true => rw [runC_append h, runC_all h, List.length_append]; omega
  | false => rw [runC_stop h]; omega
theorem leaf_step (hm : may m a b p = true) : leaf xs (compJ n v m a b (p + 1)) = leaf xs (compJ n v m a b p) ++ leaf (xs ++ [b3N a b p]) (compM n v (putM m a b p)) := by
  rw [compJ_yes hm, leaf_append, leaf_cons]
theorem leaf_pre {i : Nat} (h : i ≤ c) : ∃ r, leaf xs (compJ n v m a b c) = leaf xs (compJ n v m a b i) ++ r := by
  obtain ⟨r, hr⟩ := compJ_prefix (n := n) (v := v) (m := m) (a := a) (b := b) h
  exact ⟨leaf xs r, by rw [← leaf_append, hr]⟩
theorem step_M (hgo : goesC cont k (leaf xs (compJ n v m a b p)) = true) (hm : may m a b p = true) (hp : p < v) (hM : k + (runC cont k (leaf xs (compJ n v m a b v))).length ≤ M) :
    (l ++ leaf xs (compJ n v m a b p)).length + (runC cont (k + (leaf xs (compJ n v m a b p)).length) (leaf (xs ++ [b3N a b p]) (compM n v (putM m a b p)))).length ≤ M + l.length - k ∨ l.length < k := by
  by_cases hk : l.length < k
  · exact .inr hk
  · refine .inl ?_
    obtain ⟨r, hr⟩ := leaf_pre (xs := xs) (n := n) (v := v) (m := m) (a := a) (b := b) (i := p + 1) (c := v) (by omega)
    have h1 := runC_pre (cont := cont) (k := k) (l := leaf xs (compJ n v m a b (p + 1))) (r := r)
    rw [← hr] at h1
    rw [leaf_step hm, runC_append hgo, List.length_append] at h1
    rw [List.length_append]
    omega
theorem step_M2 {l2 : List (List B3)} (hgo : goesC cont l.length (leaf xs (compJ n v m a b p)) = true) (hm : may m a b p = true) (hp : p < v) (hM : l.length + (runC cont l.length (leaf xs (compJ n v m a b v))).length ≤ M) (hl : l2 = l ++ leaf xs (compJ n v m a b p)) :
    l2.length + (runC cont l2.length (leaf (xs ++ [b3N a b p]) (compM n v (putM m a b p)))).length ≤ M := by
  have h := step_M (l := l) (M := M) hgo hm hp hM
  rw [hl, List.length_append] at *
  rcases h with h | h <;> omega
theorem step_go (hgo : goesC cont k (leaf xs (compJ n v m a b p)) = true) (hm : may m a b p = true) (h : goesC cont (k + (leaf xs (compJ n v m a b p)).length) (leaf (xs ++ [b3N a b p]) (compM n v (putM m a b p))) = true) :
    goesC cont k (leaf xs (compJ n v m a b (p + 1))) = true := by
  rw [leaf_step hm, goesC_append, hgo, h]; rfl
theorem step_stop (hgo : goesC cont k (leaf xs (compJ n v m a b p)) = true) (hm : may m a b p = true) (hp : p < v) (h : ¬ goesC cont (k + (leaf xs (compJ n v m a b p)).length) (leaf (xs ++ [b3N a b p]) (compM n v (putM m a b p))) = true) :
    goesC cont k (leaf xs (compJ n v m a b v)) = false ∧ runC cont k (leaf xs (compJ n v m a b v)) = leaf xs (compJ n v m a b p) ++ runC cont (k + (leaf xs (compJ n v m a b p)).length) (leaf (xs ++ [b3N a b p]) (compM n v (putM m a b p))) := by
  obtain ⟨r, hr⟩ := leaf_pre (xs := xs) (n := n) (v := v) (m := m) (a := a) (b := b) (i := p + 1) (c := v) (by omega)
  have h1 : goesC cont k (leaf xs (compJ n v m a b (p + 1))) = false := by
    rw [leaf_step hm, goesC_append, hgo, Bool.true_and]
    cases hh : goesC cont (k + (leaf xs (compJ n v m a b p)).length) (leaf (xs ++ [b3N a b p]) (compM n v (putM m a b p))) with
    | true => exact absurd hh h
    | false => rfl
  rw [hr]
  refine ⟨goesC_stop h1, ?_⟩
  rw [runC_stop h1, leaf_step hm, runC_append hgo]
theorem step_ok (hm : may m a b p = true) (hp : p < v) (h : ∀ q ∈ leaf xs (compJ n v m a b v), okL q) : ∀ q ∈ leaf (xs ++ [b3N a b p]) (compM n v (putM m a b p)), okL q := by
  intro q hq
  obtain ⟨r, hr⟩ := leaf_pre (xs := xs) (n := n) (v := v) (m := m) (a := a) (b := b) (i := p + 1) (c := v) (by omega)
  refine h q ?_
  rw [hr, leaf_step hm]
  simp [hq]
end
end Go.Vc
