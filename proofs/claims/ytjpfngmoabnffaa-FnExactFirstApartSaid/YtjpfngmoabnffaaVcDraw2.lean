/-
  The calculus, part 13: a store behind which less is known; a call of a value that turns memory.
-/
import Derived.Test.YtjpfngmoabnffaaVcFun
set_option linter.unusedVariables false
set_option linter.unusedSimpArgs false
namespace Go.Vc
open Go Go.RowKit
section
variable {P : Program} {N : Nat} {w0 : World} {Q : Exit → Act → World → Prop} {σ σ' : Sig} {H H' Hs Hs' : List Assn} {ops : Array Oper}
def coverB (ops : Array Oper) (done free : List Nat) (o : Oper) : Bool := done.all fun i => (afters o).contains i || free.contains i
/-- A store: what has been read before may change, if those who read it are listed. -/
theorem D.effX (hwf : wfB ops = true) {effs done : List Nat} {e : Nat} {o : Oper} {K : Value → List Assn → Prop} (ho : ops[e]? = some o) (hne' : (done.contains e || !strictB ops e) = false) (hcl : closedB ops done e = true) (hg : o.guard = none)
    (hp : Ef P w0 o σ H Q K) (hd : o.dst = none) (free : List Nat) (hfree : coverB ops done free o = true) (hfreeD : ∀ i ∈ free, ∃ d v, look σ d = some v ∧ Nat.blt d N = true ∧ Det P w0 ops Q i σ Hs' d v)
    (h : ∀ v H', K v H' → (∀ w, St w0 H' w → St w0 Hs' w) ∧ D P N w0 ops Q (e :: afters o) (e :: done) σ Hs' H') : D P N w0 ops Q effs done σ Hs H := by
  have hne := (new_of hne').1
  have hcov : ∀ i ∈ done, i ∈ afters o ∨ i ∈ free := by
    intro i hi
    have := List.all_eq_true.1 hfree i hi
    simpa using this
  intro fuel
  induction fuel with
  | zero =>
    intro L a w hI hf
    exfalso
    have hel : e < L.size := by rw [hI.size]; exact (Array.getElem?_eq_some_iff.1 ho).1
    cases hv : L[e] with
    | true =>
      have := hI.listed e (by rw [Array.getElem?_eq_getElem hel, hv])
      simp [this] at hne
    | false =>
      have hmem : false ∈ L.toList := by
        rw [← hv]
        simp
      have : 0 < L.toList.countP (fun b => !b) := List.countP_pos_iff.2 ⟨false, hmem, rfl⟩
      omega
  | succ fuel ih =>
    intro L a w hI hf
    have hel : e < L.size := by rw [hI.size]; exact (Array.getElem?_eq_some_iff.1 ho).1
    have hLe : L[e]? = some false := by
      rw [Array.getElem?_eq_getElem hel]
      cases hv : L[e] with
      | true =>
        have := hI.listed e (by rw [Array.getElem?_eq_getElem hel, hv])
        simp [this] at hne
      | false => rfl
    refine ⟨fun hr => ?_, fun i hi => ?_⟩
    · obtain ⟨j, hj⟩ := pending_ready hwf hI.size (e + 1) e (by omega) hLe
      rw [hr] at hj
      simp at hj
    · obtain ⟨hLi, oi, hoi, hall⟩ := (mem_ready hI.size).1 hi
      by_cases hid : i ∈ done
      · rcases hI.dets i hid with he | ⟨d, v, σ1, ⟨o', ho', hod, hdet⟩, hv, hsub, hdN⟩
        · have := hI.effs_ i he
          rw [hLi] at this
          cases this
        · rw [hoi] at ho'
          cases ho'
          have hag := hI.agree hwf hi hoi
          refine hdet w (hI.sub w hI.st) a _ (fun t ht u hu => hag t ht u (hsub t u hu)) ?_
          exact ih _ _ _ (hI.step_det hwf hoi hod hLi hv hdN hid) (count_set hLi hf)
      · by_cases hie : i = e
        · subst hie
          obtain rfl : o = oi := by rw [ho] at hoi; exact Option.some.inj hoi
          have hag := hI.agree hwf hi ho
          have hlst : ∀ j ∈ afters o, L[j]? = some true := fun j hj => ready_after hI.size hi ho hj
          unfold wpOp
          rw [ho]
          simp only
          rw [if_pos (wanted_none hg _)]
          refine .inl (Oper.wp_mono ?_ (hp w hI.st a ?_))
          · rintro a' w' ⟨v, H', rfl, hw', hK⟩
            obtain ⟨hs', hD⟩ := h v H' hK
            have ha : a.put o.dst v = a := by rw [hd]; rfl
            rw [ha]
            refine hD _ _ _ _ ⟨by simpa using hI.size, hw', hI.defers, hI.tmps, ?_, ?_, ?_, ?_, hs', fun j hj => by rcases List.mem_cons.1 hj with e1 | e1; (· exact e1 ▸ (new_of hne').2); (· exact hI.strict j e1)⟩ (count_set hLi hf)
            · intro j hj
              rw [set_some hel] at hj
              by_cases e1 : j = i
              · simp [e1]
              · rw [if_neg e1] at hj
                exact List.mem_cons_of_mem _ (hI.listed j hj)
            · intro j hj
              rw [set_some hel]
              split
              · rfl
              · rename_i e1
                rcases List.mem_cons.1 hj with e2 | e2
                · exact absurd e2 e1
                · exact hlst j e2
            · intro t u hu
              rcases hI.slots t u hu with h1 | ⟨j, q, hj, hLj, hq, hqd⟩
              · exact .inl h1
              · refine .inr ⟨j, q, List.mem_cons_of_mem _ hj, ?_, hq, hqd⟩
                rw [set_some hel, if_neg]
                · exact hLj
                · rintro rfl
                  exact hid hj
            · intro j hj
              rcases List.mem_cons.1 hj with e1 | e1
              · exact .inl (by simp [e1])
              · rcases hcov j e1 with h1 | h1
                · exact .inl (List.mem_cons_of_mem _ h1)
                · obtain ⟨d, v1, hv1, hdN, hdet⟩ := hfreeD j h1
                  exact .inr ⟨d, v1, σ, hdet, hv1, fun t u hu => hu, hdN⟩
          · intro x hx u hu
            cases x with
            | tmp t =>
              have ht : t ∈ reads ops o := by
                unfold reads
                exact List.mem_append.2 (.inl (List.mem_filterMap.2 ⟨.tmp t, by simpa using hx, rfl⟩))
              have := hag t ht u hu
              simp [Act.eval, this]
            | const c => simpa [ev, Act.eval] using hu
            | global g => simpa [ev, Act.eval] using hu
            | func g => simpa [ev, Act.eval] using hu
        · exfalso
          have hc := List.all_eq_true.1 hcl i (List.mem_range.2 (by have := (Array.getElem?_eq_some_iff.1 hoi).1; exact this))
          simp only [hoi, Bool.or_eq_true] at hc
          rcases hc with (hc | hc) | hc
          · exact hid (by simpa using hc)
          · exact hie (Nat.eq_of_beq_eq_true hc)
          · obtain ⟨j, hj, hjd⟩ := List.any_eq_true.1 hc
            have := hI.listed j (ready_after hI.size hi hoi hj)
            simp [this] at hjd
/-- An operation that reads no memory is settled whatever the heap. -/
theorem Det.of {i d : Nat} {v : Value} {o : Oper} (ho : ops[i]? = some o) (hg : o.guard = none) (hd : o.dst = some d) (hp : Pu P w0 o σ Hs v) : Det P w0 ops Q i σ Hs d v := by
  refine ⟨o, ho, hd, fun w hw a K hag hK => ?_⟩
  unfold wpOp
  rw [ho]
  simp only
  rw [if_pos (wanted_none hg _)]
  refine .inl (upon_ok (hp w hw a ?_) ?_)
  · intro x hx u hu
    cases x with
    | tmp t =>
      have ht : t ∈ reads ops o := by
        unfold reads
        exact List.mem_append.2 (.inl (List.mem_filterMap.2 ⟨.tmp t, by simpa using hx, rfl⟩))
      have := hag t ht u hu
      simp [Act.eval, this]
    | const c => simpa [ev, Act.eval] using hu
    | global g => simpa [ev, Act.eval] using hu
    | func g => simpa [ev, Act.eval] using hu
  · rw [hd]
    exact hK
end
end Go.Vc
