/-
  The calculus, part 4: regions that draw their order. Operations whose value is settled (in whatever memory the region comes through) are settled first; what turns memory comes in the one order that the edges leave.
-/
import Derived.Test.YtjpfngmoabnffaaVcMem
set_option linter.unusedVariables false
set_option linter.unusedSimpArgs false
namespace Go.Vc
open Go Go.RowKit

def afters (o : Oper) : List Nat := (o.after.toList.filter fun e => Region.binds .any e).map (·.on)
def reads (ops : Array Oper) (o : Oper) : List Tmp :=
  (o.op.operands.toList.filterMap fun | .tmp t => some t | _ => none) ++ (match o.guard with | some (g, _) => ((ops[g]?).bind (·.dst)).toList | none => [])
def wfAt (ops : Array Oper) (i : Nat) : Bool :=
  match ops[i]? with
  | none => true
  | some o => (afters o).all (fun j => Nat.blt j i) &&
    (List.range ops.size).all fun j =>
      match ops[j]? with
      | none => true
      | some q => match q.dst with
        | none => true
        | some t => (Nat.beq j i && !(reads ops o).contains t) || (match o.dst with | some s => !Nat.beq s t | none => true)
/-- What this operation writes is read behind it alone. -/
def strictB (ops : Array Oper) (j : Nat) : Bool :=
  match (ops[j]?).bind (·.dst) with
  | none => true
  | some t => (List.range ops.size).all fun i => Nat.beq j i || match ops[i]? with | some o => !(reads ops o).contains t || (afters o).contains j | none => true
def wfB (ops : Array Oper) : Bool := (List.range ops.size).all (wfAt ops)

section
variable {ops : Array Oper}
theorem wf_at (h : wfB ops = true) {i : Nat} {o : Oper} (ho : ops[i]? = some o) : wfAt ops i = true := by
  have hi : i < ops.size := (Array.getElem?_eq_some_iff.1 ho).1
  exact List.all_eq_true.1 h i (List.mem_range.2 hi)
theorem wf_lt (h : wfB ops = true) {i j : Nat} {o : Oper} (ho : ops[i]? = some o) (hj : j ∈ afters o) : j < i := by
  have := wf_at h ho
  simp only [wfAt, ho, Bool.and_eq_true] at this
  have := List.all_eq_true.1 this.1 j hj
  simpa [Nat.blt_eq] using this
theorem wf_pair (h : wfB ops = true) {i j t : Nat} {o q : Oper} (ho : ops[i]? = some o) (hq : ops[j]? = some q) (hne : j ≠ i) (hst : strictB ops j = true) (ht : q.dst = some t) : (t ∈ reads ops o → j ∈ afters o) ∧ o.dst ≠ some t := by
  have := wf_at h ho
  simp only [wfAt, ho, Bool.and_eq_true] at this
  have hj : j < ops.size := (Array.getElem?_eq_some_iff.1 hq).1
  have := List.all_eq_true.1 this.2 j (List.mem_range.2 hj)
  simp only [hq, ht, Bool.or_eq_true, Bool.and_eq_true] at this
  rcases this with ⟨h1, _⟩ | h2
  · exact absurd (Nat.eq_of_beq_eq_true h1) hne
  · refine ⟨fun hm => ?_, fun he => ?_⟩
    · have hi : i < ops.size := (Array.getElem?_eq_some_iff.1 ho).1
      unfold strictB at hst
      rw [hq] at hst
      simp only [Option.bind_some, ht] at hst
      have h1 := List.all_eq_true.1 hst i (List.mem_range.2 hi)
      simp only [ho, Bool.or_eq_true] at h1
      rcases h1 with h1 | h1 | h1
      · exact absurd (Nat.eq_of_beq_eq_true h1) hne
      · simp [hm] at h1
      · simpa using h1
    · rw [he] at h2
      simp only [Bool.not_eq_true', Nat.beq_refl] at h2
      cases h2
end

def closedB (ops : Array Oper) (done : List Nat) (e : Nat) : Bool :=
  (List.range ops.size).all fun i => done.contains i || Nat.beq i e || (match ops[i]? with | some o => (afters o).any (fun j => !done.contains j) | none => true)

section
variable {P : Program} {N : Nat} {w0 : World} {Q : Exit → Act → World → Prop} {σ σ' : Sig} {H H' Hs : List Assn} {ops : Array Oper}

def AgreeG (σ : Sig) (ops : Array Oper) (o : Oper) (a : Act) : Prop := ∀ t, t ∈ reads ops o → ∀ v, look σ t = some v → a.tmps[t]? = some v

/-- An operation whose value is settled. -/
def Det (P : Program) (w0 : World) (ops : Array Oper) (Q : Exit → Act → World → Prop) (i : Nat) (σ : Sig) (Hs : List Assn) (d : Nat) (v : Value) : Prop :=
  ∃ o, ops[i]? = some o ∧ o.dst = some d ∧ ∀ w, St w0 Hs w → ∀ a K, AgreeG σ ops o a → K (a.put (some d) v) w → wpOp P ops Q i K a w

structure Inv (P : Program) (N : Nat) (w0 : World) (ops : Array Oper) (Q : Exit → Act → World → Prop) (effs done : List Nat) (σ : Sig) (Hs H : List Assn) (L : Array Bool) (a : Act) (w : World) : Prop where
  size : L.size = ops.size
  st : St w0 H w
  defers : a.defers = []
  tmps : a.tmps.size = N
  listed : ∀ i, L[i]? = some true → i ∈ done
  effs_ : ∀ i, i ∈ effs → L[i]? = some true
  slots : ∀ t v, look σ t = some v → a.tmps[t]? = some v ∨ ∃ i o, i ∈ done ∧ L[i]? = some false ∧ ops[i]? = some o ∧ o.dst = some t
  dets : ∀ i, i ∈ done → i ∈ effs ∨ ∃ d v σ1, Det P w0 ops Q i σ1 Hs d v ∧ look σ d = some v ∧ (∀ t u, look σ1 t = some u → look σ t = some u) ∧ Nat.blt d N = true
  sub : ∀ w, St w0 H w → St w0 Hs w
  strict : ∀ j, j ∈ done → strictB ops j = true

def D (P : Program) (N : Nat) (w0 : World) (ops : Array Oper) (Q : Exit → Act → World → Prop) (effs done : List Nat) (σ : Sig) (Hs H : List Assn) : Prop :=
  ∀ fuel L a w, Inv P N w0 ops Q effs done σ Hs H L a w → fuel = L.toList.countP (fun b => !b) → wpAny P .any ops Q fuel L a w

theorem mem_ready {md : Region.Mode} {L : Array Bool} {i : Nat} (hs : L.size = ops.size) : i ∈ Region.ready md ops L ↔ L[i]? = some false ∧ ∃ o, ops[i]? = some o ∧ ∀ e ∈ o.after.toList, Region.binds md e = true → L.getD e.on false = true := by
  unfold Region.ready
  simp only [List.mem_filter, List.mem_range, Bool.and_eq_true, Bool.not_eq_true']
  constructor
  · rintro ⟨hi, h1, h2⟩
    have hL : i < L.size := by omega
    refine ⟨by rw [Array.getD_eq_getD_getElem?] at h1; rw [Array.getElem?_eq_getElem hL] at h1 ⊢; simpa using h1, ops[i], Array.getElem?_eq_getElem hi, ?_⟩
    intro e he hb
    rw [Array.getElem?_eq_getElem hi] at h2
    simp only [Option.map_some, Option.getD_some] at h2
    have := (Array.all_eq_true_iff_forall_mem.1 h2) e (by simpa using he)
    simpa [hb] using this
  · rintro ⟨h1, o, ho, h2⟩
    have hi : i < ops.size := (Array.getElem?_eq_some_iff.1 ho).1
    refine ⟨hi, by rw [Array.getD_eq_getD_getElem?, h1]; rfl, ?_⟩
    rw [ho]
    simp only [Option.map_some, Option.getD_some]
    rw [Array.all_eq_true_iff_forall_mem]
    intro e he
    by_cases hb : Region.binds md e = true
    · simp [h2 e (by simpa using he) hb]
    · simp [hb]

theorem count_set {L : Array Bool} {i fuel : Nat} (h : L[i]? = some false) (hf : fuel + 1 = L.toList.countP (fun b => !b)) : fuel = (L.setIfInBounds i true).toList.countP (fun b => !b) := by
  rw [Array.toList_setIfInBounds]
  have hl : L.toList[i]? = some false := by simpa using h
  have key : ∀ (l : List Bool) (i : Nat), l[i]? = some false → l.countP (fun b => !b) = (l.set i true).countP (fun b => !b) + 1 := by
    intro l
    induction l with
    | nil => intro i h; simp at h
    | cons b l ih =>
      intro i h
      cases i with
      | zero =>
        simp only [List.getElem?_cons_zero, Option.some.injEq] at h
        subst h
        simp
      | succ i =>
        simp only [List.getElem?_cons_succ] at h
        simp only [List.set_cons_succ, List.countP_cons, ih i h]
        omega
  have := key L.toList i hl
  omega

theorem pending_ready (hwf : wfB ops = true) {L : Array Bool} (hs : L.size = ops.size) : ∀ (n i : Nat), i < n → L[i]? = some false → ∃ j, j ∈ Region.ready .any ops L := by
  intro n
  induction n with
  | zero => intro i hi; omega
  | succ n ih =>
    intro i hi hL
    have hio : i < ops.size := by have := (Array.getElem?_eq_some_iff.1 hL).1; omega
    by_cases h : ∃ j, j < i ∧ L[j]? = some false
    · obtain ⟨j, hj, hLj⟩ := h
      exact ih j (by omega) hLj
    · refine ⟨i, (mem_ready hs).2 ⟨hL, ops[i], Array.getElem?_eq_getElem hio, fun e he hb => ?_⟩⟩
      have hlt : e.on < i := wf_lt hwf (Array.getElem?_eq_getElem hio) (List.mem_map.2 ⟨e, List.mem_filter.2 ⟨he, hb⟩, rfl⟩)
      have hLe : e.on < L.size := by omega
      rw [Array.getD_eq_getD_getElem?, Array.getElem?_eq_getElem hLe]
      cases hv : L[e.on] with
      | true => rfl
      | false => exact absurd ⟨e.on, hlt, by rw [Array.getElem?_eq_getElem hLe, hv]⟩ h

theorem ready_after {L : Array Bool} (hs : L.size = ops.size) {i j : Nat} {o : Oper} (hi : i ∈ Region.ready .any ops L) (ho : ops[i]? = some o) (hj : j ∈ afters o) : L[j]? = some true := by
  obtain ⟨_, o', ho', h⟩ := (mem_ready hs).1 hi
  rw [ho] at ho'
  cases ho'
  obtain ⟨e, he, rfl⟩ := List.mem_map.1 hj
  obtain ⟨he, hb⟩ := List.mem_filter.1 he
  have := h e he hb
  rw [Array.getD_eq_getD_getElem?] at this
  cases hv : L[e.on]? with
  | none => simp [hv] at this
  | some b => simpa [hv] using this

theorem self_read (hwf : wfB ops = true) {i t : Nat} {o : Oper} (ho : ops[i]? = some o) (ht : t ∈ reads ops o) (hd : o.dst = some t) : False := by
  have := wf_at hwf ho
  simp only [wfAt, ho, Bool.and_eq_true] at this
  have hi : i < ops.size := (Array.getElem?_eq_some_iff.1 ho).1
  have := List.all_eq_true.1 this.2 i (List.mem_range.2 hi)
  simp only [ho, hd, Nat.beq_refl, Bool.true_and, Bool.not_true, Bool.and_false, Bool.or_false, Bool.not_eq_true'] at this
  simp [ht] at this

theorem Inv.agree (hwf : wfB ops = true) {effs done : List Nat} {L : Array Bool} {a : Act} {w : World} (h : Inv P N w0 ops Q effs done σ Hs H L a w) {i : Nat} {o : Oper} (hi : i ∈ Region.ready .any ops L) (ho : ops[i]? = some o) : AgreeG σ ops o a := by
  intro t ht v hv
  rcases h.slots t v hv with h1 | ⟨j, q, hj, hLj, hq, hd⟩
  · exact h1
  · by_cases e : j = i
    · subst e
      rw [ho] at hq
      cases hq
      exact (self_read hwf ho ht hd).elim
    · have := ready_after h.size hi ho ((wf_pair hwf ho hq e (h.strict j hj) hd).1 ht)
      rw [hLj] at this
      cases this

theorem set_some {L : Array Bool} {i j : Nat} {b : Bool} (hi : i < L.size) : (L.setIfInBounds i true)[j]? = some b ↔ if j = i then b = true else L[j]? = some b := by
  by_cases e : i = j
  · subst e
    simp [hi]
  · rw [Array.getElem?_setIfInBounds_ne e, if_neg (fun h => e h.symm)]

/-- A pending operation is carried out. -/
theorem Inv.step_det (hwf : wfB ops = true) {effs done : List Nat} {L : Array Bool} {a : Act} {w : World} (h : Inv P N w0 ops Q effs done σ Hs H L a w) {i d : Nat} {v : Value} {o : Oper} (ho : ops[i]? = some o) (hod : o.dst = some d) (hL : L[i]? = some false) (hv : look σ d = some v) (hN : Nat.blt d N = true) (hid : i ∈ done) :
    Inv P N w0 ops Q effs done σ Hs H (L.setIfInBounds i true) (a.put (some d) v) w := by
  have hi : i < L.size := (Array.getElem?_eq_some_iff.1 hL).1
  have hdN : d < N := by simpa [Nat.blt_eq] using hN
  refine ⟨by simpa using h.size, h.st, h.defers, by simp [Act.put, h.tmps], ?_, ?_, ?_, h.dets, h.sub, h.strict⟩
  · intro j hj
    rw [set_some hi] at hj
    by_cases e : j = i
    · exact e ▸ hid
    · rw [if_neg e] at hj
      exact h.listed j hj
  · intro j hj
    rw [set_some hi]
    split
    · rfl
    · exact h.effs_ j hj
  · intro t u hu
    by_cases e : d = t
    · subst e
      rw [hv] at hu
      cases hu
      exact .inl (by simp [Act.put, h.tmps, hdN])
    · rcases h.slots t u hu with h1 | ⟨j, q, hj, hLj, hq, hd⟩
      · refine .inl ?_
        simp only [Act.put]
        rw [Array.getElem?_setIfInBounds_ne e]
        exact h1
      · refine .inr ⟨j, q, hj, ?_, hq, hd⟩
        rw [set_some hi, if_neg]
        · exact hLj
        · rintro rfl
          rw [ho] at hq
          cases hq
          rw [hod] at hd
          cases hd
          exact e rfl

theorem new_of {done : List Nat} {i : Nat} {b : Bool} (h : (done.contains i || !b) = false) : done.contains i = false ∧ b = true := by
  cases h1 : done.contains i <;> cases b <;> simp_all
def freshB (d : Option Tmp) (σ : Sig) : Bool := match d with | some t => (look σ t).isNone | none => true
def closedL (ops : Array Oper) (done es : List Nat) : Bool :=
  (List.range ops.size).all fun i => done.contains i || es.contains i || (match ops[i]? with | some o => (afters o).any (fun j => !done.contains j) | none => true)
/-- An operation that may come next, and where it leads. -/
def Cand (P : Program) (N : Nat) (w0 : World) (ops : Array Oper) (Q : Exit → Act → World → Prop) (effs done : List Nat) (σ : Sig) (Hs H : List Assn) (e : Nat) : Prop :=
  ∃ (o : Oper) (K : Value → List Assn → Prop), ops[e]? = some o ∧ (done.contains e || !strictB ops e) = false ∧ (∀ a, AgreeG σ ops o a → Region.wanted o (yielded ops a.tmps) = true) ∧ Ef P w0 o σ H Q K ∧ dstOk o.dst N = true ∧ freshB o.dst σ = true ∧
    ∀ v H', K v H' → (∀ w, St w0 H w → St w0 Hs w) → (∀ w, St w0 H' w → St w0 Hs w) ∧ D P N w0 ops Q (e :: effs) (e :: done) (push o.dst v σ) Hs H'
/-- One of several comes next. -/
theorem D.effS (hwf : wfB ops = true) {effs done : List Nat} (es : List Nat) (e : Nat) (hes : e ∈ es) (hcl : closedL ops done es = true) (hc0 : ∀ e ∈ es, Cand P N w0 ops Q effs done σ Hs H e) : D P N w0 ops Q effs done σ Hs H := by
  obtain ⟨o, K0, ho, hne', hrest⟩ := hc0 e hes
  clear hrest
  have hne := (new_of hne').1
  intro fuel
  induction fuel with
  | zero =>
    intro L a w hI hf
    exfalso
    have hel : e < L.size := by rw [hI.size]; exact (Array.getElem?_eq_some_iff.1 ho).1
    cases hv : L[e] with
    | true =>
      have := hI.listed e (by rw [Array.getElem?_eq_getElem hel, hv])
      simp [this] at hne
    | false =>
      have hmem : false ∈ L.toList := by
        rw [← hv]
        simp
      have : 0 < L.toList.countP (fun b => !b) := List.countP_pos_iff.2 ⟨false, hmem, rfl⟩
      omega
  | succ fuel ih =>
    intro L a w hI hf
    have hel : e < L.size := by rw [hI.size]; exact (Array.getElem?_eq_some_iff.1 ho).1
    have hLe : L[e]? = some false := by
      rw [Array.getElem?_eq_getElem hel]
      cases hv : L[e] with
      | true =>
        have := hI.listed e (by rw [Array.getElem?_eq_getElem hel, hv])
        simp [this] at hne
      | false => rfl
    refine ⟨fun hr => ?_, fun i hi => ?_⟩
    · obtain ⟨j, hj⟩ := pending_ready hwf hI.size (e + 1) e (by omega) hLe
      rw [hr] at hj
      simp at hj
    · obtain ⟨hLi, oi, hoi, hall⟩ := (mem_ready hI.size).1 hi
      by_cases hid : i ∈ done
      · rcases hI.dets i hid with he | ⟨d, v, σ1, ⟨o', ho', hod, hdet⟩, hv, hsub, hdN⟩
        · have := hI.effs_ i he
          rw [hLi] at this
          cases this
        · rw [hoi] at ho'
          cases ho'
          have hag := hI.agree hwf hi hoi
          refine hdet w (hI.sub w hI.st) a _ (fun t ht u hu => hag t ht u (hsub t u hu)) ?_
          exact ih _ _ _ (hI.step_det hwf hoi hod hLi hv hdN hid) (count_set hLi hf)
      · by_cases hie : i ∈ es
        · clear hLe hel hne hne' ho hes
          clear o e
          obtain ⟨o, K, ho, hne', hg, hp, hN, hfresh, h⟩ := hc0 i hie
          have hel : i < L.size := by rw [hI.size]; exact (Array.getElem?_eq_some_iff.1 ho).1
          obtain rfl : o = oi := by rw [ho] at hoi; exact Option.some.inj hoi
          have hag := hI.agree hwf hi ho
          unfold wpOp
          rw [ho]
          simp only
          rw [if_pos (hg a hag)]
          refine .inl (Oper.wp_mono ?_ (hp w hI.st a ?_))
          · rintro a' w' ⟨v, H', rfl, hw', hK⟩
            obtain ⟨hs', hD⟩ := h v H' hK hI.sub
            refine hD _ _ _ _ ⟨by simpa using hI.size, hw', ?_, ?_, ?_, ?_, ?_, ?_, hs', fun j hj => by rcases List.mem_cons.1 hj with e1 | e1; (· exact e1 ▸ (new_of hne').2); (· exact hI.strict j e1)⟩ (count_set hLi hf)
            · cases o.dst <;> exact hI.defers
            · cases o.dst <;> simp [Act.put, hI.tmps]
            · intro j hj
              rw [set_some hel] at hj
              by_cases e1 : j = i
              · simp [e1]
              · rw [if_neg e1] at hj
                exact List.mem_cons_of_mem _ (hI.listed j hj)
            · intro j hj
              rw [set_some hel]
              split
              · rfl
              · rename_i e1
                rcases List.mem_cons.1 hj with e2 | e2
                · exact absurd e2 e1
                · exact hI.effs_ j e2
            · intro t u hu
              have key : look σ t = some u → (∀ s, o.dst = some s → s ≠ t) → (a.put o.dst v).tmps[t]? = some u ∨ ∃ j q, j ∈ i :: done ∧ (L.setIfInBounds i true)[j]? = some false ∧ ops[j]? = some q ∧ q.dst = some t := by
                intro hu1 hnd
                rcases hI.slots t u hu1 with h1 | ⟨j, q, hj, hLj, hq, hd⟩
                · refine .inl ?_
                  cases hs : o.dst with
                  | none => exact h1
                  | some s =>
                    simp only [Act.put]
                    rw [Array.getElem?_setIfInBounds_ne (hnd s hs)]
                    exact h1
                · refine .inr ⟨j, q, List.mem_cons_of_mem _ hj, ?_, hq, hd⟩
                  rw [set_some hel, if_neg]
                  · exact hLj
                  · rintro rfl
                    exact hid hj
              cases hs : o.dst with
              | none =>
                rw [hs] at hu
                have := key hu (by simp [hs])
                rwa [hs] at this
              | some s =>
                rw [hs] at hu hfresh hN
                simp only [push, look] at hu
                by_cases e1 : s = t
                · subst e1
                  rw [Nat.beq_refl] at hu
                  simp only [cond_true, Option.some.injEq] at hu
                  subst hu
                  have hsN : s < N := by simpa [dstOk, Nat.blt_eq] using hN
                  exact .inl (by simp [Act.put, hI.tmps, hsN])
                · rw [beq_ne e1] at hu
                  have := key hu (by rw [hs]; rintro r hr; cases hr; exact e1)
                  rwa [hs] at this
            · intro j hj
              rcases List.mem_cons.1 hj with e1 | e1
              · exact .inl (by simp [e1])
              · rcases hI.dets j e1 with h1 | ⟨d, v1, σ1, hdet, hv1, hsub, hdN⟩
                · exact .inl (List.mem_cons_of_mem _ h1)
                · have hp1 : ∀ t u, look σ t = some u → look (push o.dst v σ) t = some u := by
                    intro t u hu
                    cases hs : o.dst with
                    | none => exact hu
                    | some s =>
                      rw [hs] at hfresh
                      simp only [freshB] at hfresh
                      simp only [push, look]
                      by_cases e2 : s = t
                      · subst e2
                        rw [hu] at hfresh
                        cases hfresh
                      · rw [beq_ne e2]
                        exact hu
                  exact .inr ⟨d, v1, σ1, hdet, hp1 _ _ hv1, fun t u hu => hp1 t u (hsub t u hu), hdN⟩
          · intro x hx u hu
            cases x with
            | tmp t =>
              have ht : t ∈ reads ops o := by
                unfold reads
                exact List.mem_append.2 (.inl (List.mem_filterMap.2 ⟨.tmp t, by simpa using hx, rfl⟩))
              have := hag t ht u hu
              simp [Act.eval, this]
            | const c => simpa [ev, Act.eval] using hu
            | global g => simpa [ev, Act.eval] using hu
            | func g => simpa [ev, Act.eval] using hu
        · exfalso
          have hc := List.all_eq_true.1 hcl i (List.mem_range.2 (by have := (Array.getElem?_eq_some_iff.1 hoi).1; exact this))
          simp only [hoi, Bool.or_eq_true] at hc
          rcases hc with (hc | hc) | hc
          · exact hid (by simpa using hc)
          · exact hie (by simpa using hc)
          · obtain ⟨j, hj, hjd⟩ := List.any_eq_true.1 hc
            have := hI.listed j (ready_after hI.size hi hoi hj)
            simp [this] at hjd

theorem D.effW (hwf : wfB ops = true) {effs done : List Nat} {e : Nat} {o : Oper} {K : Value → List Assn → Prop} (ho : ops[e]? = some o) (hne' : (done.contains e || !strictB ops e) = false) (hcl : closedB ops done e = true) (hg : ∀ a, AgreeG σ ops o a → Region.wanted o (yielded ops a.tmps) = true)
    (hp : Ef P w0 o σ H Q K) {d : Option Tmp} (hd : o.dst = d) (hN : dstOk d N = true) (hfresh : freshB d σ = true)
    (h : ∀ v H', K v H' → (∀ w, St w0 H w → St w0 Hs w) → (∀ w, St w0 H' w → St w0 Hs w) ∧ D P N w0 ops Q (e :: effs) (e :: done) (push d v σ) Hs H') : D P N w0 ops Q effs done σ Hs H := by
  subst hd
  refine D.effS hwf [e] e (by simp) ?_ (fun i hi => ?_)
  · unfold closedL
    unfold closedB at hcl
    refine List.all_eq_true.2 fun i hi => ?_
    have := List.all_eq_true.1 hcl i hi
    simp only [Bool.or_eq_true] at this ⊢
    rcases this with (h1 | h1) | h1
    · exact .inl (.inl h1)
    · exact .inl (.inr (by simp [Nat.eq_of_beq_eq_true h1]))
    · exact .inr h1
  · simp only [List.mem_singleton] at hi
    subst hi
    exact ⟨o, K, ho, hne', hg, hp, hN, hfresh, h⟩

theorem Ef.know {o : Oper} {K : Value → List Assn → Prop} (h : Ef P w0 o σ H Q K) (hs : ∀ t u, look σ t = some u → look σ' t = some u) : Ef P w0 o σ' H Q K :=
  fun w hw a ha => h w hw a (fun x hx v hv => ha x hx v (by
    cases x with
    | tmp t => exact hs t v hv
    | const c => exact hv
    | global g => exact hv
    | func g => exact hv))
theorem D.same {effs done effs' done' : List Nat} (he : ∀ i, i ∈ effs' ↔ i ∈ effs) (hd : ∀ i, i ∈ done' ↔ i ∈ done) (h : D P N w0 ops Q effs done σ Hs H) : D P N w0 ops Q effs' done' σ Hs H := by
  intro fuel L a w hI hf
  refine h fuel L a w ⟨hI.size, hI.st, hI.defers, hI.tmps, fun i hi => (hd i).1 (hI.listed i hi), fun i hi => hI.effs_ i ((he i).2 hi), ?_, ?_, hI.sub, fun j hj => hI.strict j ((hd j).2 hj)⟩ hf
  · intro t v hv
    rcases hI.slots t v hv with h1 | ⟨j, q, hj, h2⟩
    · exact .inl h1
    · exact .inr ⟨j, q, (hd j).1 hj, h2⟩
  · intro i hi
    rcases hI.dets i ((hd i).2 hi) with h1 | h1
    · exact .inl ((he i).1 h1)
    · exact .inr h1
theorem D.know {effs done : List Nat} (h : (∀ w, St w0 H w → St w0 Hs w) → D P N w0 ops Q effs done σ Hs H) : D P N w0 ops Q effs done σ Hs H := fun fuel L a w hI hf => h hI.sub fuel L a w hI hf
theorem D.mapH0 {effs done : List Nat} (h1 : ∀ w, St w0 H w → St w0 H' w) (h2 : ∀ w, St w0 H' w → St w0 Hs w) (h : D P N w0 ops Q effs done σ Hs H') : D P N w0 ops Q effs done σ Hs H := by
  intro fuel L a w hI hf
  exact h fuel L a w ⟨hI.size, h1 w hI.st, hI.defers, hI.tmps, hI.listed, hI.effs_, hI.slots, hI.dets, h2, hI.strict⟩ hf
theorem D.same_look {effs done : List Nat} (hsame : ∀ t v, look σ t = some v ↔ look σ' t = some v) (h : D P N w0 ops Q effs done σ' Hs H) : D P N w0 ops Q effs done σ Hs H := by
  intro fuel L a w hI hf
  refine h fuel L a w ⟨hI.size, hI.st, hI.defers, hI.tmps, hI.listed, hI.effs_, fun t v hv => hI.slots t v ((hsame t v).2 hv), fun i hi => ?_, hI.sub, hI.strict⟩ hf
  rcases hI.dets i hi with h1 | ⟨d, v, σ1, h1, h2, h3, h4⟩
  · exact .inl h1
  · exact .inr ⟨d, v, σ1, h1, (hsame d v).1 h2, fun t u hu => (hsame t u).1 (h3 t u hu), h4⟩
/-- Two operations that each leave one thing more, in either order. -/
theorem D.two (hwf : wfB ops = true) {effs done : List Nat} {e1 e2 d1 d2 : Nat} {o1 o2 : Oper} {R1 R2 : Value → Assn → Prop} (ho1 : ops[e1]? = some o1) (ho2 : ops[e2]? = some o2) (hn1 : (done.contains e1 || !strictB ops e1) = false) (hn2 : (done.contains e2 || !strictB ops e2) = false)
    (hcl : closedL ops done [e1, e2] = true) (hcl1 : closedB ops (e1 :: done) e2 = true) (hcl2 : closedB ops (e2 :: done) e1 = true) (hne : Nat.beq e1 e2 = false) (hg1 : o1.guard = none) (hg2 : o2.guard = none) (hd1 : o1.dst = some d1) (hd2 : o2.dst = some d2)
    (hN1 : Nat.blt d1 N = true) (hN2 : Nat.blt d2 N = true) (hf1 : (look σ d1).isNone = true) (hf2 : (look σ d2).isNone = true) (hdd : Nat.beq d1 d2 = false)
    (hp1 : ∀ H, (∀ w, St w0 H w → St w0 Hs w) → Ef P w0 o1 σ H Q (fun v H' => ∃ B, R1 v B ∧ H' = B :: H)) (hp2 : ∀ H, (∀ w, St w0 H w → St w0 Hs w) → Ef P w0 o2 σ H Q (fun v H' => ∃ B, R2 v B ∧ H' = B :: H))
    (h : ∀ v1 B1 v2 B2, R1 v1 B1 → R2 v2 B2 → D P N w0 ops Q (e2 :: e1 :: effs) (e2 :: e1 :: done) ((d2, v2) :: (d1, v1) :: σ) Hs (B2 :: B1 :: H)) : D P N w0 ops Q effs done σ Hs H := by
  have n1 := (new_of hn1)
  have n2 := (new_of hn2)
  have hdd' : d1 ≠ d2 := ne_of_beq hdd
  have hee : e1 ≠ e2 := ne_of_beq hne
  have know : ∀ (d : Nat) (v : Value), (look σ d).isNone = true → ∀ t u, look σ t = some u → look ((d, v) :: σ) t = some u := by
    intro d v hf t u hu
    simp only [look]
    by_cases e : d = t
    · subst e
      rw [hu] at hf
      cases hf
    · rw [beq_ne e]
      exact hu
  have fresh : ∀ (d d' : Nat) (v : Value), d ≠ d' → (look σ d').isNone = true → (look ((d, v) :: σ) d').isNone = true := by
    intro d d' v e hf
    simp only [look, beq_ne e]
    exact hf
  refine D.know fun hs => ?_
  refine D.effS hwf [e1, e2] e1 (by simp) hcl (fun e he => ?_)
  simp only [List.mem_cons, List.not_mem_nil, or_false] at he
  rcases he with rfl | rfl
  · refine ⟨o1, _, ho1, hn1, fun _ _ => wanted_none hg1 _, hp1 H hs, by rw [hd1]; exact hN1, by rw [hd1]; exact hf1, ?_⟩
    rintro v1 _ ⟨B1, hR1, rfl⟩ _
    refine ⟨fun w hw => hs w hw.tail, ?_⟩
    rw [hd1]
    refine D.effS hwf [e2] e2 (by simp) ?_ (fun e he => ?_)
    · unfold closedL
      unfold closedB at hcl1
      refine List.all_eq_true.2 fun i hi => ?_
      have := List.all_eq_true.1 hcl1 i hi
      simp only [Bool.or_eq_true] at this ⊢
      rcases this with (h1 | h1) | h1
      · exact .inl (.inl h1)
      · exact .inl (.inr (by simp [Nat.eq_of_beq_eq_true h1]))
      · exact .inr h1
    · simp only [List.mem_singleton] at he
      subst he
      refine ⟨o2, _, ho2, ?_, fun _ _ => wanted_none hg2 _, (hp2 (B1 :: H) (fun w hw => hs w hw.tail)).know (know d1 v1 hf1), by rw [hd2]; exact hN2, by rw [hd2]; exact fresh d1 d2 v1 hdd' hf2, ?_⟩
      · have h1 : ¬ e ∈ done := by have := n2.1; simpa using this
        simp [h1, n2.2, Ne.symm hee]
      · rintro v2 _ ⟨B2, hR2, rfl⟩ _
        refine ⟨fun w hw => hs w hw.tail.tail, ?_⟩
        rw [hd2]
        exact h v1 B1 v2 B2 hR1 hR2
  · refine ⟨o2, _, ho2, hn2, fun _ _ => wanted_none hg2 _, hp2 H hs, by rw [hd2]; exact hN2, by rw [hd2]; exact hf2, ?_⟩
    rintro v2 _ ⟨B2, hR2, rfl⟩ _
    refine ⟨fun w hw => hs w hw.tail, ?_⟩
    rw [hd2]
    refine D.effS hwf [e1] e1 (by simp) ?_ (fun i he => ?_)
    · unfold closedL
      unfold closedB at hcl2
      refine List.all_eq_true.2 fun i hi => ?_
      have := List.all_eq_true.1 hcl2 i hi
      simp only [Bool.or_eq_true] at this ⊢
      rcases this with (h1 | h1) | h1
      · exact .inl (.inl h1)
      · exact .inl (.inr (by simp [Nat.eq_of_beq_eq_true h1]))
      · exact .inr h1
    · simp only [List.mem_singleton] at he
      subst he
      refine ⟨o1, _, ho1, ?_, fun _ _ => wanted_none hg1 _, (hp1 (B2 :: H) (fun w hw => hs w hw.tail)).know (know d2 v2 hf2), by rw [hd1]; exact hN1, by rw [hd1]; exact fresh d2 d1 v2 hdd'.symm hf1, ?_⟩
      · have h1 : ¬ i ∈ done := by have := n1.1; simpa using this
        simp [h1, n1.2, hee]
      · rintro v1 _ ⟨B1, hR1, rfl⟩ _
        refine ⟨fun w hw => hs w hw.tail.tail, ?_⟩
        rw [hd1]
        refine D.same (effs := e :: i :: effs) (done := e :: i :: done) (fun j => by simp only [List.mem_cons]; exact ⟨fun h => by rcases h with h | h | h <;> simp [h], fun h => by rcases h with h | h | h <;> simp [h]⟩) (fun j => by simp only [List.mem_cons]; exact ⟨fun h => by rcases h with h | h | h <;> simp [h], fun h => by rcases h with h | h | h <;> simp [h]⟩) ?_
        refine D.same_look (σ' := (d2, v2) :: (d1, v1) :: σ) ?_ ?_
        · intro t u
          simp only [push, look]
          by_cases a1 : d1 = t
          · subst a1
            rw [Nat.beq_refl, beq_ne (Ne.symm hdd')]
            rfl
          · rw [beq_ne a1]
            rfl
        · refine D.mapH0 (H' := B2 :: B1 :: H) (fun w hw => hw.perm (List.Perm.swap _ _ _)) (fun w hw => hs w hw.tail.tail) ?_
          exact h v1 B1 v2 B2 hR1 hR2
/-- .. a slice literal, and a call that leaves one thing. -/
theorem D.twoBC (hwf : wfB ops = true) {effs done : List Nat} {e1 e2 d1 d2 n : Nat} {o1 o2 : Oper} {B1 : Option Addr → Assn} {A2 : Value → Assn} (ho1 : ops[e1]? = some o1) (ho2 : ops[e2]? = some o2) (hn1 : (done.contains e1 || !strictB ops e1) = false) (hn2 : (done.contains e2 || !strictB ops e2) = false)
    (hcl : closedL ops done [e1, e2] = true) (hcl1 : closedB ops (e1 :: done) e2 = true) (hcl2 : closedB ops (e2 :: done) e1 = true) (hne : Nat.beq e1 e2 = false) (hg1 : o1.guard = none) (hg2 : o2.guard = none) (hd1 : o1.dst = some d1) (hd2 : o2.dst = some d2)
    (hN1 : Nat.blt d1 N = true) (hN2 : Nat.blt d2 N = true) (hf1 : (look σ d1).isNone = true) (hf2 : (look σ d2).isNone = true) (hdd : Nat.beq d1 d2 = false)
    (hp1 : ∀ H, (∀ w, St w0 H w → St w0 Hs w) → Ef P w0 o1 σ H Q (fun v H' => ∃ A : Option Addr, A.isSome = true ∧ v = .slice A n n ∧ H' = B1 A :: H)) (hp2 : ∀ H, (∀ w, St w0 H w → St w0 Hs w) → Ef P w0 o2 σ H Q (fun v H' => H' = A2 v :: H))
    (h : ∀ (A : Option Addr) v2, A.isSome = true → D P N w0 ops Q (e2 :: e1 :: effs) (e2 :: e1 :: done) ((d2, v2) :: (d1, .slice A n n) :: σ) Hs (A2 v2 :: B1 A :: H)) : D P N w0 ops Q effs done σ Hs H := by
  refine D.two hwf (R1 := fun v B => ∃ A : Option Addr, A.isSome = true ∧ v = .slice A n n ∧ B = B1 A) (R2 := fun v B => B = A2 v) ho1 ho2 hn1 hn2 hcl hcl1 hcl2 hne hg1 hg2 hd1 hd2 hN1 hN2 hf1 hf2 hdd ?_ ?_ ?_
  · intro H hs w hw a ha
    refine Oper.wp_mono ?_ (hp1 H hs w hw a ha)
    rintro a' w' ⟨v, H', h1, h2, A, h3, h4, h5⟩
    exact ⟨v, H', h1, h2, B1 A, ⟨A, h3, h4, rfl⟩, h5⟩
  · intro H hs w hw a ha
    refine Oper.wp_mono ?_ (hp2 H hs w hw a ha)
    rintro a' w' ⟨v, H', h1, h2, h3⟩
    exact ⟨v, H', h1, h2, A2 v, rfl, h3⟩
  · rintro v1 _ v2 _ ⟨A, h1, rfl, rfl⟩ rfl
    exact h A v2 h1
theorem D.eff (hwf : wfB ops = true) {effs done : List Nat} {e : Nat} {o : Oper} {K : Value → List Assn → Prop} (ho : ops[e]? = some o) (hne' : (done.contains e || !strictB ops e) = false) (hcl : closedB ops done e = true) (hg : o.guard = none)
    (hp : Ef P w0 o σ H Q K) {d : Option Tmp} (hd : o.dst = d) (hN : dstOk d N = true) (hfresh : freshB d σ = true)
    (h : ∀ v H', K v H' → (∀ w, St w0 H w → St w0 Hs w) → (∀ w, St w0 H' w → St w0 Hs w) ∧ D P N w0 ops Q (e :: effs) (e :: done) (push d v σ) Hs H') : D P N w0 ops Q effs done σ Hs H :=
  D.effW hwf ho hne' hcl (fun _ _ => wanted_none hg _) hp hd hN hfresh h
theorem reads_guard' {o : Oper} {j t : Nat} {b : Bool} (hg : o.guard = some (j, b)) (hj : (ops[j]?).bind (·.dst) = some t) : t ∈ reads ops o := by
  unfold reads
  rw [hg]
  refine List.mem_append.2 (.inr ?_)
  simp [hj]
theorem D.geff (hwf : wfB ops = true) {effs done : List Nat} {e : Nat} {o : Oper} {K : Value → List Assn → Prop} {j t : Nat} {b : Bool} (ho : ops[e]? = some o) (hne' : (done.contains e || !strictB ops e) = false) (hcl : closedB ops done e = true) (hg : o.guard = some (j, b)) (hj : (ops[j]?).bind (·.dst) = some t) (hu : look σ t = some (.bool b))
    (hp : Ef P w0 o σ H Q K) {d : Option Tmp} (hd : o.dst = d) (hN : dstOk d N = true) (hfresh : freshB d σ = true)
    (h : ∀ v H', K v H' → (∀ w, St w0 H w → St w0 Hs w) → (∀ w, St w0 H' w → St w0 Hs w) ∧ D P N w0 ops Q (e :: effs) (e :: done) (push d v σ) Hs H') : D P N w0 ops Q effs done σ Hs H := by
  refine D.effW hwf ho hne' hcl (fun a ha => ?_) hp hd hN hfresh h
  have hy : yielded ops a.tmps j = some b := by
    unfold yielded
    rw [hj]
    simp only [Option.bind_some]
    rw [ha t (reads_guard' hg hj) _ hu]
  simp [Region.wanted, hg, hy]

def allB (ops : Array Oper) (done : List Nat) : Bool := (List.range ops.size).all fun i => done.contains i

theorem D.done (hwf : wfB ops = true) {effs done : List Nat} (hall : allB ops done = true) (h : X N w0 Q .normal σ H) : D P N w0 ops Q effs done σ Hs H := by
  intro fuel
  have hin : ∀ i, i < ops.size → i ∈ done := fun i hi => by simpa using List.all_eq_true.1 hall i (List.mem_range.2 hi)
  have fin : ∀ L a w, Inv P N w0 ops Q effs done σ Hs H L a w → Region.ready .any ops L = [] → Q .normal a w := by
    intro L a w hI hr
    refine h w hI.st a ⟨hI.defers, hI.tmps, fun t v hv => ?_⟩
    rcases hI.slots t v hv with h1 | ⟨j, q, hj, hLj, hq, hd⟩
    · exact h1
    · obtain ⟨i, hi⟩ := pending_ready hwf hI.size (j + 1) j (by omega) hLj
      rw [hr] at hi
      simp at hi
  induction fuel with
  | zero =>
    intro L a w hI hf
    have hr : Region.ready .any ops L = [] := by
      rw [List.eq_nil_iff_forall_not_mem]
      intro i hi
      have hLi := ((mem_ready hI.size).1 hi).1
      have hmem : false ∈ L.toList := by
        have := (Array.getElem?_eq_some_iff.1 hLi)
        obtain ⟨hlt, he⟩ := this
        rw [← he]
        simp
      have : 0 < L.toList.countP (fun b => !b) := List.countP_pos_iff.2 ⟨false, hmem, rfl⟩
      omega
    exact ⟨hr, fin L a w hI hr⟩
  | succ fuel ih =>
    intro L a w hI hf
    refine ⟨fin L a w hI, fun i hi => ?_⟩
    obtain ⟨hLi, oi, hoi, _⟩ := (mem_ready hI.size).1 hi
    have hid := hin i (Array.getElem?_eq_some_iff.1 hoi).1
    rcases hI.dets i hid with he | ⟨d, v, σ1, ⟨o', ho', hod, hdet⟩, hv, hsub, hdN⟩
    · have := hI.effs_ i he
      rw [hLi] at this
      cases this
    · rw [hoi] at ho'
      cases ho'
      have hag := hI.agree hwf hi hoi
      refine hdet w (hI.sub w hI.st) a _ (fun t ht u hu => hag t ht u (hsub t u hu)) ?_
      exact ih _ _ _ (hI.step_det hwf hoi hod hLi hv hdN hid) (count_set hLi hf)

def lastB (ops : Array Oper) (done : List Nat) (e : Nat) : Bool :=
  (List.range ops.size).all fun i => Nat.beq i e || (done.contains i && match ops[e]? with | some o => (afters o).contains i | none => false)
/-- The last operation: it may write over what the others read. -/
theorem D.last (hwf : wfB ops = true) {effs done : List Nat} {e d : Nat} {o : Oper} {v : Value} (ho : ops[e]? = some o) (hne : done.contains e = false) (hla : lastB ops done e = true) (hg : o.guard = none) (hd : o.dst = some d) (hN : Nat.blt d N = true)
    (hp : Pu P w0 o σ Hs v) (h : X N w0 Q .normal ((d, v) :: σ) H) : D P N w0 ops Q effs done σ Hs H := by
  intro fuel
  have hall : ∀ i, i < ops.size → i ≠ e → i ∈ done ∧ i ∈ afters o := by
    intro i hi hie
    have := List.all_eq_true.1 hla i (List.mem_range.2 hi)
    simp only [ho, Bool.or_eq_true, Bool.and_eq_true] at this
    rcases this with h1 | ⟨h1, h2⟩
    · exact absurd (Nat.eq_of_beq_eq_true h1) hie
    · exact ⟨by simpa using h1, by simpa using h2⟩
  induction fuel with
  | zero =>
    intro L a w hI hf
    exfalso
    have hel : e < L.size := by rw [hI.size]; exact (Array.getElem?_eq_some_iff.1 ho).1
    cases hv : L[e] with
    | true =>
      have := hI.listed e (by rw [Array.getElem?_eq_getElem hel, hv])
      simp [this] at hne
    | false =>
      have hmem : false ∈ L.toList := by
        rw [← hv]
        simp
      have : 0 < L.toList.countP (fun b => !b) := List.countP_pos_iff.2 ⟨false, hmem, rfl⟩
      omega
  | succ fuel ih =>
    intro L a w hI hf
    have hel : e < L.size := by rw [hI.size]; exact (Array.getElem?_eq_some_iff.1 ho).1
    have hLe : L[e]? = some false := by
      rw [Array.getElem?_eq_getElem hel]
      cases hv : L[e] with
      | true =>
        have := hI.listed e (by rw [Array.getElem?_eq_getElem hel, hv])
        simp [this] at hne
      | false => rfl
    refine ⟨fun hr => ?_, fun i hi => ?_⟩
    · obtain ⟨j, hj⟩ := pending_ready hwf hI.size (e + 1) e (by omega) hLe
      rw [hr] at hj
      simp at hj
    · obtain ⟨hLi, oi, hoi, hall'⟩ := (mem_ready hI.size).1 hi
      have his : i < ops.size := (Array.getElem?_eq_some_iff.1 hoi).1
      by_cases hie : i = e
      · subst hie
        have hL : ∀ j, j < ops.size → j ≠ i → L[j]? = some true := fun j hj hji => ready_after hI.size hi ho (hall j hj hji).2
        have henv : Env N σ a := by
          refine ⟨hI.defers, hI.tmps, fun t u hu => ?_⟩
          rcases hI.slots t u hu with h1 | ⟨j, q, hj, hLj, hq, hqd⟩
          · exact h1
          · have hji : j ≠ i := by
              rintro rfl
              simp [hj] at hne
            rw [hL j (Array.getElem?_eq_some_iff.1 hq).1 hji] at hLj
            cases hLj
        unfold wpOp
        rw [ho]
        simp only
        rw [if_pos (wanted_none hg _)]
        refine .inl (upon_ok (hp w (hI.sub w hI.st) a (henv.agree o)) ?_)
        have hq : Q .normal (a.put o.dst v) w := by rw [hd]; exact h w hI.st _ (henv.put (d := some d) hN v)
        have hn : Region.ready .any ops (L.setIfInBounds i true) = [] := by
          rw [List.eq_nil_iff_forall_not_mem]
          intro j hj
          have h1 := ((mem_ready (by simpa using hI.size)).1 hj).1
          rw [set_some hel] at h1
          split at h1
          · cases h1
          · rename_i hji
            have hjs : j < ops.size := by have := (Array.getElem?_eq_some_iff.1 h1).1; rw [hI.size] at this; exact this
            rw [hL j hjs hji] at h1
            cases h1
        cases fuel with
        | zero => exact ⟨hn, hq⟩
        | succ f => exact ⟨fun _ => hq, fun j hj => by rw [hn] at hj; simp at hj⟩
      · have hid := (hall i his hie).1
        rcases hI.dets i hid with he | ⟨d, v, σ1, ⟨o', ho', hod, hdet⟩, hv, hsub, hdN⟩
        · have := hI.effs_ i he
          rw [hLi] at this
          cases this
        · rw [hoi] at ho'
          cases ho'
          have hag := hI.agree hwf hi hoi
          refine hdet w (hI.sub w hI.st) a _ (fun t ht u hu => hag t ht u (hsub t u hu)) ?_
          exact ih _ _ _ (hI.step_det hwf hoi hod hLi hv hdN hid) (count_set hLi hf)
theorem D.add {effs done : List Nat} {i d : Nat} {v : Value} (hne' : (done.contains i || !strictB ops i) = false) (hfresh : (look σ d).isNone = true) (hN : Nat.blt d N = true) (hdet : Det P w0 ops Q i σ Hs d v)
    (h : D P N w0 ops Q effs (i :: done) ((d, v) :: σ) Hs H) : D P N w0 ops Q effs done σ Hs H := by
  have hne := (new_of hne').1
  intro fuel L a w hI hf
  obtain ⟨o, ho, hod, hd⟩ := hdet
  have hi : i < L.size := by rw [hI.size]; exact (Array.getElem?_eq_some_iff.1 ho).1
  have hLi : L[i]? = some false := by
    rw [Array.getElem?_eq_getElem hi]
    cases hv : L[i] with
    | true =>
      have := hI.listed i (by rw [Array.getElem?_eq_getElem hi, hv])
      simp [this] at hne
    | false => rfl
  have hlk : ∀ t u, look σ t = some u → look ((d, v) :: σ) t = some u := by
    intro t u hu
    simp only [look]
    by_cases e : d = t
    · subst e
      rw [hu] at hfresh
      cases hfresh
    · rw [beq_ne e]
      exact hu
  refine h fuel L a w ⟨hI.size, hI.st, hI.defers, hI.tmps, fun j hj => List.mem_cons_of_mem _ (hI.listed j hj), hI.effs_, ?_, ?_, hI.sub, fun j hj => by rcases List.mem_cons.1 hj with e1 | e1; (· exact e1 ▸ (new_of hne').2); (· exact hI.strict j e1)⟩ hf
  · intro t u hu
    simp only [look] at hu
    by_cases e : d = t
    · subst e
      exact .inr ⟨i, o, by simp, hLi, ho, hod⟩
    · rw [beq_ne e] at hu
      rcases hI.slots t u hu with h1 | ⟨j, q, hj, hLj, hq, hd⟩
      · exact .inl h1
      · exact .inr ⟨j, q, List.mem_cons_of_mem _ hj, hLj, hq, hd⟩
  · intro j hj
    rcases List.mem_cons.1 hj with e | e
    · subst e
      exact .inr ⟨d, v, σ, ⟨o, ho, hod, hd⟩, by simp [look], hlk, hN⟩
    · rcases hI.dets j e with h1 | ⟨d1, v1, σ1, hdet1, hv1, hsub, hdN⟩
      · exact .inl h1
      · exact .inr ⟨d1, v1, σ1, hdet1, hlk _ _ hv1, fun t u hu => hlk t u (hsub t u hu), hdN⟩

theorem agree_of {o : Oper} {a : Act} (h : AgreeG σ ops o a) : Agree σ o a := by
  intro x hx u hu
  cases x with
  | tmp t =>
    have ht : t ∈ reads ops o := by
      unfold reads
      exact List.mem_append.2 (.inl (List.mem_filterMap.2 ⟨.tmp t, by simpa using hx, rfl⟩))
    have := h t ht u hu
    simp [Act.eval, this]
  | const c => simpa [ev, Act.eval] using hu
  | global g => simpa [ev, Act.eval] using hu
  | func g => simpa [ev, Act.eval] using hu

theorem D.p {effs done : List Nat} {d : Nat} {v : Value} {o : Oper} (i : Nat) (ho : ops[i]? = some o) (hne : (done.contains i || !strictB ops i) = false) (hg : o.guard = none) (hd : o.dst = some d) (hfresh : (look σ d).isNone = true) (hN : Nat.blt d N = true) (hp : Pu P w0 o σ Hs v)
    (h : D P N w0 ops Q effs (i :: done) ((d, v) :: σ) Hs H) : D P N w0 ops Q effs done σ Hs H := by
  refine D.add hne hfresh hN ⟨o, ho, hd, fun w hw a K ha hK => ?_⟩ h
  unfold wpOp
  rw [ho]
  simp only
  rw [if_pos (wanted_none hg _)]
  exact .inl (upon_ok (hp w hw a (agree_of ha)) (hd ▸ hK))
theorem reads_guard {o : Oper} {j t : Nat} {b : Bool} (hg : o.guard = some (j, b)) (hj : (ops[j]?).bind (·.dst) = some t) : t ∈ reads ops o := by
  unfold reads
  rw [hg]
  refine List.mem_append.2 (.inr ?_)
  simp [hj]
theorem D.gp {effs done : List Nat} {d j t : Nat} {b : Bool} {v : Value} {o : Oper} (i : Nat) (ho : ops[i]? = some o) (hne : (done.contains i || !strictB ops i) = false) (hg : o.guard = some (j, b)) (hj : (ops[j]?).bind (·.dst) = some t) (hu : look σ t = some (.bool b)) (hd : o.dst = some d) (hfresh : (look σ d).isNone = true) (hN : Nat.blt d N = true) (hp : Pu P w0 o σ Hs v)
    (h : D P N w0 ops Q effs (i :: done) ((d, v) :: σ) Hs H) : D P N w0 ops Q effs done σ Hs H := by
  refine D.add hne hfresh hN ⟨o, ho, hd, fun w hw a K ha hK => ?_⟩ h
  have hy : yielded ops a.tmps j = some b := by
    unfold yielded
    rw [hj]
    simp only [Option.bind_some]
    rw [ha t (reads_guard hg hj) _ hu]
  unfold wpOp
  rw [ho]
  simp only
  rw [if_pos (by simp [Region.wanted, hg, hy])]
  exact .inl (upon_ok (hp w hw a (agree_of ha)) (hd ▸ hK))
theorem D.gs {effs done : List Nat} {d j t : Nat} {b : Bool} {u : Value} {o : Oper} (i : Nat) (ho : ops[i]? = some o) (hne : (done.contains i || !strictB ops i) = false) (hg : o.guard = some (j, b)) (hj : (ops[j]?).bind (·.dst) = some t) (hu : look σ t = some u) (hneq : skipB b u = true) (hd : o.dst = some d) (hfresh : (look σ d).isNone = true) (hN : Nat.blt d N = true)
    (h : D P N w0 ops Q effs (i :: done) ((d, undef) :: σ) Hs H) : D P N w0 ops Q effs done σ Hs H := by
  refine D.add hne hfresh hN ⟨o, ho, hd, fun w hw a K ha hK => ?_⟩ h
  have hy : yielded ops a.tmps j = (match u with | .bool b => some b | _ => none) := by
    unfold yielded
    rw [hj]
    simp only [Option.bind_some]
    rw [ha t (reads_guard hg hj) _ hu]
    cases u <;> rfl
  unfold wpOp
  rw [ho]
  simp only
  rw [if_neg]
  · exact hd ▸ hK
  · simp only [Region.wanted, hg, hy]
    cases u with
    | bool c =>
      have hcb : c ≠ b := by
        intro e
        simp [skipB, e] at hneq
      simp [hcb]
    | _ => simp

theorem V.draw {id : Nat} (hm : P.follows .mixedOrders = true) (hwf : wfB ops = true) (h : wfB ops = true → D P N w0 ops Q [] [] σ H H) : V P N w0 (.region id ops true) Q σ H := by
  intro w hw a ha
  replace h := h hwf
  refine wp_region_any hm ?_
  have hw' : St w0 H { w with drawn := w.drawn + 1 } := hw.grow ⟨rfl, rfl, rfl, Nat.le_refl _, fun _ _ => rfl, Nat.le_succ _⟩
  refine h _ _ _ _ ⟨by simp, hw', ha.defers, ha.size, ?_, ?_, fun t v hv => .inl (ha.look_ t v hv), ?_, fun _ h => h, fun j hj => by simp at hj⟩ ?_
  · intro i hi
    rw [Array.getElem?_replicate] at hi
    split at hi <;> simp at hi
  · intro i hi
    simp at hi
  · intro i hi
    simp at hi
  · simp only [Array.toList_replicate, List.countP_replicate]
    rfl
/-- .. where a part of memory alone is looked at. -/
theorem V.drawS {id : Nat} (hm : P.follows .mixedOrders = true) (hwf : wfB ops = true) (hsub : Sub H Hs) (h : wfB ops = true → D P N w0 ops Q [] [] σ Hs H) : V P N w0 (.region id ops true) Q σ H := by
  intro w hw a ha
  replace h := h hwf
  refine wp_region_any hm ?_
  have hw' : St w0 H { w with drawn := w.drawn + 1 } := hw.grow ⟨rfl, rfl, rfl, Nat.le_refl _, fun _ _ => rfl, Nat.le_succ _⟩
  refine h _ _ _ _ ⟨by simp, hw', ha.defers, ha.size, ?_, ?_, fun t v hv => .inl (ha.look_ t v hv), ?_, fun _ h => h.sub hsub, fun j hj => by simp at hj⟩ ?_
  · intro i hi
    rw [Array.getElem?_replicate] at hi
    split at hi <;> simp at hi
  · intro i hi
    simp at hi
  · intro i hi
    simp at hi
  · simp only [Array.toList_replicate, List.countP_replicate]
    rfl
theorem D.ent' {effs done : List Nat} (hsame : ∀ t v, look σ t = some v ↔ look σ' t = some v) (h : D P N w0 ops Q effs done σ' Hs H) : D P N w0 ops Q effs done σ Hs H := by
  intro fuel L a w hI hf
  refine h fuel L a w ⟨hI.size, hI.st, hI.defers, hI.tmps, hI.listed, hI.effs_, fun t v hv => hI.slots t v ((hsame t v).2 hv), fun i hi => ?_, hI.sub, hI.strict⟩ hf
  rcases hI.dets i hi with h1 | ⟨d, v, σ1, h1, h2, h3, h4⟩
  · exact .inl h1
  · exact .inr ⟨d, v, σ1, h1, (hsame d v).1 h2, fun t u hu => (hsame t u).1 (h3 t u hu), h4⟩
theorem look_over {t : Nat} {v : Value} (h : look σ t = some v) : ∀ s u, look σ s = some u ↔ look ((t, v) :: σ) s = some u := by
  intro s u
  simp only [look]
  by_cases e : t = s
  · subst e
    rw [Nat.beq_refl]
    simp only [cond_true]
    rw [h]
  · rw [beq_ne e]
    rfl
theorem D.mapH {effs done : List Nat} (h1 : ∀ w, St w0 H w → St w0 H' w) (h2 : ∀ w, St w0 H' w → St w0 Hs w) (h : D P N w0 ops Q effs done σ Hs H') : D P N w0 ops Q effs done σ Hs H := by
  intro fuel L a w hI hf
  exact h fuel L a w ⟨hI.size, h1 w hI.st, hI.defers, hI.tmps, hI.listed, hI.effs_, hI.slots, hI.dets, h2, hI.strict⟩ hf
theorem D.exi {effs done : List Nat} {β : Type} {A : β → Assn} (h : ∀ x, D P N w0 ops Q effs done σ Hs (A x :: H)) : D P N w0 ops Q effs done σ Hs (.exi A :: H) := by
  intro fuel L a w hI hf
  obtain ⟨x, hx⟩ := hI.st.exi
  exact h x fuel L a w ⟨hI.size, hx, hI.defers, hI.tmps, hI.listed, hI.effs_, hI.slots, hI.dets, fun w hw => hI.sub w (hw.mkExi x), hI.strict⟩ hf
theorem D.sep {effs done : List Nat} {A B : Assn} (h : D P N w0 ops Q effs done σ Hs (A :: B :: H)) : D P N w0 ops Q effs done σ Hs (.sep A B :: H) := by
  intro fuel L a w hI hf
  exact h fuel L a w ⟨hI.size, hI.st.sep, hI.defers, hI.tmps, hI.listed, hI.effs_, hI.slots, hI.dets, fun w hw => hI.sub w hw.unsep, hI.strict⟩ hf
theorem D.pur1 {effs done : List Nat} {p : Prop} (h : p → D P N w0 ops Q effs done σ Hs H) : D P N w0 ops Q effs done σ Hs (.pur p :: H) := by
  intro fuel L a w hI hf
  obtain ⟨hp, hs⟩ := hI.st.pur
  exact h hp fuel L a w ⟨hI.size, hs, hI.defers, hI.tmps, hI.listed, hI.effs_, hI.slots, hI.dets, fun w hw => hI.sub w (hw.addPur hp), hI.strict⟩ hf
theorem D.splitD {effs done : List Nat} {p : Prop} [Decidable p] (t : Nat) (hv : look σ t = some (.bool (decide p))) (h1 : p → D P N w0 ops Q effs done ((t, .bool true) :: σ) Hs H) (h2 : ¬ p → D P N w0 ops Q effs done ((t, .bool false) :: σ) Hs H) : D P N w0 ops Q effs done σ Hs H := by
  by_cases hp : p
  · exact D.ent' (look_over (by rw [hv, decide_eq_true hp])) (h1 hp)
  · exact D.ent' (look_over (by rw [hv, decide_eq_false hp])) (h2 hp)
theorem D.splitN {effs done : List Nat} {p : Prop} [Decidable p] (t : Nat) (hv : look σ t = some (.bool (!decide p))) (h1 : ¬ p → D P N w0 ops Q effs done ((t, .bool true) :: σ) Hs H) (h2 : p → D P N w0 ops Q effs done ((t, .bool false) :: σ) Hs H) : D P N w0 ops Q effs done σ Hs H := by
  by_cases hp : p
  · exact D.ent' (look_over (by rw [hv, decide_eq_true hp]; rfl)) (h2 hp)
  · exact D.ent' (look_over (by rw [hv, decide_eq_false hp]; rfl)) (h1 hp)
theorem D.splitB {effs done : List Nat} {b : Bool} (t : Nat) (hv : look σ t = some (.bool b)) (h1 : b = true → D P N w0 ops Q effs done ((t, .bool true) :: σ) Hs H) (h2 : b = false → D P N w0 ops Q effs done ((t, .bool false) :: σ) Hs H) : D P N w0 ops Q effs done σ Hs H := by
  cases b
  · exact D.ent' (look_over hv) (h2 rfl)
  · exact D.ent' (look_over hv) (h1 rfl)
theorem D.pur {effs done : List Nat} {p : Prop} (hp : ∀ w, St w0 H w → p) (h : p → D P N w0 ops Q effs done σ Hs H) : D P N w0 ops Q effs done σ Hs H := fun fuel L a w hI hf => h (hp w hI.st) fuel L a w hI hf
end
end Go.Vc
