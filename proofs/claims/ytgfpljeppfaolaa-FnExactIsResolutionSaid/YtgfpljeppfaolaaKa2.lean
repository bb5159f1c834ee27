/-
  The calculus and plain words, part 2.
-/
import Derived.Test.YtgfpljeppfaolaaKa1
import Derived.Great.BuildSlice
import Derived.Laws.OwnMore
import Derived.Maps.AppendAt
import Derived.OpenShut
import Derived.Deep.Slices
import Derived.ChangeSame
import Derived.ChangeArms
import Derived.Lib.SliceRun
set_option linter.unusedVariables false
set_option linter.unusedSimpArgs false
namespace Go.Vc
open Go Go.RowKit

def afters (o : Oper) : List Nat := (o.after.toList.filter fun e => Region.binds .any e).map (·.on)
def reads (ops : Array Oper) (o : Oper) : List Tmp :=
  (o.op.operands.toList.filterMap fun | .tmp t => some t | _ => none) ++ (match o.guard with | some (g, _) => ((ops[g]?).bind (·.dst)).toList | none => [])
def wfAt (ops : Array Oper) (i : Nat) : Bool :=
  match ops[i]? with
  | none => true
  | some o => (afters o).all (fun j => Nat.blt j i) &&
    (List.range ops.size).all fun j =>
      match ops[j]? with
      | none => true
      | some q => match q.dst with
        | none => true
        | some t => (Nat.beq j i && !(reads ops o).contains t) || (match o.dst with | some s => !Nat.beq s t | none => true)
def strictB (ops : Array Oper) (j : Nat) : Bool :=
  match (ops[j]?).bind (·.dst) with
  | none => true
  | some t => (List.range ops.size).all fun i => Nat.beq j i || match ops[i]? with | some o => !(reads ops o).contains t || (afters o).contains j | none => true
def wfB (ops : Array Oper) : Bool := (List.range ops.size).all (wfAt ops)

section
variable {ops : Array Oper}
theorem wf_at (h : wfB ops = true) {i : Nat} {o : Oper} (ho : ops[i]? = some o) : wfAt ops i = true := by
  have hi : i < ops.size := (Array.getElem?_eq_some_iff.1 ho).1
  exact List.all_eq_true.1 h i (List.mem_range.2 hi)
theorem wf_lt (h : wfB ops = true) {i j : Nat} {o : Oper} (ho : ops[i]? = some o) (hj : j ∈ afters o) : j < i := by
  have := wf_at h ho
  simp only [wfAt, ho, Bool.and_eq_true] at this
  have := List.all_eq_true.1 this.1 j hj
  simpa [Nat.blt_eq] using this
theorem wf_pair (h : wfB ops = true) {i j t : Nat} {o q : Oper} (ho : ops[i]? = some o) (hq : ops[j]? = some q) (hne : j ≠ i) (hst : strictB ops j = true) (ht : q.dst = some t) : (t ∈ reads ops o → j ∈ afters o) ∧ o.dst ≠ some t := by
  have := wf_at h ho
  simp only [wfAt, ho, Bool.and_eq_true] at this
  have hj : j < ops.size := (Array.getElem?_eq_some_iff.1 hq).1
  have := List.all_eq_true.1 this.2 j (List.mem_range.2 hj)
  simp only [hq, ht, Bool.or_eq_true, Bool.and_eq_true] at this
  rcases this with ⟨h1, _⟩ | h2
  · exact absurd (Nat.eq_of_beq_eq_true h1) hne
  · refine ⟨fun hm => ?_, fun he => ?_⟩
    · have hi : i < ops.size := (Array.getElem?_eq_some_iff.1 ho).1
      unfold strictB at hst
      rw [hq] at hst
      simp only [Option.bind_some, ht] at hst
      have h1 := List.all_eq_true.1 hst i (List.mem_range.2 hi)
      simp only [ho, Bool.or_eq_true] at h1
      rcases h1 with h1 | h1 | h1
      · exact absurd (Nat.eq_of_beq_eq_true h1) hne
      · simp [hm] at h1
      · simpa using h1
    · rw [he] at h2
      simp only [Bool.not_eq_true', Nat.beq_refl] at h2
      cases h2
end

def closedB (ops : Array Oper) (done : List Nat) (e : Nat) : Bool :=
  (List.range ops.size).all fun i => done.contains i || Nat.beq i e || (match ops[i]? with | some o => (afters o).any (fun j => !done.contains j) | none => true)

section
variable {P : Program} {N : Nat} {w0 : World} {Q : Exit → Act → World → Prop} {σ σ' : Sig} {H H' Hs : List Assn} {ops : Array Oper}

def AgreeG (σ : Sig) (ops : Array Oper) (o : Oper) (a : Act) : Prop := ∀ t, t ∈ reads ops o → ∀ v, look σ t = some v → a.tmps[t]? = some v

def Det (P : Program) (w0 : World) (ops : Array Oper) (Q : Exit → Act → World → Prop) (i : Nat) (σ : Sig) (Hs : List Assn) (d : Nat) (v : Value) : Prop :=
  ∃ o, ops[i]? = some o ∧ o.dst = some d ∧ ∀ w, St w0 Hs w → ∀ a K, AgreeG σ ops o a → K (a.put (some d) v) w → wpOp P ops Q i K a w

def ClosL (ops : Array Oper) (L : Array Bool) : Prop := ∀ (i : Nat) (o : Oper), L[i]? = some true → ops[i]? = some o → ∀ j, j ∈ afters o → L[j]? = some true
structure Inv (P : Program) (N : Nat) (w0 : World) (ops : Array Oper) (Q : Exit → Act → World → Prop) (effs done : List Nat) (σ : Sig) (Hs H : List Assn) (L : Array Bool) (a : Act) (w : World) : Prop where
  size : L.size = ops.size
  st : St w0 H w
  defers : a.defers = []
  tmps : a.tmps.size = N
  listed : ∀ i, L[i]? = some true → i ∈ done
  effs_ : ∀ i, i ∈ effs → L[i]? = some true
  slots : ∀ t v, look σ t = some v → a.tmps[t]? = some v ∨ ∃ i o, i ∈ done ∧ L[i]? = some false ∧ ops[i]? = some o ∧ o.dst = some t
  dets : ∀ i, i ∈ done → i ∈ effs ∨ ∃ d v σ1, Det P w0 ops Q i σ1 Hs d v ∧ look σ d = some v ∧ (∀ t u, look σ1 t = some u → look σ t = some u) ∧ Nat.blt d N = true
  sub : ∀ w, St w0 H w → St w0 Hs w
  strict : ∀ j, j ∈ done → strictB ops j = true
  clos : ClosL ops L

def D (P : Program) (N : Nat) (w0 : World) (ops : Array Oper) (Q : Exit → Act → World → Prop) (effs done : List Nat) (σ : Sig) (Hs H : List Assn) : Prop :=
  ∀ fuel L a w, Inv P N w0 ops Q effs done σ Hs H L a w → fuel = L.toList.countP (fun b => !b) → wpAny P .any ops Q fuel L a w

theorem mem_ready {md : Region.Mode} {L : Array Bool} {i : Nat} (hs : L.size = ops.size) : i ∈ Region.ready md ops L ↔ L[i]? = some false ∧ ∃ o, ops[i]? = some o ∧ ∀ e ∈ o.after.toList, Region.binds md e = true → L.getD e.on false = true := by
  unfold Region.ready
  simp only [List.mem_filter, List.mem_range, Bool.and_eq_true, Bool.not_eq_true']
  constructor
  · rintro ⟨hi, h1, h2⟩
    have hL : i < L.size := by omega
    refine ⟨by rw [Array.getD_eq_getD_getElem?] at h1; rw [Array.getElem?_eq_getElem hL] at h1 ⊢; simpa using h1, ops[i], Array.getElem?_eq_getElem hi, ?_⟩
    intro e he hb
    rw [Array.getElem?_eq_getElem hi] at h2
    simp only [Option.map_some, Option.getD_some] at h2
    have := (Array.all_eq_true_iff_forall_mem.1 h2) e (by simpa using he)
    simpa [hb] using this
  · rintro ⟨h1, o, ho, h2⟩
    have hi : i < ops.size := (Array.getElem?_eq_some_iff.1 ho).1
    refine ⟨hi, by rw [Array.getD_eq_getD_getElem?, h1]; rfl, ?_⟩
    rw [ho]
    simp only [Option.map_some, Option.getD_some]
    rw [Array.all_eq_true_iff_forall_mem]
    intro e he
    by_cases hb : Region.binds md e = true
    · simp [h2 e (by simpa using he) hb]
    · simp [hb]

theorem count_set {L : Array Bool} {i fuel : Nat} (h : L[i]? = some false) (hf : fuel + 1 = L.toList.countP (fun b => !b)) : fuel = (L.setIfInBounds i true).toList.countP (fun b => !b) := by
  rw [Array.toList_setIfInBounds]
  have hl : L.toList[i]? = some false := by simpa using h
  have key : ∀ (l : List Bool) (i : Nat), l[i]? = some false → l.countP (fun b => !b) = (l.set i true).countP (fun b => !b) + 1 := by
    intro l
    induction l with
    | nil => intro i h; simp at h
    | cons b l ih =>
      intro i h
      cases i with
      | zero =>
        simp only [List.getElem?_cons_zero, Option.some.injEq] at h
        subst h
        simp
      | succ i =>
        simp only [List.getElem?_cons_succ] at h
        simp only [List.set_cons_succ, List.countP_cons, ih i h]
        omega
  have := key L.toList i hl
  omega

theorem pending_ready (hwf : wfB ops = true) {L : Array Bool} (hs : L.size = ops.size) : ∀ (n i : Nat), i < n → L[i]? = some false → ∃ j, j ∈ Region.ready .any ops L := by
  intro n
  induction n with
  | zero => intro i hi; omega
  | succ n ih =>
    intro i hi hL
    have hio : i < ops.size := by have := (Array.getElem?_eq_some_iff.1 hL).1; omega
    by_cases h : ∃ j, j < i ∧ L[j]? = some false
    · obtain ⟨j, hj, hLj⟩ := h
      exact ih j (by omega) hLj
    · refine ⟨i, (mem_ready hs).2 ⟨hL, ops[i], Array.getElem?_eq_getElem hio, fun e he hb => ?_⟩⟩
      have hlt : e.on < i := wf_lt hwf (Array.getElem?_eq_getElem hio) (List.mem_map.2 ⟨e, List.mem_filter.2 ⟨he, hb⟩, rfl⟩)
      have hLe : e.on < L.size := by omega
      rw [Array.getD_eq_getD_getElem?, Array.getElem?_eq_getElem hLe]
      cases hv : L[e.on] with
      | true => rfl
      | false => exact absurd ⟨e.on, hlt, by rw [Array.getElem?_eq_getElem hLe, hv]⟩ h

theorem ready_after {L : Array Bool} (hs : L.size = ops.size) {i j : Nat} {o : Oper} (hi : i ∈ Region.ready .any ops L) (ho : ops[i]? = some o) (hj : j ∈ afters o) : L[j]? = some true := by
  obtain ⟨_, o', ho', h⟩ := (mem_ready hs).1 hi
  rw [ho] at ho'
  cases ho'
  obtain ⟨e, he, rfl⟩ := List.mem_map.1 hj
  obtain ⟨he, hb⟩ := List.mem_filter.1 he
  have := h e he hb
  rw [Array.getD_eq_getD_getElem?] at this
  cases hv : L[e.on]? with
  | none => simp [hv] at this
  | some b => simpa [hv] using this

theorem self_read (hwf : wfB ops = true) {i t : Nat} {o : Oper} (ho : ops[i]? = some o) (ht : t ∈ reads ops o) (hd : o.dst = some t) : False := by
  have := wf_at hwf ho
  simp only [wfAt, ho, Bool.and_eq_true] at this
  have hi : i < ops.size := (Array.getElem?_eq_some_iff.1 ho).1
  have := List.all_eq_true.1 this.2 i (List.mem_range.2 hi)
  simp only [ho, hd, Nat.beq_refl, Bool.true_and, Bool.not_true, Bool.and_false, Bool.or_false, Bool.not_eq_true'] at this
  simp [ht] at this

theorem Inv.agree (hwf : wfB ops = true) {effs done : List Nat} {L : Array Bool} {a : Act} {w : World} (h : Inv P N w0 ops Q effs done σ Hs H L a w) {i : Nat} {o : Oper} (hi : i ∈ Region.ready .any ops L) (ho : ops[i]? = some o) : AgreeG σ ops o a := by
  intro t ht v hv
  rcases h.slots t v hv with h1 | ⟨j, q, hj, hLj, hq, hd⟩
  · exact h1
  · by_cases e : j = i
    · subst e
      rw [ho] at hq
      cases hq
      exact (self_read hwf ho ht hd).elim
    · have := ready_after h.size hi ho ((wf_pair hwf ho hq e (h.strict j hj) hd).1 ht)
      rw [hLj] at this
      cases this

theorem set_some {L : Array Bool} {i j : Nat} {b : Bool} (hi : i < L.size) : (L.setIfInBounds i true)[j]? = some b ↔ if j = i then b = true else L[j]? = some b := by
  by_cases e : i = j
  · subst e
    simp [hi]
  · rw [Array.getElem?_setIfInBounds_ne e, if_neg (fun h => e h.symm)]

theorem ClosL.set {L : Array Bool} {i : Nat} (h : ClosL ops L) (hs : L.size = ops.size) (hi : i ∈ Region.ready .any ops L) : ClosL ops (L.setIfInBounds i true) := by
  intro k o hk ho j hj
  have hil : i < L.size := (Array.getElem?_eq_some_iff.1 ((mem_ready hs).1 hi).1).1
  rw [set_some hil] at hk ⊢
  by_cases e : j = i
  · rw [if_pos e]
  · rw [if_neg e]
    by_cases e2 : k = i
    · subst e2; exact ready_after hs hi ho hj
    · rw [if_neg e2] at hk
      exact h k o hk ho j hj
theorem ClosL.start {n : Nat} : ClosL ops (Array.replicate n false) := by
  intro i o hi
  rw [Array.getElem?_replicate] at hi
  split at hi <;> simp at hi
theorem Inv.step_det (hwf : wfB ops = true) {effs done : List Nat} {L : Array Bool} {a : Act} {w : World} (h : Inv P N w0 ops Q effs done σ Hs H L a w) {i d : Nat} {v : Value} {o : Oper} (ho : ops[i]? = some o) (hod : o.dst = some d) (hL : L[i]? = some false) (hv : look σ d = some v) (hN : Nat.blt d N = true) (hid : i ∈ done) (hclo : ClosL ops (L.setIfInBounds i true)) :
    Inv P N w0 ops Q effs done σ Hs H (L.setIfInBounds i true) (a.put (some d) v) w := by
  have hi : i < L.size := (Array.getElem?_eq_some_iff.1 hL).1
  have hdN : d < N := by simpa [Nat.blt_eq] using hN
  refine ⟨by simpa using h.size, h.st, h.defers, by simp [Act.put, h.tmps], ?_, ?_, ?_, h.dets, h.sub, h.strict, hclo⟩
  · intro j hj
    rw [set_some hi] at hj
    by_cases e : j = i
    · exact e ▸ hid
    · rw [if_neg e] at hj
      exact h.listed j hj
  · intro j hj
    rw [set_some hi]
    split
    · rfl
    · exact h.effs_ j hj
  · intro t u hu
    by_cases e : d = t
    · subst e
      rw [hv] at hu
      cases hu
      exact .inl (by simp [Act.put, h.tmps, hdN])
    · rcases h.slots t u hu with h1 | ⟨j, q, hj, hLj, hq, hd⟩
      · refine .inl ?_
        simp only [Act.put]
        rw [Array.getElem?_setIfInBounds_ne e]
        exact h1
      · refine .inr ⟨j, q, hj, ?_, hq, hd⟩
        rw [set_some hi, if_neg]
        · exact hLj
        · rintro rfl
          rw [ho] at hq
          cases hq
          rw [hod] at hd
          cases hd
          exact e rfl

theorem new_of {done : List Nat} {i : Nat} {b : Bool} (h : (done.contains i || !b) = false) : done.contains i = false ∧ b = true := by
  cases h1 : done.contains i <;> cases b <;> simp_all
def freshB (d : Option Tmp) (σ : Sig) : Bool := match d with | some t => (look σ t).isNone | none => true
def closedL (ops : Array Oper) (done es : List Nat) : Bool :=
  (List.range ops.size).all fun i => done.contains i || es.contains i || (match ops[i]? with | some o => (afters o).any (fun j => !done.contains j) | none => true)
def Cand (P : Program) (N : Nat) (w0 : World) (ops : Array Oper) (Q : Exit → Act → World → Prop) (effs done : List Nat) (σ : Sig) (Hs H : List Assn) (e : Nat) : Prop :=
  ∃ (o : Oper) (K : Value → List Assn → Prop), ops[e]? = some o ∧ (done.contains e || !strictB ops e) = false ∧ (∀ a, AgreeG σ ops o a → Region.wanted o (yielded ops a.tmps) = true) ∧ Ef P w0 o σ H Q K ∧ dstOk o.dst N = true ∧ freshB o.dst σ = true ∧
    ∀ v H', K v H' → (∀ w, St w0 H w → St w0 Hs w) → (∀ w, St w0 H' w → St w0 Hs w) ∧ D P N w0 ops Q (e :: effs) (e :: done) (push o.dst v σ) Hs H'
theorem D.effS (hwf : wfB ops = true) {effs done : List Nat} (es : List Nat) (e : Nat) (hes : e ∈ es) (hcl : closedL ops done es = true) (hc0 : ∀ e ∈ es, Cand P N w0 ops Q effs done σ Hs H e) : D P N w0 ops Q effs done σ Hs H := by
  obtain ⟨o, K0, ho, hne', hrest⟩ := hc0 e hes
  clear hrest
  have hne := (new_of hne').1
  intro fuel
  induction fuel with
  | zero =>
    intro L a w hI hf
    exfalso
    have hel : e < L.size := by rw [hI.size]; exact (Array.getElem?_eq_some_iff.1 ho).1
    cases hv : L[e] with
    | true =>
      have := hI.listed e (by rw [Array.getElem?_eq_getElem hel, hv])
      simp [this] at hne
    | false =>
      have hmem : false ∈ L.toList := by
        rw [← hv]
        simp
      have : 0 < L.toList.countP (fun b => !b) := List.countP_pos_iff.2 ⟨false, hmem, rfl⟩
      omega
  | succ fuel ih =>
    intro L a w hI hf
    have hel : e < L.size := by rw [hI.size]; exact (Array.getElem?_eq_some_iff.1 ho).1
    have hLe : L[e]? = some false := by
      rw [Array.getElem?_eq_getElem hel]
      cases hv : L[e] with
      | true =>
        have := hI.listed e (by rw [Array.getElem?_eq_getElem hel, hv])
        simp [this] at hne
      | false => rfl
    refine ⟨fun hr => ?_, fun i hi => ?_⟩
    · obtain ⟨j, hj⟩ := pending_ready hwf hI.size (e + 1) e (by omega) hLe
      rw [hr] at hj
      simp at hj
    · obtain ⟨hLi, oi, hoi, hall⟩ := (mem_ready hI.size).1 hi
      by_cases hid : i ∈ done
      · rcases hI.dets i hid with he | ⟨d, v, σ1, ⟨o', ho', hod, hdet⟩, hv, hsub, hdN⟩
        · have := hI.effs_ i he
          rw [hLi] at this
          cases this
        · rw [hoi] at ho'
          cases ho'
          have hag := hI.agree hwf hi hoi
          refine hdet w (hI.sub w hI.st) a _ (fun t ht u hu => hag t ht u (hsub t u hu)) ?_
          exact ih _ _ _ (hI.step_det hwf hoi hod hLi hv hdN hid (hI.clos.set hI.size hi)) (count_set hLi hf)
      · by_cases hie : i ∈ es
        · clear hLe hel hne hne' ho hes
          clear o e
          obtain ⟨o, K, ho, hne', hg, hp, hN, hfresh, h⟩ := hc0 i hie
          have hel : i < L.size := by rw [hI.size]; exact (Array.getElem?_eq_some_iff.1 ho).1
          obtain rfl : o = oi := by rw [ho] at hoi; exact Option.some.inj hoi
          have hag := hI.agree hwf hi ho
          unfold wpOp
          rw [ho]
          simp only
          rw [if_pos (hg a hag)]
          refine .inl (Oper.wp_mono ?_ (hp w hI.st a ?_))
          · rintro a' w' ⟨v, H', rfl, hw', hK⟩
            obtain ⟨hs', hD⟩ := h v H' hK hI.sub
            refine hD _ _ _ _ ⟨by simpa using hI.size, hw', ?_, ?_, ?_, ?_, ?_, ?_, hs', fun j hj => by rcases List.mem_cons.1 hj with e1 | e1; (· exact e1 ▸ (new_of hne').2); (· exact hI.strict j e1), hI.clos.set hI.size hi⟩ (count_set hLi hf)
            · cases o.dst <;> exact hI.defers
            · cases o.dst <;> simp [Act.put, hI.tmps]
            · intro j hj
              rw [set_some hel] at hj
              by_cases e1 : j = i
              · simp [e1]
              · rw [if_neg e1] at hj
                exact List.mem_cons_of_mem _ (hI.listed j hj)
            · intro j hj
              rw [set_some hel]
              split
              · rfl
              · rename_i e1
                rcases List.mem_cons.1 hj with e2 | e2
                · exact absurd e2 e1
                · exact hI.effs_ j e2
            · intro t u hu
              have key : look σ t = some u → (∀ s, o.dst = some s → s ≠ t) → (a.put o.dst v).tmps[t]? = some u ∨ ∃ j q, j ∈ i :: done ∧ (L.setIfInBounds i true)[j]? = some false ∧ ops[j]? = some q ∧ q.dst = some t := by
                intro hu1 hnd
                rcases hI.slots t u hu1 with h1 | ⟨j, q, hj, hLj, hq, hd⟩
                · refine .inl ?_
                  cases hs : o.dst with
                  | none => exact h1
                  | some s =>
                    simp only [Act.put]
                    rw [Array.getElem?_setIfInBounds_ne (hnd s hs)]
                    exact h1
                · refine .inr ⟨j, q, List.mem_cons_of_mem _ hj, ?_, hq, hd⟩
                  rw [set_some hel, if_neg]
                  · exact hLj
                  · rintro rfl
                    exact hid hj
              cases hs : o.dst with
              | none =>
                rw [hs] at hu
                have := key hu (by simp [hs])
                rwa [hs] at this
              | some s =>
                rw [hs] at hu hfresh hN
                simp only [push, look] at hu
                by_cases e1 : s = t
                · subst e1
                  rw [Nat.beq_refl] at hu
                  simp only [cond_true, Option.some.injEq] at hu
                  subst hu
                  have hsN : s < N := by simpa [dstOk, Nat.blt_eq] using hN
                  exact .inl (by simp [Act.put, hI.tmps, hsN])
                · rw [beq_ne e1] at hu
                  have := key hu (by rw [hs]; rintro r hr; cases hr; exact e1)
                  rwa [hs] at this
            · intro j hj
              rcases List.mem_cons.1 hj with e1 | e1
              · exact .inl (by simp [e1])
              · rcases hI.dets j e1 with h1 | ⟨d, v1, σ1, hdet, hv1, hsub, hdN⟩
                · exact .inl (List.mem_cons_of_mem _ h1)
                · have hp1 : ∀ t u, look σ t = some u → look (push o.dst v σ) t = some u := by
                    intro t u hu
                    cases hs : o.dst with
                    | none => exact hu
                    | some s =>
                      rw [hs] at hfresh
                      simp only [freshB] at hfresh
                      simp only [push, look]
                      by_cases e2 : s = t
                      · subst e2
                        rw [hu] at hfresh
                        cases hfresh
                      · rw [beq_ne e2]
                        exact hu
                  exact .inr ⟨d, v1, σ1, hdet, hp1 _ _ hv1, fun t u hu => hp1 t u (hsub t u hu), hdN⟩
          · intro x hx u hu
            cases x with
            | tmp t =>
              have ht : t ∈ reads ops o := by
                unfold reads
                exact List.mem_append.2 (.inl (List.mem_filterMap.2 ⟨.tmp t, by simpa using hx, rfl⟩))
              have := hag t ht u hu
              simp [Act.eval, this]
            | const c => simpa [ev, Act.eval] using hu
            | global g => simpa [ev, Act.eval] using hu
            | func g => simpa [ev, Act.eval] using hu
        · exfalso
          have hc := List.all_eq_true.1 hcl i (List.mem_range.2 (by have := (Array.getElem?_eq_some_iff.1 hoi).1; exact this))
          simp only [hoi, Bool.or_eq_true] at hc
          rcases hc with (hc | hc) | hc
          · exact hid (by simpa using hc)
          · exact hie (by simpa using hc)
          · obtain ⟨j, hj, hjd⟩ := List.any_eq_true.1 hc
            have := hI.listed j (ready_after hI.size hi hoi hj)
            simp [this] at hjd

theorem D.effW (hwf : wfB ops = true) {effs done : List Nat} {e : Nat} {o : Oper} {K : Value → List Assn → Prop} (ho : ops[e]? = some o) (hne' : (done.contains e || !strictB ops e) = false) (hcl : closedB ops done e = true) (hg : ∀ a, AgreeG σ ops o a → Region.wanted o (yielded ops a.tmps) = true)
    (hp : Ef P w0 o σ H Q K) {d : Option Tmp} (hd : o.dst = d) (hN : dstOk d N = true) (hfresh : freshB d σ = true)
    (h : ∀ v H', K v H' → (∀ w, St w0 H w → St w0 Hs w) → (∀ w, St w0 H' w → St w0 Hs w) ∧ D P N w0 ops Q (e :: effs) (e :: done) (push d v σ) Hs H') : D P N w0 ops Q effs done σ Hs H := by
  subst hd
  refine D.effS hwf [e] e (by simp) ?_ (fun i hi => ?_)
  · unfold closedL
    unfold closedB at hcl
    refine List.all_eq_true.2 fun i hi => ?_
    have := List.all_eq_true.1 hcl i hi
    simp only [Bool.or_eq_true] at this ⊢
    rcases this with (h1 | h1) | h1
    · exact .inl (.inl h1)
    · exact .inl (.inr (by simp [Nat.eq_of_beq_eq_true h1]))
    · exact .inr h1
  · simp only [List.mem_singleton] at hi
    subst hi
    exact ⟨o, K, ho, hne', hg, hp, hN, hfresh, h⟩

theorem Ef.know {o : Oper} {K : Value → List Assn → Prop} (h : Ef P w0 o σ H Q K) (hs : ∀ t u, look σ t = some u → look σ' t = some u) : Ef P w0 o σ' H Q K :=
  fun w hw a ha => h w hw a (fun x hx v hv => ha x hx v (by
    cases x with
    | tmp t => exact hs t v hv
    | const c => exact hv
    | global g => exact hv
    | func g => exact hv))
theorem D.same {effs done effs' done' : List Nat} (he : ∀ i, i ∈ effs' ↔ i ∈ effs) (hd : ∀ i, i ∈ done' ↔ i ∈ done) (h : D P N w0 ops Q effs done σ Hs H) : D P N w0 ops Q effs' done' σ Hs H := by
  intro fuel L a w hI hf
  refine h fuel L a w ⟨hI.size, hI.st, hI.defers, hI.tmps, fun i hi => (hd i).1 (hI.listed i hi), fun i hi => hI.effs_ i ((he i).2 hi), ?_, ?_, hI.sub, fun j hj => hI.strict j ((hd j).2 hj), hI.clos⟩ hf
  · intro t v hv
    rcases hI.slots t v hv with h1 | ⟨j, q, hj, h2⟩
    · exact .inl h1
    · exact .inr ⟨j, q, (hd j).1 hj, h2⟩
  · intro i hi
    rcases hI.dets i ((hd i).2 hi) with h1 | h1
    · exact .inl ((he i).1 h1)
    · exact .inr h1
theorem D.know {effs done : List Nat} (h : (∀ w, St w0 H w → St w0 Hs w) → D P N w0 ops Q effs done σ Hs H) : D P N w0 ops Q effs done σ Hs H := fun fuel L a w hI hf => h hI.sub fuel L a w hI hf
theorem D.mapH0 {effs done : List Nat} (h1 : ∀ w, St w0 H w → St w0 H' w) (h2 : ∀ w, St w0 H' w → St w0 Hs w) (h : D P N w0 ops Q effs done σ Hs H') : D P N w0 ops Q effs done σ Hs H := by
  intro fuel L a w hI hf
  exact h fuel L a w ⟨hI.size, h1 w hI.st, hI.defers, hI.tmps, hI.listed, hI.effs_, hI.slots, hI.dets, h2, hI.strict, hI.clos⟩ hf
theorem D.same_look {effs done : List Nat} (hsame : ∀ t v, look σ t = some v ↔ look σ' t = some v) (h : D P N w0 ops Q effs done σ' Hs H) : D P N w0 ops Q effs done σ Hs H := by
  intro fuel L a w hI hf
  refine h fuel L a w ⟨hI.size, hI.st, hI.defers, hI.tmps, hI.listed, hI.effs_, fun t v hv => hI.slots t v ((hsame t v).2 hv), fun i hi => ?_, hI.sub, hI.strict, hI.clos⟩ hf
  rcases hI.dets i hi with h1 | ⟨d, v, σ1, h1, h2, h3, h4⟩
  · exact .inl h1
  · exact .inr ⟨d, v, σ1, h1, (hsame d v).1 h2, fun t u hu => (hsame t u).1 (h3 t u hu), h4⟩
theorem D.two (hwf : wfB ops = true) {effs done : List Nat} {e1 e2 d1 d2 : Nat} {o1 o2 : Oper} {R1 R2 : Value → Assn → Prop} (ho1 : ops[e1]? = some o1) (ho2 : ops[e2]? = some o2) (hn1 : (done.contains e1 || !strictB ops e1) = false) (hn2 : (done.contains e2 || !strictB ops e2) = false)
    (hcl : closedL ops done [e1, e2] = true) (hcl1 : closedB ops (e1 :: done) e2 = true) (hcl2 : closedB ops (e2 :: done) e1 = true) (hne : Nat.beq e1 e2 = false) (hg1 : o1.guard = none) (hg2 : o2.guard = none) (hd1 : o1.dst = some d1) (hd2 : o2.dst = some d2)
    (hN1 : Nat.blt d1 N = true) (hN2 : Nat.blt d2 N = true) (hf1 : (look σ d1).isNone = true) (hf2 : (look σ d2).isNone = true) (hdd : Nat.beq d1 d2 = false)
    (hp1 : ∀ H, (∀ w, St w0 H w → St w0 Hs w) → Ef P w0 o1 σ H Q (fun v H' => ∃ B, R1 v B ∧ H' = B :: H)) (hp2 : ∀ H, (∀ w, St w0 H w → St w0 Hs w) → Ef P w0 o2 σ H Q (fun v H' => ∃ B, R2 v B ∧ H' = B :: H))
    (h : ∀ v1 B1 v2 B2, R1 v1 B1 → R2 v2 B2 → D P N w0 ops Q (e2 :: e1 :: effs) (e2 :: e1 :: done) ((d2, v2) :: (d1, v1) :: σ) Hs (B2 :: B1 :: H)) : D P N w0 ops Q effs done σ Hs H := by
  have n1 := (new_of hn1)
  have n2 := (new_of hn2)
  have hdd' : d1 ≠ d2 := ne_of_beq hdd
  have hee : e1 ≠ e2 := ne_of_beq hne
  have know : ∀ (d : Nat) (v : Value), (look σ d).isNone = true → ∀ t u, look σ t = some u → look ((d, v) :: σ) t = some u := by
    intro d v hf t u hu
    simp only [look]
    by_cases e : d = t
    · subst e
      rw [hu] at hf
      cases hf
    · rw [beq_ne e]
      exact hu
  have fresh : ∀ (d d' : Nat) (v : Value), d ≠ d' → (look σ d').isNone = true → (look ((d, v) :: σ) d').isNone = true := by
    intro d d' v e hf
    simp only [look, beq_ne e]
    exact hf
  refine D.know fun hs => ?_
  refine D.effS hwf [e1, e2] e1 (by simp) hcl (fun e he => ?_)
  simp only [List.mem_cons, List.not_mem_nil, or_false] at he
  rcases he with rfl | rfl
  · refine ⟨o1, _, ho1, hn1, fun _ _ => wanted_none hg1 _, hp1 H hs, by rw [hd1]; exact hN1, by rw [hd1]; exact hf1, ?_⟩
    rintro v1 _ ⟨B1, hR1, rfl⟩ _
    refine ⟨fun w hw => hs w hw.tail, ?_⟩
    rw [hd1]
    refine D.effS hwf [e2] e2 (by simp) ?_ (fun e he => ?_)
    · unfold closedL
      unfold closedB at hcl1
      refine List.all_eq_true.2 fun i hi => ?_
      have := List.all_eq_true.1 hcl1 i hi
      simp only [Bool.or_eq_true] at this ⊢
      rcases this with (h1 | h1) | h1
      · exact .inl (.inl h1)
      · exact .inl (.inr (by simp [Nat.eq_of_beq_eq_true h1]))
      · exact .inr h1
    · simp only [List.mem_singleton] at he
      subst he
      refine ⟨o2, _, ho2, ?_, fun _ _ => wanted_none hg2 _, (hp2 (B1 :: H) (fun w hw => hs w hw.tail)).know (know d1 v1 hf1), by rw [hd2]; exact hN2, by rw [hd2]; exact fresh d1 d2 v1 hdd' hf2, ?_⟩
      · have h1 : ¬ e ∈ done := by have := n2.1; simpa using this
        simp [h1, n2.2, Ne.symm hee]
      · rintro v2 _ ⟨B2, hR2, rfl⟩ _
        refine ⟨fun w hw => hs w hw.tail.tail, ?_⟩
        rw [hd2]
        exact h v1 B1 v2 B2 hR1 hR2
  · refine ⟨o2, _, ho2, hn2, fun _ _ => wanted_none hg2 _, hp2 H hs, by rw [hd2]; exact hN2, by rw [hd2]; exact hf2, ?_⟩
    rintro v2 _ ⟨B2, hR2, rfl⟩ _
    refine ⟨fun w hw => hs w hw.tail, ?_⟩
    rw [hd2]
    refine D.effS hwf [e1] e1 (by simp) ?_ (fun i he => ?_)
    · unfold closedL
      unfold closedB at hcl2
      refine List.all_eq_true.2 fun i hi => ?_
      have := List.all_eq_true.1 hcl2 i hi
      simp only [Bool.or_eq_true] at this ⊢
      rcases this with (h1 | h1) | h1
      · exact .inl (.inl h1)
      · exact .inl (.inr (by simp [Nat.eq_of_beq_eq_true h1]))
      · exact .inr h1
    · simp only [List.mem_singleton] at he
      subst he
      refine ⟨o1, _, ho1, ?_, fun _ _ => wanted_none hg1 _, (hp1 (B2 :: H) (fun w hw => hs w hw.tail)).know (know d2 v2 hf2), by rw [hd1]; exact hN1, by rw [hd1]; exact fresh d2 d1 v2 hdd'.symm hf1, ?_⟩
      · have h1 : ¬ i ∈ done := by have := n1.1; simpa using this
        simp [h1, n1.2, hee]
      · rintro v1 _ ⟨B1, hR1, rfl⟩ _
        refine ⟨fun w hw => hs w hw.tail.tail, ?_⟩
        rw [hd1]
        refine D.same (effs := e :: i :: effs) (done := e :: i :: done) (fun j => by simp only [List.mem_cons]; exact ⟨fun h => by rcases h with h | h | h <;> simp [h], fun h => by rcases h with h | h | h <;> simp [h]⟩) (fun j => by simp only [List.mem_cons]; exact ⟨fun h => by rcases h with h | h | h <;> simp [h], fun h => by rcases h with h | h | h <;> simp [h]⟩) ?_
        refine D.same_look (σ' := (d2, v2) :: (d1, v1) :: σ) ?_ ?_
        · intro t u
          simp only [push, look]
          by_cases a1 : d1 = t
          · subst a1
            rw [Nat.beq_refl, beq_ne (Ne.symm hdd')]
            rfl
          · rw [beq_ne a1]
            rfl
        · refine D.mapH0 (H' := B2 :: B1 :: H) (fun w hw => hw.perm (List.Perm.swap _ _ _)) (fun w hw => hs w hw.tail.tail) ?_
          exact h v1 B1 v2 B2 hR1 hR2
theorem D.eff (hwf : wfB ops = true) {effs done : List Nat} {e : Nat} {o : Oper} {K : Value → List Assn → Prop} (ho : ops[e]? = some o) (hne' : (done.contains e || !strictB ops e) = false) (hcl : closedB ops done e = true) (hg : o.guard = none)
    (hp : Ef P w0 o σ H Q K) {d : Option Tmp} (hd : o.dst = d) (hN : dstOk d N = true) (hfresh : freshB d σ = true)
    (h : ∀ v H', K v H' → (∀ w, St w0 H w → St w0 Hs w) → (∀ w, St w0 H' w → St w0 Hs w) ∧ D P N w0 ops Q (e :: effs) (e :: done) (push d v σ) Hs H') : D P N w0 ops Q effs done σ Hs H :=
  D.effW hwf ho hne' hcl (fun _ _ => wanted_none hg _) hp hd hN hfresh h
theorem reads_guard' {o : Oper} {j t : Nat} {b : Bool} (hg : o.guard = some (j, b)) (hj : (ops[j]?).bind (·.dst) = some t) : t ∈ reads ops o := by
  unfold reads
  rw [hg]
  refine List.mem_append.2 (.inr ?_)
  simp [hj]
theorem D.geff (hwf : wfB ops = true) {effs done : List Nat} {e : Nat} {o : Oper} {K : Value → List Assn → Prop} {j t : Nat} {b : Bool} (ho : ops[e]? = some o) (hne' : (done.contains e || !strictB ops e) = false) (hcl : closedB ops done e = true) (hg : o.guard = some (j, b)) (hj : (ops[j]?).bind (·.dst) = some t) (hu : look σ t = some (.bool b))
    (hp : Ef P w0 o σ H Q K) {d : Option Tmp} (hd : o.dst = d) (hN : dstOk d N = true) (hfresh : freshB d σ = true)
    (h : ∀ v H', K v H' → (∀ w, St w0 H w → St w0 Hs w) → (∀ w, St w0 H' w → St w0 Hs w) ∧ D P N w0 ops Q (e :: effs) (e :: done) (push d v σ) Hs H') : D P N w0 ops Q effs done σ Hs H := by
  refine D.effW hwf ho hne' hcl (fun a ha => ?_) hp hd hN hfresh h
  have hy : yielded ops a.tmps j = some b := by
    unfold yielded
    rw [hj]
    simp only [Option.bind_some]
    rw [ha t (reads_guard' hg hj) _ hu]
  simp [Region.wanted, hg, hy]

def allB (ops : Array Oper) (done : List Nat) : Bool := (List.range ops.size).all fun i => done.contains i

theorem D.done (hwf : wfB ops = true) {effs done : List Nat} (hall : allB ops done = true) (h : X N w0 Q .normal σ H) : D P N w0 ops Q effs done σ Hs H := by
  intro fuel
  have hin : ∀ i, i < ops.size → i ∈ done := fun i hi => by simpa using List.all_eq_true.1 hall i (List.mem_range.2 hi)
  have fin : ∀ L a w, Inv P N w0 ops Q effs done σ Hs H L a w → Region.ready .any ops L = [] → Q .normal a w := by
    intro L a w hI hr
    refine h w hI.st a ⟨hI.defers, hI.tmps, fun t v hv => ?_⟩
    rcases hI.slots t v hv with h1 | ⟨j, q, hj, hLj, hq, hd⟩
    · exact h1
    · obtain ⟨i, hi⟩ := pending_ready hwf hI.size (j + 1) j (by omega) hLj
      rw [hr] at hi
      simp at hi
  induction fuel with
  | zero =>
    intro L a w hI hf
    have hr : Region.ready .any ops L = [] := by
      rw [List.eq_nil_iff_forall_not_mem]
      intro i hi
      have hLi := ((mem_ready hI.size).1 hi).1
      have hmem : false ∈ L.toList := by
        have := (Array.getElem?_eq_some_iff.1 hLi)
        obtain ⟨hlt, he⟩ := this
        rw [← he]
        simp
      have : 0 < L.toList.countP (fun b => !b) := List.countP_pos_iff.2 ⟨false, hmem, rfl⟩
      omega
    exact ⟨hr, fin L a w hI hr⟩
  | succ fuel ih =>
    intro L a w hI hf
    refine ⟨fin L a w hI, fun i hi => ?_⟩
    obtain ⟨hLi, oi, hoi, _⟩ := (mem_ready hI.size).1 hi
    have hid := hin i (Array.getElem?_eq_some_iff.1 hoi).1
    rcases hI.dets i hid with he | ⟨d, v, σ1, ⟨o', ho', hod, hdet⟩, hv, hsub, hdN⟩
    · have := hI.effs_ i he
      rw [hLi] at this
      cases this
    · rw [hoi] at ho'
      cases ho'
      have hag := hI.agree hwf hi hoi
      refine hdet w (hI.sub w hI.st) a _ (fun t ht u hu => hag t ht u (hsub t u hu)) ?_
      exact ih _ _ _ (hI.step_det hwf hoi hod hLi hv hdN hid (hI.clos.set hI.size hi)) (count_set hLi hf)

theorem D.add {effs done : List Nat} {i d : Nat} {v : Value} (hne' : (done.contains i || !strictB ops i) = false) (hfresh : (look σ d).isNone = true) (hN : Nat.blt d N = true) (hdet : Det P w0 ops Q i σ Hs d v)
    (h : D P N w0 ops Q effs (i :: done) ((d, v) :: σ) Hs H) : D P N w0 ops Q effs done σ Hs H := by
  have hne := (new_of hne').1
  intro fuel L a w hI hf
  obtain ⟨o, ho, hod, hd⟩ := hdet
  have hi : i < L.size := by rw [hI.size]; exact (Array.getElem?_eq_some_iff.1 ho).1
  have hLi : L[i]? = some false := by
    rw [Array.getElem?_eq_getElem hi]
    cases hv : L[i] with
    | true =>
      have := hI.listed i (by rw [Array.getElem?_eq_getElem hi, hv])
      simp [this] at hne
    | false => rfl
  have hlk : ∀ t u, look σ t = some u → look ((d, v) :: σ) t = some u := by
    intro t u hu
    simp only [look]
    by_cases e : d = t
    · subst e
      rw [hu] at hfresh
      cases hfresh
    · rw [beq_ne e]
      exact hu
  refine h fuel L a w ⟨hI.size, hI.st, hI.defers, hI.tmps, fun j hj => List.mem_cons_of_mem _ (hI.listed j hj), hI.effs_, ?_, ?_, hI.sub, fun j hj => by rcases List.mem_cons.1 hj with e1 | e1; (· exact e1 ▸ (new_of hne').2); (· exact hI.strict j e1), hI.clos⟩ hf
  · intro t u hu
    simp only [look] at hu
    by_cases e : d = t
    · subst e
      exact .inr ⟨i, o, by simp, hLi, ho, hod⟩
    · rw [beq_ne e] at hu
      rcases hI.slots t u hu with h1 | ⟨j, q, hj, hLj, hq, hd⟩
      · exact .inl h1
      · exact .inr ⟨j, q, List.mem_cons_of_mem _ hj, hLj, hq, hd⟩
  · intro j hj
    rcases List.mem_cons.1 hj with e | e
    · subst e
      exact .inr ⟨d, v, σ, ⟨o, ho, hod, hd⟩, by simp [look], hlk, hN⟩
    · rcases hI.dets j e with h1 | ⟨d1, v1, σ1, hdet1, hv1, hsub, hdN⟩
      · exact .inl h1
      · exact .inr ⟨d1, v1, σ1, hdet1, hlk _ _ hv1, fun t u hu => hlk t u (hsub t u hu), hdN⟩

theorem agree_of {o : Oper} {a : Act} (h : AgreeG σ ops o a) : Agree σ o a := by
  intro x hx u hu
  cases x with
  | tmp t =>
    have ht : t ∈ reads ops o := by
      unfold reads
      exact List.mem_append.2 (.inl (List.mem_filterMap.2 ⟨.tmp t, by simpa using hx, rfl⟩))
    have := h t ht u hu
    simp [Act.eval, this]
  | const c => simpa [ev, Act.eval] using hu
  | global g => simpa [ev, Act.eval] using hu
  | func g => simpa [ev, Act.eval] using hu

theorem D.p {effs done : List Nat} {d : Nat} {v : Value} {o : Oper} (i : Nat) (ho : ops[i]? = some o) (hne : (done.contains i || !strictB ops i) = false) (hg : o.guard = none) (hd : o.dst = some d) (hfresh : (look σ d).isNone = true) (hN : Nat.blt d N = true) (hp : Pu P w0 o σ Hs v)
    (h : D P N w0 ops Q effs (i :: done) ((d, v) :: σ) Hs H) : D P N w0 ops Q effs done σ Hs H := by
  refine D.add hne hfresh hN ⟨o, ho, hd, fun w hw a K ha hK => ?_⟩ h
  unfold wpOp
  rw [ho]
  simp only
  rw [if_pos (wanted_none hg _)]
  exact .inl (upon_ok (hp w hw a (agree_of ha)) (hd ▸ hK))
theorem reads_guard {o : Oper} {j t : Nat} {b : Bool} (hg : o.guard = some (j, b)) (hj : (ops[j]?).bind (·.dst) = some t) : t ∈ reads ops o := by
  unfold reads
  rw [hg]
  refine List.mem_append.2 (.inr ?_)
  simp [hj]
theorem D.gp {effs done : List Nat} {d j t : Nat} {b : Bool} {v : Value} {o : Oper} (i : Nat) (ho : ops[i]? = some o) (hne : (done.contains i || !strictB ops i) = false) (hg : o.guard = some (j, b)) (hj : (ops[j]?).bind (·.dst) = some t) (hu : look σ t = some (.bool b)) (hd : o.dst = some d) (hfresh : (look σ d).isNone = true) (hN : Nat.blt d N = true) (hp : Pu P w0 o σ Hs v)
    (h : D P N w0 ops Q effs (i :: done) ((d, v) :: σ) Hs H) : D P N w0 ops Q effs done σ Hs H := by
  refine D.add hne hfresh hN ⟨o, ho, hd, fun w hw a K ha hK => ?_⟩ h
  have hy : yielded ops a.tmps j = some b := by
    unfold yielded
    rw [hj]
    simp only [Option.bind_some]
    rw [ha t (reads_guard hg hj) _ hu]
  unfold wpOp
  rw [ho]
  simp only
  rw [if_pos (by simp [Region.wanted, hg, hy])]
  exact .inl (upon_ok (hp w hw a (agree_of ha)) (hd ▸ hK))
theorem D.gs {effs done : List Nat} {d j t : Nat} {b : Bool} {u : Value} {o : Oper} (i : Nat) (ho : ops[i]? = some o) (hne : (done.contains i || !strictB ops i) = false) (hg : o.guard = some (j, b)) (hj : (ops[j]?).bind (·.dst) = some t) (hu : look σ t = some u) (hneq : skipB b u = true) (hd : o.dst = some d) (hfresh : (look σ d).isNone = true) (hN : Nat.blt d N = true)
    (h : D P N w0 ops Q effs (i :: done) ((d, undef) :: σ) Hs H) : D P N w0 ops Q effs done σ Hs H := by
  refine D.add hne hfresh hN ⟨o, ho, hd, fun w hw a K ha hK => ?_⟩ h
  have hy : yielded ops a.tmps j = (match u with | .bool b => some b | _ => none) := by
    unfold yielded
    rw [hj]
    simp only [Option.bind_some]
    rw [ha t (reads_guard hg hj) _ hu]
    cases u <;> rfl
  unfold wpOp
  rw [ho]
  simp only
  rw [if_neg]
  · exact hd ▸ hK
  · simp only [Region.wanted, hg, hy]
    cases u with
    | bool c =>
      have hcb : c ≠ b := by
        intro e
        simp [skipB, e] at hneq
      simp [hcb]
    | _ => simp

theorem V.draw {id : Nat} (hm : P.follows .mixedOrders = true) (hwf : wfB ops = true) (h : wfB ops = true → D P N w0 ops Q [] [] σ H H) : V P N w0 (.region id ops true) Q σ H := by
  intro w hw a ha
  replace h := h hwf
  refine wp_region_any hm ?_
  have hw' : St w0 H { w with drawn := w.drawn + 1 } := hw.grow ⟨rfl, rfl, rfl, Nat.le_refl _, fun _ _ => rfl, Nat.le_succ _⟩
  refine h _ _ _ _ ⟨by simp, hw', ha.defers, ha.size, ?_, ?_, fun t v hv => .inl (ha.look_ t v hv), ?_, fun _ h => h, fun j hj => by simp at hj, ClosL.start⟩ ?_
  · intro i hi
    rw [Array.getElem?_replicate] at hi
    split at hi <;> simp at hi
  · intro i hi
    simp at hi
  · intro i hi
    simp at hi
  · simp only [Array.toList_replicate, List.countP_replicate]
    rfl
theorem V.drawS {id : Nat} (hm : P.follows .mixedOrders = true) (hwf : wfB ops = true) (hsub : Sub H Hs) (h : wfB ops = true → D P N w0 ops Q [] [] σ Hs H) : V P N w0 (.region id ops true) Q σ H := by
  intro w hw a ha
  replace h := h hwf
  refine wp_region_any hm ?_
  have hw' : St w0 H { w with drawn := w.drawn + 1 } := hw.grow ⟨rfl, rfl, rfl, Nat.le_refl _, fun _ _ => rfl, Nat.le_succ _⟩
  refine h _ _ _ _ ⟨by simp, hw', ha.defers, ha.size, ?_, ?_, fun t v hv => .inl (ha.look_ t v hv), ?_, fun _ h => h.sub hsub, fun j hj => by simp at hj, ClosL.start⟩ ?_
  · intro i hi
    rw [Array.getElem?_replicate] at hi
    split at hi <;> simp at hi
  · intro i hi
    simp at hi
  · intro i hi
    simp at hi
  · simp only [Array.toList_replicate, List.countP_replicate]
    rfl
theorem D.ent' {effs done : List Nat} (hsame : ∀ t v, look σ t = some v ↔ look σ' t = some v) (h : D P N w0 ops Q effs done σ' Hs H) : D P N w0 ops Q effs done σ Hs H := by
  intro fuel L a w hI hf
  refine h fuel L a w ⟨hI.size, hI.st, hI.defers, hI.tmps, hI.listed, hI.effs_, fun t v hv => hI.slots t v ((hsame t v).2 hv), fun i hi => ?_, hI.sub, hI.strict, hI.clos⟩ hf
  rcases hI.dets i hi with h1 | ⟨d, v, σ1, h1, h2, h3, h4⟩
  · exact .inl h1
  · exact .inr ⟨d, v, σ1, h1, (hsame d v).1 h2, fun t u hu => (hsame t u).1 (h3 t u hu), h4⟩
theorem look_over {t : Nat} {v : Value} (h : look σ t = some v) : ∀ s u, look σ s = some u ↔ look ((t, v) :: σ) s = some u := by
  intro s u
  simp only [look]
  by_cases e : t = s
  · subst e
    rw [Nat.beq_refl]
    simp only [cond_true]
    rw [h]
  · rw [beq_ne e]
    rfl
theorem D.exi {effs done : List Nat} {β : Type} {A : β → Assn} (h : ∀ x, D P N w0 ops Q effs done σ Hs (A x :: H)) : D P N w0 ops Q effs done σ Hs (.exi A :: H) := by
  intro fuel L a w hI hf
  obtain ⟨x, hx⟩ := hI.st.exi
  exact h x fuel L a w ⟨hI.size, hx, hI.defers, hI.tmps, hI.listed, hI.effs_, hI.slots, hI.dets, fun w hw => hI.sub w (hw.mkExi x), hI.strict, hI.clos⟩ hf
theorem D.sep {effs done : List Nat} {A B : Assn} (h : D P N w0 ops Q effs done σ Hs (A :: B :: H)) : D P N w0 ops Q effs done σ Hs (.sep A B :: H) := by
  intro fuel L a w hI hf
  exact h fuel L a w ⟨hI.size, hI.st.sep, hI.defers, hI.tmps, hI.listed, hI.effs_, hI.slots, hI.dets, fun w hw => hI.sub w hw.unsep, hI.strict, hI.clos⟩ hf
theorem D.pur1 {effs done : List Nat} {p : Prop} (h : p → D P N w0 ops Q effs done σ Hs H) : D P N w0 ops Q effs done σ Hs (.pur p :: H) := by
  intro fuel L a w hI hf
  obtain ⟨hp, hs⟩ := hI.st.pur
  exact h hp fuel L a w ⟨hI.size, hs, hI.defers, hI.tmps, hI.listed, hI.effs_, hI.slots, hI.dets, fun w hw => hI.sub w (hw.addPur hp), hI.strict, hI.clos⟩ hf
theorem D.splitD {effs done : List Nat} {p : Prop} [Decidable p] (t : Nat) (hv : look σ t = some (.bool (decide p))) (h1 : p → D P N w0 ops Q effs done ((t, .bool true) :: σ) Hs H) (h2 : ¬ p → D P N w0 ops Q effs done ((t, .bool false) :: σ) Hs H) : D P N w0 ops Q effs done σ Hs H := by
  by_cases hp : p
  · exact D.ent' (look_over (by rw [hv, decide_eq_true hp])) (h1 hp)
  · exact D.ent' (look_over (by rw [hv, decide_eq_false hp])) (h2 hp)
theorem D.splitN {effs done : List Nat} {p : Prop} [Decidable p] (t : Nat) (hv : look σ t = some (.bool (!decide p))) (h1 : ¬ p → D P N w0 ops Q effs done ((t, .bool true) :: σ) Hs H) (h2 : p → D P N w0 ops Q effs done ((t, .bool false) :: σ) Hs H) : D P N w0 ops Q effs done σ Hs H := by
  by_cases hp : p
  · exact D.ent' (look_over (by rw [hv, decide_eq_true hp]; rfl)) (h2 hp)
  · exact D.ent' (look_over (by rw [hv, decide_eq_false hp]; rfl)) (h1 hp)
theorem D.pur {effs done : List Nat} {p : Prop} (hp : ∀ w, St w0 H w → p) (h : p → D P N w0 ops Q effs done σ Hs H) : D P N w0 ops Q effs done σ Hs H := fun fuel L a w hI hf => h (hp w hI.st) fuel L a w hI hf
end
end Go.Vc

namespace Go.Vc
open Go Go.RowKit

def Inf (P : Program) (t sz bytes : Nat) (z : Value) : Prop := (P.info? t).map (fun i => (i.zero, i.size, i.bytes)) = some (some z, sz, bytes)
theorem Inf.parts {P : Program} {t sz bytes : Nat} {z : Value} (h : Inf P t sz bytes z) : ∃ i, P.info? t = some i ∧ i.zero = some z ∧ i.size = sz ∧ i.bytes = bytes := by
  obtain ⟨i, hi, he⟩ := Option.map_eq_some_iff.1 h
  simp only [Prod.mk.injEq] at he
  exact ⟨i, hi, he.1, he.2.1, he.2.2⟩

section
variable {P : Program} {w0 w : World} {H H' : List Assn} {α : Type} {N : Nat} {Q : Exit → Act → World → Prop} {σ σ' : Sig} {o : Oper}

theorem made_eq (C : Cod α) (x : α) (z : Value) (n : Nat) (hz : z.cells.toList = C.enc x) : (madeCells z.cells (n * C.sz)).toList = (List.replicate n x).flatMap C.enc := by
  have hsz : z.cells.size = C.sz := by rw [← Array.length_toList, hz, C.len]
  apply List.ext_getElem?
  intro m
  have hp := C.pos
  by_cases hm : m < n * C.sz
  · have hlt : m / C.sz < n := Nat.div_lt_of_lt_mul (by rw [Nat.mul_comm]; exact hm)
    have hj : m % C.sz < C.sz := Nat.mod_lt _ hp
    have hme : m / C.sz * C.sz + m % C.sz = m := by rw [Nat.mul_comm]; exact Nat.div_add_mod m C.sz
    have h2 := getElem?_flatMap_enc C (List.replicate n x) (m / C.sz) (m % C.sz) (by simpa using hlt) hj
    rw [hme] at h2
    rw [h2]
    simp only [List.getElem_replicate]
    have hjz : m % C.sz < z.cells.size := by omega
    have h3 : (C.enc x)[m % C.sz]? = some z.cells[m % C.sz] := by
      rw [← hz]
      simp [hjz]
    rw [h3]
    have h4 : z.cells[m % z.cells.size]! = z.cells[m % C.sz] := by rw [hsz]; exact getElem!_pos z.cells _ hjz
    simp [madeCells, hm, h4]
  · have h1 : (madeCells z.cells (n * C.sz)).toList.length ≤ m := by simp [madeCells]; omega
    have h2 : ((List.replicate n x).flatMap C.enc).length ≤ m := by rw [length_flatMap_enc]; simp; omega
    rw [List.getElem?_eq_none h1, List.getElem?_eq_none h2]

theorem grown_below {w w' : World} (h : w.grownBy w' none) (hd : w.drawn ≤ w'.drawn) : Bel w.heap.size w w' := ⟨h.os, h.tape, h.output, h.size, fun k hk => h.block k hk (by simp), hd⟩

theorem Ef.make {T e sz bytes n : Nat} {x y : Operand} {z : Value} {K1 K2 : IntKind} (C : Cod α) (u : α) (ho : o.op = .makeSlice T x y) (hT : P.underlying T = some (.slice e)) (hi : Inf P e sz bytes z) (hs : sz = C.sz) (hz : z.cells.toList = C.enc u)
    (hx : ev σ x = some (.int K1 (n : Int))) (hy : ev σ y = some (.int K2 (n : Int))) (hb : bytes * n ≤ 281474976710656) (hm : n ≤ 9223372036854775807) :
    Ef P w0 o σ H Q (fun v H' => ∃ A, A.isSome = true ∧ v = .slice A n n ∧ H' = Own e C A n (List.replicate n u) :: H) := by
  refine Ef.mk fun w hw a ha => ?_
  have h1 := ha x (by simp [ho, Op.operands]) _ hx
  have h2 := ha y (by simp [ho, Op.operands]) _ hy
  obtain ⟨i, hi1, hi2, hi3, hi4⟩ := hi.parts
  subst hs
  obtain ⟨w', hr, hown, hg⟩ := run_make_full (P := P) (w := w) 0 T e i z C.sz hT hi1 hi2 hi3 K1 K2 n (by rw [hi4]; exact hb) (by simpa [maxLen] using hm) (Nat.zero_le _)
  rw [made_eq C u z n hz] at hown
  have hlen : (List.replicate n u).length = n := List.length_replicate ..
  refine ⟨_, w', ?_, _, hw.add (A := Own e C (some ⟨w.heap.size, 0, none⟩) n (List.replicate n u)) (grown_below hg (run_drawn _ hr)) (F := fun k => k = w.heap.size) ?_ ?_, _, rfl, rfl, rfl⟩
  · simp [execOp, ho, h1, h2, hr]
  · refine ⟨?_, fun k => ?_⟩
    · rw [hlen]
      exact hown
    · simp [Value.ownBlock]
      exact eq_comm
  · rintro k rfl
    refine ⟨Nat.le_refl _, ?_⟩
    exact (hown.lt w.heap.size rfl).2

theorem take_app {β : Type} {l r : List β} {m : Nat} : (l ++ r).take (l.length + m) = l ++ r.take m := by
  rw [List.take_append, List.take_of_length_le (by omega)]; simp
theorem drop_app {β : Type} {l r : List β} {m : Nat} : (l ++ r).drop (l.length + m) = r.drop m := by
  rw [List.drop_append]; simp
theorem take_set_flat (C : Cod α) (xs : List α) (k : Nat) (x : α) (hk : k < xs.length) : (xs.flatMap C.enc).take (k * C.sz) ++ C.enc x ++ (xs.flatMap C.enc).drop (k * C.sz + C.sz) = (xs.set k x).flatMap C.enc := by
  induction xs generalizing k with
  | nil => simp at hk
  | cons y ys ih =>
    cases k with
    | zero =>
      simp only [Nat.zero_mul, List.take_zero, List.nil_append, Nat.zero_add, List.flatMap_cons, List.set_cons_zero]
      rw [List.drop_append_of_le_length (by rw [C.len]; exact Nat.le_refl _), List.drop_eq_nil_of_le (by rw [C.len]; exact Nat.le_refl _), List.nil_append]
    | succ k =>
      simp only [List.flatMap_cons, List.set_cons_succ]
      have h1 : (k + 1) * C.sz = (C.enc y).length + k * C.sz := by rw [C.len, Nat.add_mul]; omega
      have h2 : (k + 1) * C.sz + C.sz = (C.enc y).length + (k * C.sz + C.sz) := by rw [C.len, Nat.add_mul]; omega
      rw [h2, h1, take_app , drop_app, List.append_assoc, List.append_assoc, ← List.append_assoc (List.take _ _), ih k (by simpa using hk)]

theorem Ef.storeOwn {T e s c : Nat} {x y : Operand} {v : Value} {C : Cod α} {A : Option Addr} {xs : List α} (i : Nat) (k : Nat) (u : α) (ho : o.op = .store T x y) (hs : Sz P T s) (hx : ev σ x = some (.pointer (A.map (·.add (k * s))))) (hy : ev σ y = some v)
    (hp : pull i H = some (Own e C A c xs, H')) (hsz : s = C.sz) (hk : k < xs.length) (hv : v.cells.toList = C.enc u) :
    Ef P w0 o σ H Q (fun _ H'' => H'' = repl i H (Own e C A c (xs.set k u))) := by
  intro w hw a ha
  have h1' := ha x (by simp [ho, Op.operands]) _ hx
  have h2' := ha y (by simp [ho, Op.operands]) _ hy
  subst hsz
  have hw2 := hw.perm (pull_perm hp)
  obtain ⟨F, ho', hF⟩ := hw.get i hp
  rcases ho'.2 with ⟨h1, h2⟩ | ⟨g, cap, cur, hvv, hbase, hh, hle, hmax, hcs, htake⟩
  · omega
  · have hA : A = some ⟨g, 0, none⟩ := by injection hvv
    have hcap : c = cap := by injection hvv
    subst hA
    have hsz : v.cells.size = C.sz := by rw [← Array.length_toList, hv, C.len]
    have hkc : k * C.sz + C.sz ≤ cur.size := by
      rw [hcs]
      have : (k + 1) * C.sz ≤ cap * C.sz := Nat.mul_le_mul_right _ (by omega)
      rw [Nat.add_mul] at this
      omega
    have hst := run_storeCells_at P g (k * C.sz) e (C.enc u) 0 cur w hh (by rw [C.len]; omega) (C.one u)
    simp only [Nat.add_zero] at hst
    have hrun : (execOp a.eval o).run P w = .ok .skip (w.setRow g (cur.toList.take (k * C.sz) ++ C.enc u ++ cur.toList.drop (k * C.sz + (C.enc u).length)).toArray) := by
      simp [execOp, ho, h1', h2', Instr.storeAt, Instr.sureAddr, storeVar, run_sz hs, hsz, hv, add_mk, hst]
    unfold Oper.wp
    rw [hrun]
    refine ⟨undef, _, rfl, ?_, rfl⟩
    refine St.perm ?_ (repl_perm hp)
    refine hw2.upd (B := Own e C (some ⟨g, 0, none⟩) c (xs.set k u)) ?_
    rintro F2 ⟨ho2, hF2⟩ hb
    refine ⟨⟨rfl, rfl, rfl, by simp [World.setRow], fun m _ hm => setRow_other w g m _ (fun e1 => hm ((hF2 m).2 (by subst e1; rfl))), Nat.le_refl _⟩, F2, ⟨⟨?_, .inr ⟨g, cap, _, ?_, Nat.zero_le _, setRow_heap w g cur _ e _ hh, ?_, hmax, ?_, ?_⟩⟩, ?_⟩, ?_⟩
    · rw [length_flatMap_enc]
    · rw [hcap]
    · simpa using hle
    · simp only [List.size_toArray, List.length_append, List.length_take, List.length_drop, Array.length_toList, C.len]
      omega
    · have hn : xs.length * C.sz ≤ cur.size := by rw [hcs]; exact Nat.mul_le_mul_right _ hle
      have hk2 : k * C.sz + C.sz ≤ xs.length * C.sz := by
        have : (k + 1) * C.sz ≤ xs.length * C.sz := Nat.mul_le_mul_right _ (by omega)
        rw [Nat.add_mul] at this
        omega
      rw [List.length_set, ← take_set_flat C xs k u hk, C.len, ← htake]
      simp only [List.take_take]
      rw [List.take_append, List.take_append]
      simp only [List.length_append, List.length_take, Array.length_toList, C.len]
      have e1 : min (k * C.sz) cur.size = k * C.sz := by omega
      have e2 : min (k * C.sz) (xs.length * C.sz) = k * C.sz := by omega
      rw [e1, e2, List.take_take]
      have e3 : min (xs.length * C.sz) (k * C.sz) = k * C.sz := by omega
      rw [e3]
      rw [List.take_of_length_le (l := C.enc u) (by rw [C.len]; omega)]
      rw [List.drop_take]
    · intro m
      rw [hF2 m]
      simp
    · intro m hm
      exact ⟨.inl hm, by have := (hb m hm).2; simpa [World.setRow] using this⟩

theorem Ef.append {T e sz bytes c c2 m : Nat} {x y : Operand} {z : Value} {C : Cod α} {A A2 : Option Addr} {xs ys : List α} (i : Nat) (ho : o.op = .call { callee := .builtin .append, args := #[x, y], argTypes := #[T, T] }) (hT : P.underlying T = some (.slice e)) (hi : Inf P e sz bytes z) (hs : sz = C.sz) (hzc : z.cells.size = sz)
    (hx : ev σ x = some (.slice A xs.length c)) (hy : ev σ y = some (.slice A2 m c2)) (hp : pull i H = some (Own e C A c xs, H')) (hm : m = ys.length) (hA2 : A2.isSome = true) (hr : ∀ w, St w0 H w → Rd C w A2 ys) (hb : (xs.length + ys.length) * bytes ≤ 140737488355328) (hbp : 0 < bytes) :
    Ef P w0 o σ H Q (fun v H'' => ∃ A' c', v = .slice A' (xs ++ ys).length c' ∧ H'' = repl i H (Own e C A' c' (xs ++ ys)) ∧ (A.isSome = true ∨ 0 < ys.length → A'.isSome = true)) := by
  refine Ef.mk fun w hw a ha => ?_
  have h1 := ha x (by simp [ho, Op.operands, Call.operands]) _ hx
  have h2 := ha y (by simp [ho, Op.operands, Call.operands]) _ hy
  subst hs
  subst hm
  obtain ⟨i0, hi1, hi2, hi3, hi4⟩ := hi.parts
  obtain ⟨q, rfl⟩ := Option.isSome_iff_exists.1 hA2
  obtain ⟨F, hown, hF⟩ := hw.get i hp
  have hnews : ∀ j u, (ys.flatMap C.enc)[j]? = some u → w.cell? (q.add j) = some u := by
    intro j u hj
    have hp := C.pos
    have hlt : j < ys.length * C.sz := by have := (List.getElem?_eq_some_iff.1 hj).1; rwa [length_flatMap_enc] at this
    have hq : j / C.sz < ys.length := Nat.div_lt_of_lt_mul (by rw [Nat.mul_comm]; exact hlt)
    have hme : j / C.sz * C.sz + j % C.sz = j := by rw [Nat.mul_comm]; exact Nat.div_add_mod j C.sz
    obtain ⟨q', hq', hc⟩ := hr w hw (j / C.sz) hq
    cases hq'
    have hg := getElem?_flatMap_enc C ys (j / C.sz) (j % C.sz) hq (Nat.mod_lt _ hp)
    rw [hme, hj] at hg
    have := hc (j % C.sz) u hg.symm
    rwa [hme] at this
  have hl63 : xs.length + ys.length ≤ maxLen := by
    have : xs.length + ys.length ≤ (xs.length + ys.length) * bytes := Nat.le_mul_of_pos_right _ hbp
    simp only [maxLen]
    omega
  obtain ⟨v', w', hrun, hown', hg, hnil, hat⟩ := run_append_own_at (P := P) w 0 T o.type e i0 z C.sz bytes hT hi1 hi2 hi3 hi4 hzc C.pos _ xs.length (xs.flatMap C.enc) hown
    q ys.length c2 (ys.flatMap C.enc) (length_flatMap_enc C ys) hnews (fun u hu => by obtain ⟨y, _, hy⟩ := List.mem_flatMap.1 hu; exact C.one y u hy) hl63 hb (Nat.zero_le _)
  have hshape : ∃ A' c', v' = .slice A' (xs ++ ys).length c' := by
    rcases hown'.2 with ⟨hv, h0⟩ | ⟨g, cap, cur, hv, _⟩
    · exact ⟨none, 0, by rw [hv, List.length_append, h0]⟩
    · exact ⟨_, cap, by rw [hv, List.length_append]⟩
  obtain ⟨A', c', rfl⟩ := hshape
  have hown2 : w'.ownsRow 0 e C.sz (.slice A' (xs ++ ys).length c') (xs ++ ys).length ((xs ++ ys).flatMap C.enc) := by
    rw [List.flatMap_append, List.length_append]
    rw [List.length_append] at hown'
    exact hown'
  refine ⟨_, w', ?_, _, St.perm ((hw.perm (pull_perm hp)).upd (B := Own e C A' c' (xs ++ ys)) ?_) (repl_perm hp), A', c', rfl, rfl, ?_⟩
  rotate_right
  · intro hor
    cases A' with
    | some q => rfl
    | none =>
      exfalso
      rcases hown2.2 with ⟨h3, h4⟩ | ⟨g, cap, cur, hv, _⟩
      · obtain ⟨h5, h6⟩ := hnil.1 h3
        rcases hor with h7 | h7
        · injection h5 with h8
          rw [h8] at h7
          cases h7
        · omega
      · injection hv with h8
        cases h8
  · simp [execOp, ho, resolve, invoke, builtin, h1, h2, hrun]
  · rintro F2 ⟨ho2, hF2⟩ hb2
    refine ⟨⟨hg.os, hg.tape, hg.output, hg.size, fun k hk hk' => hg.block k hk (fun e1 => hk' ((hF2 k).2 e1.symm)), run_drawn _ hrun⟩, fun k => (Value.slice A' (xs ++ ys).length c').ownBlock = some k, ⟨hown2, fun _ => Iff.rfl⟩, ?_⟩
    intro k hk
    refine ⟨?_, (hown2.lt k hk).2⟩
    rcases hat with h3 | h3
    · exact .inl ((hF2 k).2 (h3 ▸ hk))
    · rw [h3] at hk
      cases hk
      exact .inr (Nat.le_refl _)

theorem run_build0 {T e sz : Nat} (hT : P.underlying T = some (.slice e)) (hs : Sz P e sz) (ps : Array (Nat × Value)) (hf : Instr.fill (fun i => some (i * sz, sz)) #[] ps.toList = some #[]) (w : World) :
    (Instr.buildSlice T 0 ps).run P w = .ok (.slice (some ⟨w.heap.size, 0, none⟩) 0 0) (w.alloc (.cells #[] e)) := by
  have h0 : (Array.range 0 : Array Nat) = #[] := rfl
  unfold Instr.buildSlice
  simp [run_underlying hT, run_sz hs, newRow, h0, hf]
theorem Ef.build {T e n sz bytes : Nat} {parts : Array (Nat × Operand)} {vs : List Value} {z : Value} (C : Cod α) (xs : List α) (ho : o.op = .buildSlice T n parts) (hT : P.underlying T = some (.slice e)) (hi : Inf P e sz bytes z) (hs : sz = C.sz)
    (hx : evs σ (parts.toList.map (·.2)) = some vs) (hn : n = xs.length) (hsmall : n * sz ≤ 16777216)
    (hf : Instr.fill (fun i => some (i * sz, sz)) ((Array.range (n * sz)).map (z.cells[· % z.cells.size]!)) ((parts.toList.map (·.1)).zip vs) = some (xs.flatMap C.enc).toArray) :
    Ef P w0 o σ H Q (fun v H' => ∃ A, A.isSome = true ∧ v = .slice A xs.length xs.length ∧ H' = Own e C A xs.length xs :: H) := by
  refine Ef.mk fun w hw a ha => ?_
  have hag : ∀ x ∈ parts.toList.map (·.2), ∀ v, ev σ x = some v → a.eval x = v := fun x hx v hv => ha x (by simpa [ho, Op.operands] using hx) v hv
  have h2 := evs_map (a := a) hag hx
  have hparts : (parts.map fun (i, x) => (i, a.eval x)).toList = (parts.toList.map (·.1)).zip vs := by
    rw [← h2, Array.toList_map]
    generalize parts.toList = l
    induction l with
    | nil => rfl
    | cons p l ih => simp [ih]
  obtain ⟨i, hi1, hi2, hi3, hi4⟩ := hi.parts
  subst hs
  subst hn
  have hfl := length_flatMap_enc C xs
  refine ⟨.slice (some ⟨w.heap.size, 0, none⟩) xs.length xs.length, w.alloc (.cells (xs.flatMap C.enc).toArray e), ?_, _, hw.add (A := Own e C (some ⟨w.heap.size, 0, none⟩) xs.length xs) (below_alloc _ _) (F := fun k => k = w.heap.size) ⟨⟨?_, .inr ⟨w.heap.size, xs.length, _, rfl, Nat.zero_le _, heap_alloc_new w _, Nat.le_refl _, ?_, ?_, ?_⟩⟩, ?_⟩ ?_, _, rfl, rfl, rfl⟩
  · by_cases h0 : xs.length * C.sz = 0
    · have hx0 : xs = [] := by
        have := C.pos
        rcases Nat.mul_eq_zero.1 h0 with h | h
        · exact List.eq_nil_of_length_eq_zero h
        · omega
      subst hx0
      have hf' : Instr.fill (fun i => some (i * C.sz, C.sz)) #[] ((parts.map fun (i, x) => (i, a.eval x)).toList) = some #[] := by
        rw [hparts]
        have h0 : (Array.range (([] : List α).length * C.sz) : Array Nat) = #[] := by simp [Array.range_zero']
        rw [h0] at hf
        simpa using hf
      have hb : (Instr.buildSlice T ([] : List α).length (parts.map fun (i, x) => (i, a.eval x))).run P w = .ok (.slice (some ⟨w.heap.size, 0, none⟩) ([] : List α).length ([] : List α).length) (w.alloc (.cells (([] : List α).flatMap C.enc).toArray e)) := by
        exact run_build0 hT (show Sz P e C.sz by unfold Sz; rw [hi1]; simp [hi3]) _ hf' w
      simp only [execOp, ho, Sem.run_bind, hb, Result.andThen_ok, Sem.run_pure]
    · have hb := run_buildSlice (P := P) w T e xs.length (parts.map fun (i, x) => (i, a.eval x)) (xs.flatMap C.enc).toArray i z hT hi1 hi2 (by rw [hi3]; omega) (by rw [hi3]; exact h0) (by rw [hi3, hparts]; exact hf)
      simp only [execOp, ho, Sem.run_bind, hb, Result.andThen_ok, Sem.run_pure]
  · rw [hfl]
  · have : xs.length ≤ xs.length * C.sz := Nat.le_mul_of_pos_right _ C.pos
    simp only [maxLen]
    omega
  · simp [hfl]
  · rw [← hfl, List.take_length]
  · intro k
    simp [Value.ownBlock]
    exact eq_comm
  · rintro k rfl
    simp


def gcells (G : Int → Int → Int) : List Value := (List.range 225).map fun i => .int .i64 (G ((i / 15 : Nat) : Int) ((i % 15 : Nat) : Int))
def Grid (b : Nat) (G : Int → Int → Int) (t : TypeId) : Assn := Blk b (gcells G) t

theorem gcells_at (G : Int → Int → Int) {a b : Int} (ha : 0 ≤ a ∧ a < 15) (hb : 0 ≤ b ∧ b < 15) : (gcells G)[a.toNat * 15 + b.toNat]? = some (.int .i64 (G a b)) := by
  unfold gcells
  rw [List.getElem?_map, List.getElem?_range (by omega)]
  simp only [Option.map_some]
  have h1 : (a.toNat * 15 + b.toNat) / 15 = a.toNat := by omega
  have h2 : (a.toNat * 15 + b.toNat) % 15 = b.toNat := by omega
  rw [h1, h2]
  congr 3 <;> omega
theorem gcells_set (G : Int → Int → Int) {a b v : Int} (ha : 0 ≤ a ∧ a < 15) (hb : 0 ≤ b ∧ b < 15) : splice (gcells G) (a.toNat * 15 + b.toNat) [.int .i64 v] = gcells (gset G a b v) := by
  have hlen : (gcells G).length = 225 := by simp [gcells]
  apply List.ext_getElem?
  intro i
  unfold splice
  simp only [List.append_assoc, List.singleton_append, List.length_singleton]
  by_cases h1 : i < a.toNat * 15 + b.toNat
  · rw [List.getElem?_append_left (by simp [hlen]; omega), List.getElem?_take, if_pos h1]
    unfold gcells gset
    rw [List.getElem?_map, List.getElem?_map, List.getElem?_range (by omega)]
    simp only [Option.map_some]
    rw [if_neg]
    omega
  · rw [List.getElem?_append_right (by simp; omega)]
    rw [List.length_take, hlen]
    by_cases h2 : i = a.toNat * 15 + b.toNat
    · subst h2
      have : a.toNat * 15 + b.toNat - min (a.toNat * 15 + b.toNat) 225 = 0 := by omega
      rw [this, gcells_at _ ha hb]
      simp [gset]
    · have : i - min (a.toNat * 15 + b.toNat) 225 = (i - (a.toNat * 15 + b.toNat) - 1) + 1 := by omega
      rw [this, List.getElem?_cons_succ, List.getElem?_drop]
      have : a.toNat * 15 + b.toNat + 1 + (i - (a.toNat * 15 + b.toNat) - 1) = i := by omega
      rw [this]
      unfold gcells gset
      rw [List.getElem?_map, List.getElem?_map]
      by_cases h3 : i < 225
      · rw [List.getElem?_range h3]
        simp only [Option.map_some]
        rw [if_neg]
        omega
      · rw [List.getElem?_eq_none (by simp; omega)]
        rfl
theorem gcells_congr {G G' : Int → Int → Int} (h : ∀ x y : Int, 0 ≤ x → x < 15 → 0 ≤ y → y < 15 → G x y = G' x y) : gcells G = gcells G' := by
  unfold gcells
  refine List.map_congr_left fun i hi => ?_
  have := List.mem_range.1 hi
  rw [h _ _ (by omega) (by omega) (by omega) (by omega)]
theorem Grid.congr {b t : Nat} {G G' : Int → Int → Int} (h : ∀ x y : Int, 0 ≤ x → x < 15 → 0 ≤ y → y < 15 → G x y = G' x y) : ∀ w F, (Grid b G t).P w F → (Grid b G' t).P w F := by
  intro w F hh
  unfold Grid at *
  rw [← gcells_congr h]
  exact hh
def ngrid (i k : Nat) : Int → Int → Int := fun x y => if x < (i : Int) ∨ (x = (i : Int) ∧ y < (k : Int)) then -1 else 0
theorem ngrid_row {i k b t : Nat} (hk : 15 ≤ k) : ∀ w F, (Grid b (ngrid i k) t).P w F → (Grid b (ngrid (i + 1) 0) t).P w F := by
  refine Grid.congr fun x y h1 h2 h3 h4 => ?_
  unfold ngrid
  split <;> split <;> omega
theorem ngrid_set {i k b t : Nat} : ∀ w F, (Grid b (gset (ngrid i k) (i : Int) (k : Int) (-1)) t).P w F → (Grid b (ngrid i (k + 1)) t).P w F := by
  refine Grid.congr fun x y h1 h2 h3 h4 => ?_
  unfold gset ngrid
  split <;> split <;> (try split) <;> omega
theorem ngrid_start {b t : Nat} : ∀ w F, (Grid b (fun _ _ => 0) t).P w F → (Grid b (ngrid 0 0) t).P w F := by
  refine Grid.congr fun x y h1 h2 h3 h4 => ?_
  unfold ngrid
  split <;> omega
theorem ngrid_end {b t i : Nat} (hi : 15 ≤ i) : ∀ w F, (Grid b (ngrid i 0) t).P w F → (Grid b (fun _ _ => -1) t).P w F := by
  refine Grid.congr fun x y h1 h2 h3 h4 => ?_
  unfold ngrid
  split <;> omega
def GridAt (w : World) (b : Nat) (G : Int → Int → Int) (t : TypeId) : Prop := w.heap[b]? = some (.cells (gcells G).toArray t (0, 0))
theorem GridAt.of {b t i : Nat} {G : Int → Int → Int} (hw : St w0 H w) (hp : pull i H = some (Grid b G t, H')) : GridAt w b G t := Blk.heap hw hp
theorem GridAt.st {b t : Nat} {G : Int → Int → Int} (h : GridAt w0 b G t) (hw : St w0 H w) : GridAt w b G t := by
  unfold GridAt
  rw [hw.below.block b (Array.getElem?_eq_some_iff.1 h).1]
  exact h
theorem Ld.gridOld {b t off : Nat} {G : Int → Int → Int} {x y : Int} (hG : GridAt w0 b G t) (ho : off = x.toNat * 15 + y.toNat) (hx : 0 ≤ x ∧ x < 15) (hy : 0 ≤ y ∧ y < 15) : ∀ w, St w0 H w → ∃ q, some (⟨b, off, none⟩ : Addr) = some q ∧ w.cell? q = some (.int .i64 (G x y)) := by
  intro w hw
  subst ho
  have := hG.st hw
  unfold GridAt at this
  exact ⟨_, rfl, by simp [World.cell?, this, gcells_at G hx hy]⟩
theorem Ef.storeGrid {T : TypeId} {x y : Operand} {b t off : Nat} {G : Int → Int → Int} {v : Int} (i : Nat) (p q : Int) (ho : o.op = .store T x y) (hs : Sz P T 1) (hx : ev σ x = some (.pointer (some ⟨b, off, none⟩))) (hy : ev σ y = some (.int .i64 v))
    (hp : pull i H = some (Grid b G t, H')) (hoff : off = p.toNat * 15 + q.toNat) (hpb : 0 ≤ p ∧ p < 15) (hqb : 0 ≤ q ∧ q < 15) :
    Ef P w0 o σ H Q (fun _ H'' => H'' = repl i H (Grid b (gset G p q v) t)) := by
  subst hoff
  exact Ef.store (cs := gcells G) (us := [.int .i64 v]) i ho hs hx hy hp rfl rfl (by simp [Value.oneCell']) (by simp [gcells]; omega) (gcells_set G hpb hqb)
theorem gcells_const (c : Int) : gcells (fun _ _ => c) = List.replicate 225 (.int .i64 c) := by
  unfold gcells
  rw [List.map_const']
  simp
theorem Ef.allocGrid {T : TypeId} (ho : o.op = .alloc T) (hz : Zr P T (.agg (List.replicate 225 (.int .i64 0)).toArray)) :
    Ef P w0 o σ H Q (fun u H' => ∃ b, u = .pointer (some ⟨b, 0, none⟩) ∧ H' = Grid b (fun _ _ => 0) T :: H) := by
  have := Ef.alloc (H := H) (Q := Q) (w0 := w0) (σ := σ) (cs := gcells (fun _ _ => 0)) ho hz (by rw [gcells_const]; rfl)
  exact this
end
end Go.Vc

namespace Go.Vc
open Go Go.RowKit Go.ChangeShapes Go.WideShapes

section
variable {H : Type} {enc : TypeId × Value → H} {P : Program} {w : World} {base : Nat} {spare : Nat → Bool} {held : Bool}

theorem open_b3 {e i : TypeId} {fuel : Nat} {cs : List Value} {x : DataW H × List MemPlace} (he : P.underlying e = some (.array 3 i)) (hi : P.underlying i = some (.int .i64)) (ce : P.cellsOf e = 3) (ci : P.cellsOf i = 1)
    (h : DataW.trod enc P w base spare held fuel e cs = some x) : ∃ b : B3, cs = B3.cs b := by
  obtain ⟨xs, m, _, _, hl, hlen, hf⟩ := DataW.trod_array he h
  rw [ce] at hl
  match cs, hl with
  | [u0, u1, u2], _ =>
    match xs, hlen with
    | [y0, y1, y2], _ =>
      have g0 := hf 0 (by omega)
      have g1 := hf 1 (by omega)
      have g2 := hf 2 (by omega)
      simp [ci] at g0 g1 g2
      obtain ⟨n0, e0, _, _⟩ := DataW.trod_int hi g0
      obtain ⟨n1, e1, _, _⟩ := DataW.trod_int hi g1
      obtain ⟨n2, e2, _, _⟩ := DataW.trod_int hi g2
      simp only [List.cons.injEq, and_true] at e0 e1 e2
      exact ⟨(n0, n1, n2), by rw [e0, e1, e2]; rfl⟩

theorem rd_of_cells {α : Type} {C : Cod α} {a : Addr} {n : Nat} (h : ∀ i, i < n → ∃ x : α, w.cells? base (a.add (i * C.sz)) C.sz = some (C.enc x)) : ∃ xs : List α, xs.length = n ∧ Rd C w (some a) xs := by
  have key : ∀ m, m ≤ n → ∃ xs : List α, xs.length = m ∧ Rd C w (some a) xs := by
    intro m
    induction m with
    | zero => exact fun _ => ⟨[], rfl, Rd.nil _ _ _⟩
    | succ m ih =>
      intro hm
      obtain ⟨xs, hl, hr⟩ := ih (by omega)
      obtain ⟨x, hx⟩ := h m (by omega)
      refine ⟨xs ++ [x], by simp [hl], fun i hi => ?_⟩
      by_cases e : i < xs.length
      · rw [List.getElem_append_left e]
        exact hr i e
      · have : i = m := by simp at hi; omega
        subst this
        refine ⟨a, rfl, fun j u hj => ?_⟩
        have hxx : (xs ++ [x])[i] = x := by simp [hl]
        rw [hxx] at hj
        obtain ⟨_, hlen, hcell⟩ := World.cells?_some hx
        have hjs : j < C.sz := by have := (List.getElem?_eq_some_iff.1 hj).1; rwa [C.len] at this
        have hc := hcell j hjs
        rw [Addr.add_add'] at hc
        rw [hc]
        exact hj
  exact key n (Nat.le_refl _)

theorem open_blocks {t e i : TypeId} {fuel : Nat} {cs : List Value} {x : DataW H × List MemPlace} (ht : P.underlying t = some (.slice e)) (he : P.underlying e = some (.array 3 i)) (hi : P.underlying i = some (.int .i64)) (ce : P.cellsOf e = 3) (ci : P.cellsOf i = 1)
    (h : DataW.trod enc P w base spare held fuel t cs = some x) : ∃ (A : Option Addr) (c : Nat) (bs : List B3), cs = [.slice A bs.length c] ∧ bs.length ≤ 9223372036854775807 ∧ Rd B3C w A bs := by
  rcases Deep.open_slice ht h with ⟨rfl, _⟩ | ⟨a, len, cap, m, n, D, Pl, rfl, hb, hl, hm, hmm, _, hx⟩
  · exact ⟨none, 0, [], rfl, by simp, Rd.nil _ _ _⟩
  · have hlm : len ≤ m := by rw [hmm]; split <;> omega
    have each : ∀ i, i < len → ∃ b : B3, w.cells? base (a.add (i * B3C.sz)) B3C.sz = some (B3C.enc b) := by
      intro j hj
      obtain ⟨cs', h1, h2⟩ := hx j (by omega)
      obtain ⟨b, rfl⟩ := open_b3 he hi ce ci h2
      rw [ce] at h1
      exact ⟨b, h1⟩
    obtain ⟨bs, hbl, hr⟩ := rd_of_cells each
    subst hbl
    simp only [maxLen] at hm
    exact ⟨some a, cap, bs, rfl, by omega, hr⟩

theorem open_system {T t e i : TypeId} {f0 f1 : Field} {fuel : Nat} {cs : List Value} {x : DataW H × List MemPlace} (hT : P.underlying T = some (.struct #[f0, f1])) (cT : P.cellsOf T = 2) (o0 : f0.offset = 0) (o1 : f1.offset = 1) (t0 : f0.type = i) (t1 : f1.type = t)
    (ht : P.underlying t = some (.slice e)) (he : P.underlying e = some (.array 3 i)) (hi : P.underlying i = some (.int .i64)) (ce : P.cellsOf e = 3) (ci : P.cellsOf i = 1) (ct : P.cellsOf t = 1)
    (h : DataW.trod enc P w base spare held fuel T cs = some x) : ∃ (v : Int) (A : Option Addr) (c : Nat) (bs : List B3), cs = [.int .i64 v, .slice A bs.length c] ∧ (-9223372036854775808 ≤ v ∧ v ≤ 9223372036854775807) ∧ bs.length ≤ 9223372036854775807 ∧ Rd B3C w A bs := by
  obtain ⟨y0, y1, n, _, hl, h0, h1⟩ := ChangeShapes.trod_struct2 hT h
  rw [cT] at hl
  match cs, hl with
  | [u0, u1], _ =>
    subst t0
    subst t1
    simp [o0, o1, ci, ct] at h0 h1
    obtain ⟨v, e0, _, hv⟩ := DataW.trod_int hi h0
    obtain ⟨A, c, bs, e1, hb, hr⟩ := open_blocks ht he hi ce ci h1
    simp only [List.cons.injEq, and_true] at e0 e1
    refine ⟨v, A, c, bs, by rw [e0, e1], ?_, hb, hr⟩
    simp [Lit.wf, IntKind.min, IntKind.max, IntKind.signed, IntKind.bits] at hv
    omega

theorem open_trade {T t e i : TypeId} {f0 f1 f2 : Field} {fuel : Nat} {cs : List Value} {x : DataW H × List MemPlace} (hT : P.underlying T = some (.struct #[f0, f1, f2])) (cT : P.cellsOf T = 3) (o0 : f0.offset = 0) (o1 : f1.offset = 1) (o2 : f2.offset = 2) (t0 : f0.type = i) (t1 : f1.type = t) (t2 : f2.type = t)
    (ht : P.underlying t = some (.slice e)) (he : P.underlying e = some (.array 3 i)) (hi : P.underlying i = some (.int .i64)) (ce : P.cellsOf e = 3) (ci : P.cellsOf i = 1) (ct : P.cellsOf t = 1)
    (h : DataW.trod enc P w base spare held fuel T cs = some x) : ∃ (v : Int) (A B : Option Addr) (c d : Nat) (bs ds : List B3), cs = [.int .i64 v, .slice A bs.length c, .slice B ds.length d] ∧ (-9223372036854775808 ≤ v ∧ v ≤ 9223372036854775807) ∧ bs.length ≤ 9223372036854775807 ∧ ds.length ≤ 9223372036854775807 ∧ Rd B3C w A bs ∧ Rd B3C w B ds := by
  obtain ⟨xs, n, _, _, hl, hlen, hf⟩ := DataW.trod_struct hT h
  rw [cT] at hl
  match xs, hlen with
  | [y0, y1, y2], _ =>
  have h0 := hf 0 f0 rfl
  have h1 := hf 1 f1 rfl
  have h2 := hf 2 f2 rfl
  match cs, hl with
  | [u0, u1, u2], _ =>
    subst t0
    subst t1
    rw [t2] at h2
    simp [o0, o1, o2, ci, ct] at h0 h1 h2
    obtain ⟨v, e0, _, hv⟩ := DataW.trod_int hi h0
    obtain ⟨A, c, bs, e1, hb, hr⟩ := open_blocks ht he hi ce ci h1
    obtain ⟨B, d, ds, e2, hd, hs⟩ := open_blocks ht he hi ce ci h2
    simp only [List.cons.injEq, and_true] at e0 e1 e2
    refine ⟨v, A, B, c, d, bs, ds, by rw [e0, e1, e2], ?_, hb, hd, hr, hs⟩
    simp [Lit.wf, IntKind.min, IntKind.max, IntKind.signed, IntKind.bits] at hv
    omega

theorem okWide_agg {r : Reach} {t : TypeId} {v : Value} {b0 : Nat} (ht : aggT P t = true) (h : Value.okWide P w r b0 t v) : ∃ cs, v = .agg cs := by
  unfold Value.okWide at h
  unfold aggT at ht
  cases hu : P.underlying t with
  | none => simp [hu] at ht
  | some d =>
    rw [hu] at h ht
    cases d <;> simp at ht <;> (obtain ⟨cs, rfl, _⟩ := h; exact ⟨cs, rfl⟩)
end

theorem desk_cells {cs : Array Value} {a b c d : Value} (hl : cs.toList.length = 4) (h1 : (cs.toList.drop 0).take 2 = [a, b]) (h2 : (cs.toList.drop 2).take 2 = [c, d]) : cs = #[a, b, c, d] := by
  apply Array.ext'
  match h : cs.toList, hl with
  | [w, x, y, z], _ =>
    rw [h] at h1 h2
    simp at h1 h2
    simp [h1, h2]
theorem law_calls {P : Program} {f : FuncId} {args : List Value} {w : World} (h : Does P f args w [] (fun v => [.pur (v = .bool true)])) : Calls P f args.toArray w fun e w' => e = .returned (.bool true) ∧ Below w.heap.size w w' := by
  refine (h w (St.start w)).mono ?_
  rintro e w' ⟨v, rfl, hs⟩
  exact ⟨by rw [hs.pur.1], hs.below.low⟩
end Go.Vc

namespace Go.Vc
open Go Go.RowKit

theorem wrap_i64 {n : Nat} (h : n < 9223372036854775808) : IntKind.i64.wrap (n : Int) = n := IntWalk.i64_in _ ⟨by omega, by omega⟩
theorem wrap_u64 {n : Nat} (h : n < 18446744073709551616) : IntKind.u64.wrap (n : Int) = n := by
  simp only [IntKind.wrap, IntKind.bits, IntKind.signed]
  have : (n : Int) % 2 ^ 64 = n := Int.emod_eq_of_lt (by omega) (by omega)
  first
  | (simp; omega)
  | (rw [this]; simp)
  | (simp [this])
inductive K64 : IntKind → Prop where
  | i : K64 .i64
  | u : K64 .u64
theorem K64.wrap {k : IntKind} (hk : K64 k) {n : Nat} (h : n < 9223372036854775808) : k.wrap (n : Int) = n := by
  cases hk
  · exact wrap_i64 h
  · exact wrap_u64 (by omega)
theorem K64.bits {k : IntKind} (hk : K64 k) : k.bits = 64 := by cases hk <;> rfl
theorem ofInt_nat {n w : Nat} (h : n < 2 ^ w) : (BitVec.ofInt w (n : Int)).toNat = n := by
  rw [BitVec.toNat_ofInt]
  have : (n : Int) % ((2 ^ w : Nat) : Int) = n := Int.emod_eq_of_lt (by omega) (by omega)
  rw [this]; rfl
theorem and_lt {m n : Nat} (h : m < 9223372036854775808) : m &&& n < 9223372036854775808 := Nat.lt_of_le_of_lt Nat.and_le_left h
theorem or_lt {m n : Nat} (h : m < 9223372036854775808) (h' : n < 9223372036854775808) : m ||| n < 9223372036854775808 := Nat.or_lt_two_pow (n := 63) h h'

variable {P : Program} {w0 w : World} {H : List Assn} {σ : Sig} {o : Oper} {T T2 : TypeId} {x y : Operand} {k k' : IntKind} {m n : Nat}

theorem Pu.and (hk : K64 k) (hm : m < 9223372036854775808) (hn : n < 9223372036854775808) (ho : o.op = .binOp .and T x y T2) (hx : ev σ x = some (.int k (m : Int))) (hy : ev σ y = some (.int k (n : Int))) : Pu P w0 o σ H (.int k ((m &&& n : Nat) : Int)) :=
  Pu.bin ho hx hy fun w => by
    have h1 : (BitVec.ofInt k.bits (m : Int) &&& BitVec.ofInt k.bits (n : Int)).toNat = m &&& n := by
      rw [BitVec.toNat_and, ofInt_nat (by rw [hk.bits]; omega), ofInt_nat (by rw [hk.bits]; omega)]
    simp only [Go.binOp, Op.intBits, h1, hk.wrap (and_lt hm), ne_eq, not_true, if_false]
    rfl
theorem Pu.or (hk : K64 k) (hm : m < 9223372036854775808) (hn : n < 9223372036854775808) (ho : o.op = .binOp .or T x y T2) (hx : ev σ x = some (.int k (m : Int))) (hy : ev σ y = some (.int k (n : Int))) : Pu P w0 o σ H (.int k ((m ||| n : Nat) : Int)) :=
  Pu.bin ho hx hy fun w => by
    have h1 : (BitVec.ofInt k.bits (m : Int) ||| BitVec.ofInt k.bits (n : Int)).toNat = m ||| n := by
      rw [BitVec.toNat_or, ofInt_nat (by rw [hk.bits]; omega), ofInt_nat (by rw [hk.bits]; omega)]
    simp only [Go.binOp, Op.intBits, h1, hk.wrap (or_lt hm hn), ne_eq, not_true, if_false]
    rfl
theorem Pu.shl {p : Nat} {yk : IntKind} (hk : K64 k) (hp : p ≤ 62) (hm : m * 2 ^ p < 9223372036854775808) (ho : o.op = .binOp .shl T x y T2) (hx : ev σ x = some (.int k (m : Int))) (hy : ev σ y = some (.int yk (p : Int))) : Pu P w0 o σ H (.int k ((m * 2 ^ p : Nat) : Int)) := by
  intro w hw a ha
  have h1 := ha x (by simp [ho, Op.operands]) _ hx
  have h2 := ha y (by simp [ho, Op.operands]) _ hy
  have he : (eqGuard .shl T x y (.int k (m : Int)) (.int yk (p : Int))).run P w = .ok () w := by
    unfold eqGuard
    simp
  have h3 : min p k.bits = p := by rw [hk.bits]; omega
  have h4 : k.wrap ((m : Int) * 2 ^ p) = ((m * 2 ^ p : Nat) : Int) := by
    rw [← hk.wrap hm]; congr 1
  have h5 : ¬ ((p : Int) < 0) := by omega
  simp [execOp, ho, h1, h2, he, Go.binOp, Op.shift, h3, h4, h5]
theorem Pu.shl1 {p : Nat} {yk : IntKind} (hk : K64 k) (hp : p ≤ 62) (ho : o.op = .binOp .shl T x y T2) (hx : ev σ x = some (.int k 1)) (hy : ev σ y = some (.int yk (p : Int))) : Pu P w0 o σ H (.int k ((2 ^ p : Nat) : Int)) := by
  have := Pu.shl (P := P) (w0 := w0) (H := H) (m := 1) hk hp (by have : 2 ^ p ≤ 2 ^ 62 := Nat.pow_le_pow_right (by decide) hp; omega) ho hx hy
  rwa [Nat.one_mul] at this
theorem Pu.convU {s t : TypeId} {kk : IntKind} (hs : ∃ d, P.underlying s = some d) (ht : P.underlying t = some (.int .u64)) (hb : n < 18446744073709551616) (ho : o.op = .convert s t x) (hx : ev σ x = some (.int kk (n : Int))) : Pu P w0 o σ H (.int .u64 (n : Int)) := by
  have := Pu.convert (P := P) (w0 := w0) (H := H) hs ht ho hx
  rwa [wrap_u64 hb] at this
theorem Pu.convU' {s t : TypeId} {kk : IntKind} {i : Int} (n : Nat) (hi : i = (n : Int)) (hs : ∃ d, P.underlying s = some d) (ht : P.underlying t = some (.int .u64)) (hb : n < 18446744073709551616) (ho : o.op = .convert s t x) (hx : ev σ x = some (.int kk i)) : Pu P w0 o σ H (.int .u64 (n : Int)) := by
  subst hi
  exact Pu.convU hs ht hb ho hx
end Go.Vc

namespace Go.Vc


def ltL (a b : List Int) : Prop := cmpL a b < 0

def SrtL (l : List (List Int)) : Prop := l.Pairwise ltL
theorem SrtL.nil : SrtL [] := List.Pairwise.nil


section
variable {α : Type} {l : List α} {z x : α} {i : Nat}
end
def idxP {α : Type} (p : α → Prop) [DecidablePred p] (xs : List α) : Int := match xs.findIdx? (fun x => decide (p x)) with | some i => i | none => -1
section
variable {α : Type} {p : α → Prop} [DecidablePred p] {xs : List α} {k : Nat}
theorem idxP_found (hk : k < xs.length) (hp : p xs[k]) (hlt : ∀ j (hj : j < xs.length), j < k → ¬ p xs[j]) : idxP p xs = k := by
  have : xs.findIdx? (fun x => decide (p x)) = some k := by
    rw [List.findIdx?_eq_some_iff_getElem]
    exact ⟨hk, by simpa using hp, fun j hj => by simpa using hlt j (by omega) hj⟩
  simp [idxP, this]
theorem idxP_none (h : ∀ j (hj : j < xs.length), ¬ p xs[j]) : idxP p xs = -1 := by
  have : xs.findIdx? (fun x => decide (p x)) = none := by
    rw [List.findIdx?_eq_none_iff]
    intro x hx
    obtain ⟨j, hj, rfl⟩ := List.getElem_of_mem hx
    simpa using h j hj
  simp [idxP, this]
theorem idxP_nonneg : 0 ≤ idxP p xs ↔ ∃ x ∈ xs, p x := by
  unfold idxP
  cases h : xs.findIdx? (fun x => decide (p x)) with
  | none =>
    rw [List.findIdx?_eq_none_iff] at h
    simp only [Int.reduceNeg, Int.reduceLE, false_iff, not_exists, not_and]
    intro x hx hp
    have := h x hx
    simp [hp] at this
  | some i =>
    rw [List.findIdx?_eq_some_iff_getElem] at h
    obtain ⟨h1, h2, _⟩ := h
    exact ⟨fun _ => ⟨_, List.getElem_mem h1, by simpa using h2⟩, fun _ => by simp⟩
end
end Go.Vc

namespace Go.Vc
open Go Go.RowKit

section
variable {P : Program} {w0 w : World} {H H' : List Assn} {α : Type} {T : TypeId} {C : Cod α}

def tops (ps : List (Sl × List α)) : List Sl := ps.map (·.1)
def conts (ps : List (Sl × List α)) : List (List α) := ps.map (·.2)
theorem tops_len (ps : List (Sl × List α)) : (tops ps).length = ps.length := List.length_map ..
theorem conts_len (ps : List (Sl × List α)) : (conts ps).length = ps.length := List.length_map ..
theorem tops_append (ps qs : List (Sl × List α)) : tops (ps ++ qs) = tops ps ++ tops qs := List.map_append ..
theorem conts_append (ps qs : List (Sl × List α)) : conts (ps ++ qs) = conts ps ++ conts qs := List.map_append ..
theorem tops_get (ps : List (Sl × List α)) {k : Nat} (hk : k < (tops ps).length) : (tops ps)[k] = (ps[k]'(by rw [← tops_len]; exact hk)).1 := List.getElem_map ..
theorem conts_get (ps : List (Sl × List α)) {k : Nat} (hk : k < (conts ps).length) : (conts ps)[k] = (ps[k]'(by rw [← conts_len]; exact hk)).2 := List.getElem_map ..

def rowA (T : TypeId) (C : Cod α) (p : Sl × List α) : Assn := .sep (.pur (p.1.n = p.2.length)) (Own T C p.1.A p.1.c p.2)
def RowsA (T : TypeId) (C : Cod α) (ps : List (Sl × List α)) : Assn := ⟨fun w F => SatF (ps.map (rowA T C)) w F, fun h hk => SatF.loc h hk⟩

theorem SatF_append {H1 H2 : List Assn} {w : World} {F : Nat → Prop} : SatF (H1 ++ H2) w F ↔ ∃ F1 F2, SatF H1 w F1 ∧ SatF H2 w F2 ∧ (∀ k, F1 k → ¬ F2 k) ∧ ∀ k, F k ↔ F1 k ∨ F2 k := by
  constructor
  · intro h
    induction H1 generalizing F with
    | nil => exact ⟨fun _ => False, F, fun _ h => h, h, fun _ h => h.elim, fun k => by simp⟩
    | cons A H1 ih =>
      obtain ⟨G1, G2, g1, g2, gd, gF⟩ := h
      obtain ⟨K1, K2, k1, k2, kd, kF⟩ := ih g2
      refine ⟨fun k => G1 k ∨ K1 k, K2, ⟨G1, K1, g1, k1, fun k h1 h2 => gd k h1 ((kF k).2 (.inl h2)), fun _ => Iff.rfl⟩, k2, ?_, ?_⟩
      · rintro k (h1 | h1) h2
        · exact gd k h1 ((kF k).2 (.inr h2))
        · exact kd k h1 h2
      · intro k
        rw [gF k, kF k, or_assoc]
  · rintro ⟨F1, F2, h1, h2, hd, hF⟩
    exact SatF_congr (SatF.append h1 h2 hd) (fun k => (hF k).symm)
theorem St.rows {ps : List (Sl × List α)} : St w0 (RowsA T C ps :: H) w ↔ St w0 (ps.map (rowA T C) ++ H) w := by
  constructor
  · rintro ⟨hb, F, ⟨F1, F2, h1, h2, hd, hF⟩, hk⟩
    exact ⟨hb, F, SatF_append.2 ⟨F1, F2, h1, h2, hd, hF⟩, hk⟩
  · rintro ⟨hb, F, hs, hk⟩
    obtain ⟨F1, F2, h1, h2, hd, hF⟩ := SatF_append.1 hs
    exact ⟨hb, F, ⟨F1, F2, h1, h2, hd, hF⟩, hk⟩
theorem RowsA.nil (hw : St w0 H w) : St w0 (RowsA T C ([] : List (Sl × List α)) :: H) w := St.rows.2 hw
theorem RowsA.permP {ps qs : List (Sl × List α)} (hp : ps.Perm qs) : ∀ w F, (RowsA T C ps).P w F → (RowsA T C qs).P w F := fun _ _ h => SatF.perm (hp.map _) h
theorem RowsA.perm {ps qs : List (Sl × List α)} (hp : ps.Perm qs) (hw : St w0 (RowsA T C ps :: H) w) : St w0 (RowsA T C qs :: H) w := hw.mono (RowsA.permP hp)
theorem RowsA.cons {A : Option Addr} {c : Nat} {xs : List α} {ps : List (Sl × List α)} (hw : St w0 (Own T C A c xs :: RowsA T C ps :: H) w) : St w0 (RowsA T C ((⟨A, xs.length, c⟩, xs) :: ps) :: H) w := by
  refine St.rows.2 ?_
  have h1 := St.rows.1 (hw.perm (List.Perm.swap _ _ _))
  have h2 : St w0 (Own T C A c xs :: (ps.map (rowA T C) ++ H)) w := h1.perm List.perm_middle
  exact (St.addPur rfl h2).unsep
theorem RowsA.uncons {s : Sl} {xs : List α} {ps : List (Sl × List α)} (hw : St w0 (RowsA T C ((s, xs) :: ps) :: H) w) : s.n = xs.length ∧ St w0 (Own T C s.A s.c xs :: RowsA T C ps :: H) w := by
  have h1 : St w0 (rowA T C (s, xs) :: (ps.map (rowA T C) ++ H)) w := St.rows.1 hw
  obtain ⟨h2, h3⟩ := (St.sep h1).pur
  refine ⟨h2, ?_⟩
  refine St.perm ?_ (List.Perm.swap _ _ _)
  refine St.rows.2 ?_
  exact h3.perm List.perm_middle.symm
theorem Own.le {A : Option Addr} {c i : Nat} {xs : List α} (hw : St w0 H w) (hp : pull i H = Option.some (Own T C A c xs, H')) : xs.length ≤ 9223372036854775807 := by
  obtain ⟨F, ho, hF⟩ := hw.get i hp
  rcases ho.2 with ⟨h1, h2⟩ | ⟨g, cap, cur, hvv, hbase, hh, hle, hmax, hcs, htake⟩
  · omega
  · simp only [maxLen] at hmax
    omega
theorem RowsA.rd {i : Nat} {ps : List (Sl × List α)} (hw : St w0 H w) (hp : pull i H = some (RowsA T C ps, H')) {p : Sl × List α} (hm : p ∈ ps) : (p.1.n = p.2.length ∧ p.2.length ≤ 9223372036854775807) ∧ Rd C w p.1.A p.2 := by
  obtain ⟨l, r, rfl⟩ := List.append_of_mem hm
  have h1 := RowsA.perm (qs := p :: (l ++ r)) List.perm_middle (hw.perm (pull_perm hp))
  obtain ⟨h2, h3⟩ := RowsA.uncons (s := p.1) (xs := p.2) h1
  exact ⟨⟨h2, Own.le h3 (i := 0) rfl⟩, Own.rd h3 (i := 0) rfl⟩
def LenOk (ps : List (Sl × List α)) : Prop := ∀ p ∈ ps, p.1.n = p.2.length ∧ p.2.length ≤ 9223372036854775807
theorem LenOk.le {ps : List (Sl × List α)} (h : LenOk ps) {k : Nat} (hk : k < ps.length) : (ps[k]).2.length ≤ 9223372036854775807 := (h _ (List.getElem_mem hk)).2
theorem RowsA.len {ps : List (Sl × List α)} (i : Nat) (hp : pull i H = some (RowsA T C ps, H')) : ∀ w, St w0 H w → LenOk ps := fun _ hw _ hm => (RowsA.rd hw hp hm).1
theorem LenOk.sl {ps : List (Sl × List α)} (h : LenOk ps) {k : Nat} (hk : k < ps.length) : (ps[k]).1.v = .slice (ps[k]).1.A (ps[k]).2.length (ps[k]).1.c := by
  unfold Sl.v
  rw [(h _ (List.getElem_mem hk)).1]

theorem Ld.row {A : Option Addr} {ps : List (Sl × List α)} (hr : ∀ w, St w0 H w → Rd SlC w A (tops ps)) (hn : LenOk ps) {k s : Nat} (hk : k < ps.length) (hs : s = 1) :
    ∀ w, St w0 H w → ∃ q, A.map (·.add (k * s)) = some q ∧ w.cell? q = some (.slice (ps[k]).1.A (ps[k]).2.length (ps[k]).1.c) := by
  have hk' : k < (tops ps).length := by rw [tops_len]; exact hk
  refine Ld.rd (C := SlC) hr hk' hs ?_
  simp only [SlC]
  rw [tops_get ps hk', hn.sl hk]
theorem Ld.rows {ps : List (Sl × List α)} (i : Nat) (hp : pull i H = some (RowsA T C ps, H')) {k : Nat} (hk : k < ps.length) : ∀ w, St w0 H w → Rd C w (ps[k]).1.A (ps[k]).2 :=
  fun _ hw => (RowsA.rd hw hp (List.getElem_mem hk)).2

structure RdL (C : Cod α) (w : World) (A : Option Addr) (ps : List (Sl × List α)) : Prop where
  top : Rd SlC w A (tops ps)
  len : LenOk ps
  row : ∀ k (hk : k < ps.length), Rd C w (ps[k]).1.A (ps[k]).2
theorem RdL.below {A : Option Addr} {ps : List (Sl × List α)} {w' : World} (h : RdL C w A ps) (hb : Bel w.heap.size w w') : RdL C w' A ps := ⟨h.top.below hb, h.len, fun k hk => (h.row k hk).below hb⟩
theorem RdL.st {A : Option Addr} {ps : List (Sl × List α)} (h : RdL C w0 A ps) (hw : St w0 H w) : RdL C w A ps := h.below hw.below
theorem Ld.ll {T2 c : Nat} {A : Option Addr} {ps : List (Sl × List α)} {H2 : List Assn} (i j : Nat) (hp : pull i H = some (Own T2 SlC A c (tops ps), H')) (hq : pull j H = some (RowsA T C ps, H2)) : ∀ w, St w0 H w → RdL C w A ps :=
  fun w hw => ⟨Own.rd hw hp, RowsA.len j hq w hw, fun k hk => Ld.rows j hq hk w hw⟩
theorem RdL.nil (C : Cod α) (w : World) (A : Option Addr) : RdL C w A [] := ⟨Rd.nil _ _ _, fun _ h => by simp at h, fun k hk => by simp at hk⟩

theorem Own.nilP (w : World) : (Own T C none 0 ([] : List α)).P w (fun _ => False) := by
  refine ⟨⟨by simp, .inl ⟨?_, ?_⟩⟩, fun k => ?_⟩
  all_goals simp [Value.ownBlock]
theorem St.addNil (hw : St w0 H w) : St w0 (Own T C none 0 ([] : List α) :: H) w :=
  hw.add (Bel.refl _ _) (Own.nilP w) (fun _ h => h.elim)

theorem Ef.callPV {Q : Exit → Act → World → Prop} {o : Oper} {σ : Sig} {f : Operand} {g : FuncId} {l : List Operand} {ts : Array TypeId} {vs : List Value} {caps : Array Value} {r : Value} (hok : CallOk P g) (ho : o.op = .call { callee := .value f, args := l.toArray, argTypes := ts }) (hf : ev σ f = some (.func (.func g) #[] caps))
    (hargs : evs σ l = some vs) (hfn : ∀ w, St w0 H w → Does P g (vs ++ caps.toList) w [] (fun v => [.pur (v = r)])) : Ef P w0 o σ H Q (fun v H' => v = r ∧ H' = H) := by
  intro w hw a ha
  have := Ef.callV (Q := Q) ho hf hok hargs (Does.frame hfn) w hw a ha
  refine Oper.wp_mono ?_ this
  rintro a' w' ⟨v, H', rfl, hs, rfl⟩
  have hs' : St w0 (.pur (v = r) :: H) w' := hs
  exact ⟨v, H, rfl, hs'.pur.2, hs'.pur.1, rfl⟩
def RdB (w : World) (b : Nat) (cs : List Value) : Prop := ∀ m u, cs[m]? = some u → w.cell? ⟨b, m, none⟩ = some u
theorem RdB.below {w' : World} {b : Nat} {cs : List Value} (h : RdB w b cs) (hb : Bel w.heap.size w w') : RdB w' b cs := by
  intro m u hm
  have h1 := h m u hm
  rw [hb.low.cell (World.block_lt_of_cell? w _ h1)]
  exact h1
theorem Blk.rdb {b t i : Nat} {cs : List Value} (hw : St w0 H w) (hp : pull i H = Option.some (Blk b cs t, H')) : RdB w b cs := fun m u hm => Blk.cell hw hp hm
theorem Ld.rdb {b j : Nat} {cs : List Value} {u : Value} (h : RdB w0 b cs) (hj : cs[j]? = some u) : ∀ w, St w0 H w → ∃ q, some (⟨b, j, none⟩ : Addr) = some q ∧ w.cell? q = some u := fun w hw => ⟨_, rfl, h.below hw.below j u hj⟩
theorem Ld.rdbs {b : Nat} {cs : List Value} (h : RdB w0 b cs) : ∀ w, St w0 H w → ∃ q, some (⟨b, 0, none⟩ : Addr) = some q ∧ ∀ m u, cs[m]? = some u → w.cell? (q.add m) = some u := by
  intro w hw
  refine ⟨_, rfl, fun m u hm => ?_⟩
  rw [add_mk, Nat.zero_add]
  exact h.below hw.below m u hm
theorem Rd.none {C : Cod α} {A : Option Addr} {xs : List α} (h : Rd C w A xs) (hA : A = none) : xs = [] := by
  cases xs with
  | nil => rfl
  | cons x xs =>
    have := h.some (by simp)
    rw [hA] at this
    cases this
theorem Pu.indexAddrS {o : Oper} {σ : Sig} {T : TypeId} {x y : Operand} {A : Option Addr} {n c : Nat} {e sz : Nat} {K : IntKind} {i : Int} (k : Nat) (ho : o.op = .indexAddr T x y) (hT : P.underlying T = some (.slice e)) (hs : Sz P e sz) (hx : ev σ x = some (.slice A n c)) (hy : ev σ y = some (.int K i)) (hi : i = (k : Int)) (hk : k < n) (hA : ∀ w, St w0 H w → A.isSome = true) :
    Pu P w0 o σ H (.pointer (A.map (·.add (k * sz)))) := fun w hw a ha => Pu.indexAddr k ho hT hs hx hy hi hk (hA w hw) w hw a ha
variable {N : Nat} {Q : Exit → Act → World → Prop} {σ : Sig} {ops : Array Oper} {rest : List Oper}
theorem V.map {c : Code} (hs : ∀ w, St w0 H w → St w0 H' w) (h : V P N w0 c Q σ H') : V P N w0 c Q σ H := fun w hw a ha => h w (hs w hw) a ha
theorem O.map (hs : ∀ w, St w0 H w → St w0 H' w) (h : O P N w0 ops Q rest σ H') : O P N w0 ops Q rest σ H := fun w hw a ha => h w (hs w hw) a ha
theorem X.map {e : Exit} (hs : ∀ w, St w0 H w → St w0 H' w) (h : X N w0 Q e σ H') : X N w0 Q e σ H := fun w hw a ha => h w (hs w hw) a ha
end
end Go.Vc

namespace Go.Vc


def bmask (b : B3) : Nat := 2 ^ b.1.toNat + 2 ^ b.2.1.toNat + 2 ^ b.2.2.toNat
theorem three_bits {x y z : Nat} (h1 : x < y) (h2 : y < z) (i : Nat) : (2 ^ x + 2 ^ y + 2 ^ z).testBit i = decide (i = x ∨ i = y ∨ i = z) := by
  have e1 : 2 ^ x + 2 ^ y + 2 ^ z = 2 ^ z + (2 ^ y + 2 ^ x) := by omega
  have l1 : 2 ^ x < 2 ^ y := Nat.pow_lt_pow_right (by decide) h1
  have l2 : 2 ^ y + 2 ^ x < 2 ^ z := by
    have : 2 ^ (y + 1) ≤ 2 ^ z := Nat.pow_le_pow_right (by decide) h2
    rw [Nat.pow_succ] at this
    omega
  have e2 := Nat.two_pow_add_eq_or_of_lt l2 1
  have e3 := Nat.two_pow_add_eq_or_of_lt l1 1
  rw [Nat.mul_one] at e2 e3
  rw [e1, e2, e3]
  simp only [Nat.testBit_or, Nat.testBit_two_pow]
  by_cases a : i = x <;> by_cases b : i = y <;> by_cases c : i = z <;> simp [a, b, c] <;> omega
theorem bmask_bit {v : Int} {b : B3} (h : good v b) (p : Nat) : (bmask b).testBit p = true ↔ has b (p : Int) := by
  unfold good at h
  unfold bmask has
  rw [three_bits (by omega) (by omega)]
  simp only [decide_eq_true_eq]
  omega
theorem bmask_lt {b : B3} (h : good 15 b) : bmask b < 65536 := by
  unfold good at h
  unfold bmask
  have h1 : 2 ^ b.1.toNat ≤ 2 ^ 14 := Nat.pow_le_pow_right (by decide) (by omega)
  have h2 : 2 ^ b.2.1.toNat ≤ 2 ^ 14 := Nat.pow_le_pow_right (by decide) (by omega)
  have h3 : 2 ^ b.2.2.toNat ≤ 2 ^ 14 := Nat.pow_le_pow_right (by decide) (by omega)
  omega
theorem and_zero {m n : Nat} : m &&& n = 0 ↔ ∀ p, ¬ (m.testBit p = true ∧ n.testBit p = true) := by
  constructor
  · intro h p hp
    have : (m &&& n).testBit p = true := by rw [Nat.testBit_and]; simp [hp]
    rw [h] at this
    simp at this
  · intro h
    apply Nat.eq_of_testBit_eq
    intro p
    rw [Nat.testBit_and]
    have := h p
    cases h1 : m.testBit p <;> cases h2 : n.testBit p <;> simp_all
def cov (m : Nat) : Nat → Nat
  | 0 => 0
  | v + 1 => cov m v + (if m.testBit v then 1 else 0)
theorem cov_le (m : Nat) : ∀ v, cov m v ≤ v := by
  intro v
  induction v with
  | zero => simp [cov]
  | succ v ih => simp only [cov]; split <;> omega
theorem cov_all {m : Nat} : ∀ {v : Nat}, cov m v = v ↔ ∀ p, p < v → m.testBit p = true := by
  intro v
  induction v with
  | zero => simp [cov]
  | succ v ih =>
    have := cov_le m v
    simp only [cov]
    constructor
    · intro h p hp
      split at h
      · by_cases e : p = v
        · subst e; assumption
        · exact ih.1 (by omega) p (by omega)
      · omega
    · intro h
      rw [if_pos (h v (by omega)), ih.2 (fun p hp => h p (by omega))]
theorem cov_or {m n : Nat} (h : m &&& n = 0) : ∀ v, cov (m ||| n) v = cov m v + cov n v := by
  intro v
  induction v with
  | zero => rfl
  | succ v ih =>
    have := and_zero.1 h v
    simp only [cov, ih, Nat.testBit_or]
    cases h1 : m.testBit v <;> cases h2 : n.testBit v <;> simp_all <;> omega
theorem cov_three {n x y z : Nat} (h1 : x < y) (h2 : y < z) (hn : ∀ p, n.testBit p = decide (p = x ∨ p = y ∨ p = z)) : ∀ v, cov n v = (if x < v then 1 else 0) + (if y < v then 1 else 0) + (if z < v then 1 else 0) := by
  intro v
  induction v with
  | zero => simp [cov]
  | succ v ih =>
    simp only [cov, ih, hn, decide_eq_true_eq]
    (repeat' split) <;> omega
theorem cov_bmask {v : Int} {b : B3} (h : good v b) : cov (bmask b) v.toNat = 3 := by
  have hb := h
  unfold good at h
  unfold bmask
  rw [cov_three (x := b.1.toNat) (y := b.2.1.toNat) (z := b.2.2.toNat) (by omega) (by omega) (fun p => three_bits (by omega) (by omega) p), if_pos (by omega), if_pos (by omega), if_pos (by omega)]


def blk (bs : List B3) (k : Int) : B3 := bs.getD k.toNat (0, 0, 0)
def okIx (bs : List B3) (k : Int) : Prop := 0 ≤ k ∧ k < bs.length
theorem blk_ix {bs : List B3} {k : Int} (h : okIx bs k) : blk bs k = bs[k.toNat]'(by obtain ⟨h1, h2⟩ := h; omega) := by
  obtain ⟨h1, h2⟩ := h
  have h3 : k.toNat < bs.length := by omega
  simp [blk, h3]
theorem blk_mem {bs : List B3} {k : Int} (h : okIx bs k) : blk bs k ∈ bs := by
  obtain ⟨h1, h2⟩ := h
  have h3 : k.toNat < bs.length := by omega
  have : blk bs k = bs[k.toNat] := by simp [blk, h3]
  rw [this]
  exact List.getElem_mem _
def disj (a b : B3) : Prop := ∀ p, ¬ (has a p ∧ has b p)
theorem disj.symm {a b : B3} (h : disj a b) : disj b a := fun p hp => h p ⟨hp.2, hp.1⟩
def Djs (bs : List B3) (r : List Int) : Prop := r.Pairwise fun i j => disj (blk bs i) (blk bs j)
theorem good_lt {v : Int} {b : B3} (h : good v b) {p : Int} (hp : has b p) : 0 ≤ p ∧ p < v := by
  unfold good at h
  rcases hp with e | e | e <;> omega

section
variable {v : Int} {bs : List B3} {xs ys : List Int} {m : Nat}
end


def meets (b c : B3) : Prop := has c b.1 ∨ has c b.2.1 ∨ has c b.2.2
instance (b c : B3) : Decidable (meets b c) := inferInstanceAs (Decidable (_ ∨ _ ∨ _))
theorem meets_disj {b c : B3} : ¬ meets b c ↔ disj b c := by
  unfold meets disj
  constructor
  · intro h p ⟨h1, h2⟩
    rcases h1 with e | e | e
    · exact h (.inl (e ▸ h2))
    · exact h (.inr (.inl (e ▸ h2)))
    · exact h (.inr (.inr (e ▸ h2)))
  · intro h h'
    rcases h' with e | e | e
    · exact h _ ⟨.inl rfl, e⟩
    · exact h _ ⟨.inr (.inl rfl), e⟩
    · exact h _ ⟨.inr (.inr rfl), e⟩
section
variable {bs : List B3} {now : List Int} {many i : Nat}
def maskOf (bs : List B3) : List Int → Nat
  | [] => 0
  | k :: r => bmask (blk bs k) ||| maskOf bs r
theorem maskOf_bit {v : Int} (hb : ∀ b ∈ bs, good v b) {r : List Int} (hr : ∀ k ∈ r, okIx bs k) (p : Nat) : (maskOf bs r).testBit p = true ↔ ∃ k ∈ r, has (blk bs k) (p : Int) := by
  induction r with
  | nil => simp [maskOf]
  | cons k r ih =>
    simp only [maskOf, Nat.testBit_or, Bool.or_eq_true, ih (fun k hk => hr k (by simp [hk])), bmask_bit (hb _ (blk_mem (hr k (by simp)))), List.mem_cons]
    constructor
    · rintro (h | ⟨j, hj, h⟩)
      · exact ⟨k, .inl rfl, h⟩
      · exact ⟨j, .inr hj, h⟩
    · rintro ⟨j, rfl | hj, h⟩
      · exact .inl h
      · exact .inr ⟨j, hj, h⟩
theorem maskOf_cov {v : Int} (hb : ∀ b ∈ bs, good v b) {r : List Int} (hr : ∀ k ∈ r, okIx bs k) (hd : Djs bs r) : cov (maskOf bs r) v.toNat = 3 * r.length := by
  induction r with
  | nil =>
    have : ∀ n, cov 0 n = 0 := by
      intro n
      induction n with
      | zero => rfl
      | succ n ih => simp [cov, ih]
    simp [maskOf, this]
  | cons k r ih =>
    obtain ⟨h1, h2⟩ := List.pairwise_cons.1 hd
    have hr' : ∀ k ∈ r, okIx bs k := fun k hk => hr k (by simp [hk])
    have hk := hb _ (blk_mem (hr k (by simp)))
    have h0 : bmask (blk bs k) &&& maskOf bs r = 0 := by
      rw [and_zero]
      rintro p ⟨hp1, hp2⟩
      obtain ⟨j, hj, h3⟩ := (maskOf_bit hb hr' p).1 hp2
      exact h1 j hj _ ⟨(bmask_bit hk p).1 hp1, h3⟩
    simp only [maskOf, cov_or h0, ih hr' h2, cov_bmask hk, List.length_cons]
    omega
end
end Go.Vc

namespace Go.Vc
open Go Go.RowKit

section
variable {P : Program} {w0 w : World} {H H' : List Assn} {α : Type} {T : TypeId} {C : Cod α} {Q : Exit → Act → World → Prop} {σ : Sig} {o : Oper}


end
end Go.Vc

namespace Go.Vc
open Go Go.RowKit
section
variable {P : Program} {w0 w : World} {H H' : List Assn} {α : Type} {Q : Exit → Act → World → Prop} {σ : Sig} {o : Oper} {T e : TypeId} {C : Cod α}

theorem elem_of {T e : TypeId} (hT : P.underlying T = some (.slice e)) : P.underlying T = some (.slice (P.elem T)) ∧ P.elem T = e := by
  have : P.elem T = e := by simp [Program.elem, hT]
  exact ⟨this ▸ hT, this⟩
theorem map_add_zero (A : Option Addr) : A.map (·.add 0) = A := by
  cases A with
  | none => rfl
  | some q =>
    simp only [Option.map_some, Option.some.injEq]
    unfold Addr.add
    split <;> simp_all
theorem Pu.sliceH {x y : Operand} {A : Option Addr} {n c s : Nat} {K : IntKind} {i : Int} (k : Nat) (ho : o.op = .slice T x none (some y) none) (hT : P.underlying T = some (.slice e)) (hs : Sz P e s) (hx : ev σ x = some (.slice A n c)) (hy : ev σ y = some (.int K i)) (hi : i = (k : Int)) (hk : k ≤ c) :
    Pu P w0 o σ H (.slice A k c) := by
  intro w hw a ha
  have h1 := ha x (by simp [ho, Op.operands]) _ hx
  have h2 := ha y (by simp [ho, Op.operands]) _ hy
  subst hi
  obtain ⟨e1, e2⟩ := elem_of hT
  have e3 : Value.slice (if c = 0 then A else A.map (·.add 0)) k c = .slice A k c := by rw [map_add_zero]; simp
  have hr := run_slice_h (w := w) T A n c e1 K (k : Int) (by omega) (by omega)
  rw [e2, run_sz hs] at hr
  simp only [Result.andThen_ok, sliced, Int.toNat_natCast, Nat.zero_mul, Nat.sub_zero, e3] at hr
  simp [execOp, ho, h1, h2, run_sliceAt_slice (h := e1), hr]
theorem Rd.drop {A : Option Addr} {xs : List α} {c k s : Nat} (h : Rd C w A xs) (hs : s = C.sz) (hc : xs.length ≤ c) : Rd C w (if c = k then A else A.map (·.add (k * s))) (xs.drop k) := by
  intro i hi
  rw [List.length_drop] at hi
  obtain ⟨q, hq, hr⟩ := h (k + i) (by omega)
  rw [if_neg (by omega), hq]
  refine ⟨_, rfl, fun j u hj => ?_⟩
  rw [List.getElem_drop] at hj
  have := hr j u hj
  rw [Addr.add_add', hs]
  rw [show k * C.sz + (i * C.sz + j) = (k + i) * C.sz + j by rw [Nat.add_mul]; omega]
  exact this
theorem Rd.take {A : Option Addr} {xs : List α} (h : Rd C w A xs) (k : Nat) : Rd C w A (xs.take k) := by
  intro i hi
  rw [List.length_take] at hi
  obtain ⟨q, hq, hr⟩ := h i (by omega)
  exact ⟨q, hq, fun j u hj => hr j u (by rw [List.getElem_take] at hj; exact hj)⟩
theorem Own.cap {c i : Nat} {A : Option Addr} {xs : List α} (hw : St w0 H w) (hp : pull i H = Option.some (Own T C A c xs, H')) : xs.length ≤ c := by
  obtain ⟨F, ho, hF⟩ := hw.get i hp
  rcases ho.2 with ⟨h1, h2⟩ | ⟨g, cap, cur, hvv, hbase, hh, hle, hmax, hcs, htake⟩
  · omega
  · have hcap : c = cap := by injection hvv
    omega
end

section
variable {P : Program} {w0 w : World} {H : List Assn} {σ : Sig} {o : Oper}
end

section
variable {β : Type} {p : β → Prop} [DecidablePred p] {ps : List β} {j : Nat}
end
end Go.Vc

namespace Go.Vc
open Go Go.RowKit
section
variable {P : Program} {N : Nat} {w0 : World} {Q : Exit → Act → World → Prop} {σ σ' : Sig} {H H' Hs Hs' : List Assn} {ops : Array Oper}
theorem Det.of {i d : Nat} {v : Value} {o : Oper} (ho : ops[i]? = some o) (hg : o.guard = none) (hd : o.dst = some d) (hp : Pu P w0 o σ Hs v) : Det P w0 ops Q i σ Hs d v := by
  refine ⟨o, ho, hd, fun w hw a K hag hK => ?_⟩
  unfold wpOp
  rw [ho]
  simp only
  rw [if_pos (wanted_none hg _)]
  refine .inl (upon_ok (hp w hw a ?_) ?_)
  · intro x hx u hu
    cases x with
    | tmp t =>
      have ht : t ∈ reads ops o := by
        unfold reads
        exact List.mem_append.2 (.inl (List.mem_filterMap.2 ⟨.tmp t, by simpa using hx, rfl⟩))
      have := hag t ht u hu
      simp [Act.eval, this]
    | const c => simpa [ev, Act.eval] using hu
    | global g => simpa [ev, Act.eval] using hu
    | func g => simpa [ev, Act.eval] using hu
  · rw [hd]
    exact hK
end
end Go.Vc

