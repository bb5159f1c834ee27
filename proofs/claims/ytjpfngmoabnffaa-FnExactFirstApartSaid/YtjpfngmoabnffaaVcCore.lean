/-
  A calculus for walking Go code: a symbolic environment of slots, a symbolic heap of separated assertions, and one rule an operation.
-/
import Derived.Orders
import Derived.WalkKit
import Derived.Below
import Derived.RowKit
import Derived.Laws.AppendOwn
import Derived.Laws.MakeOwn
import Derived.Laws.Rows
import Derived.KernelRfl
set_option linter.unusedVariables false
set_option linter.unusedSimpArgs false
namespace Go.Vc
open Go Go.RowKit

/-! ### Draws only go on -/
theorem ask_drawn {α : Type} : ∀ (m : Ask α) (w : World), w.drawn ≤ (w.ask m).2.drawn := by
  intro m
  induction m with
  | done a => intro w; exact Nat.le_refl _
  | ask what range k ih =>
    intro w
    unfold World.ask
    dsimp only
    split
    · exact ih 0 w
    · exact Nat.le_trans (Nat.le_succ _) (ih _ { w with drawn := w.drawn + 1 })
theorem sys_drawn (w : World) (c : Sys) : w.drawn ≤ (w.sys c).2.drawn := by
  have h := ask_drawn (Kernel.perform c w.os) w
  unfold World.sys
  split
  · exact Nat.le_refl _
  · rename_i h2
    rw [h2] at h
    exact h
theorem viewStore_drawn {P : Program} {w w' : World} {at_ : Addr} {u : TypeId} {k : Addr} {v : Value} {b : Bool} {l : List Addr} (h : w.viewStore P at_ u k v b = .ok (w', l)) : w'.drawn = w.drawn := by
  unfold World.viewStore at h
  simp only [bind, Except.bind, pure, Except.pure] at h
  repeat' split at h
  all_goals first | (cases h; done) | skip
  all_goals (cases h; rfl)
theorem farStore_drawn {P : Program} {w w' : World} {a : Addr} {v : Value} {b : Bool} {l : List Addr} (h : w.farStore P a v b = .ok (w', l)) : w'.drawn = w.drawn := by
  unfold World.farStore at h
  split at h
  · split at h
    · rename_i r hr
      cases h
      exact viewStore_drawn hr
    · cases h
  · cases h
theorem run_drawn {α : Type} {P : Program} : ∀ (m : Sem α) {w w' : World} {a : α}, m.run P w = .ok a w' → w.drawn ≤ w'.drawn := by
  intro m
  induction m with
  | pure x => intro w w' a h; simp only [Sem.run] at h; cases h; exact Nat.le_refl _
  | load md ad k ih =>
    intro w w' a h
    simp only [Sem.run] at h
    split at h
    · have h3 := ih _ h; exact h3
    · split at h
      · have h3 := ih _ h; exact h3
      · cases h
  | store md ad v k ih =>
    intro w w' a h
    cases v
    all_goals simp only [Sem.run] at h
    all_goals first | (cases h; done) | skip
    all_goals
      split at h
      · split at h
        · cases h
        · have h3 := ih h; exact h3
      · split at h
        · rename_i w2 l hf
          exact Nat.le_trans (Nat.le_of_eq (farStore_drawn hf).symm) (ih h)
        · cases h
  | new o k ih => intro w w' a h; simp only [Sem.run] at h; have h3 := ih _ h; exact h3
  | shape r k ih => intro w w' a h; simp only [Sem.run] at h; exact ih _ h
  | freeze ad n k ih =>
    intro w w' a h
    simp only [Sem.run] at h
    have h3 := ih h
    unfold World.freeze at h3
    split at h3 <;> exact h3
  | frozen ad k ih => intro w w' a h; simp only [Sem.run] at h; exact ih _ h
  | getObj r k ih =>
    intro w w' a h
    simp only [Sem.run] at h
    split at h
    · cases h
    · have h3 := ih _ h; exact h3
    · cases h
  | setObj r o k ih =>
    intro w w' a h
    simp only [Sem.run] at h
    split at h
    · cases h
    · have h3 := ih h; exact h3
    · cases h
  | choose q k ih =>
    intro w w' a h
    simp only [Sem.run] at h
    split at h
    · have h3 := ih _ h; exact h3
    · exact Nat.le_trans (Nat.le_succ _) (ih _ h)
  | sys c k ih => intro w w' a h; simp only [Sem.run] at h; exact Nat.le_trans (sys_drawn w c) (ih _ h)
  | program k ih => intro w w' a h; simp only [Sem.run] at h; exact ih _ h
  | mark m k ih => intro w w' a h; simp only [Sem.run] at h; exact ih h
  | halt h0 => intro w w' a h; simp only [Sem.run] at h; cases h
/-- Below block number B the world w' is as w was; the streams are as they were; no block has gone; draws only go on. -/
structure Bel (B : Nat) (w w' : World) : Prop where
  os : w'.os = w.os
  tape : w'.tape = w.tape
  output : w'.output = w.output
  size : w.heap.size ≤ w'.heap.size
  block : ∀ k, k < B → w'.heap[k]? = w.heap[k]?
  drawn : w.drawn ≤ w'.drawn
theorem Bel.low {B : Nat} {w w' : World} (h : Bel B w w') : Below B w w' := ⟨h.os, h.tape, h.output, h.size, h.block⟩
theorem Bel.of {B : Nat} {w w' : World} (h : Below B w w') (hd : w.drawn ≤ w'.drawn) : Bel B w w' := ⟨h.os, h.tape, h.output, h.size, h.block, hd⟩
theorem Bel.refl (B : Nat) (w : World) : Bel B w w := ⟨rfl, rfl, rfl, Nat.le_refl _, fun _ _ => rfl, Nat.le_refl _⟩

theorem beq_ne {t s : Nat} (e : t ≠ s) : Nat.beq t s = false := by
  cases hh : Nat.beq t s with
  | true => exact absurd (Nat.eq_of_beq_eq_true hh) e
  | false => rfl
theorem ne_of_beq {t s : Nat} (h : Nat.beq t s = false) : t ≠ s := by
  rintro rfl
  rw [Nat.beq_refl] at h
  cases h

/-! ### The environment -/
abbrev Sig := List (Nat × Value)

def look : Sig → Nat → Option Value
  | [], _ => none
  | (k, v) :: r, t => bif Nat.beq k t then some v else look r t

def ev (σ : Sig) : Operand → Option Value
  | .tmp t => look σ t
  | .const v => some v
  | .global g => some (.pointer (some ⟨g, 0, none⟩))
  | .func f => some (.func (.func f) #[] #[])

def evs (σ : Sig) : List Operand → Option (List Value)
  | [] => some []
  | x :: r => match ev σ x, evs σ r with
    | some v, some vs => some (v :: vs)
    | _, _ => none

structure Env (N : Nat) (σ : Sig) (a : Act) : Prop where
  defers : a.defers = []
  size : a.tmps.size = N
  look_ : ∀ t v, look σ t = some v → a.tmps[t]? = some v

theorem Env.eval {N : Nat} {σ : Sig} {a : Act} (h : Env N σ a) {x : Operand} {v : Value} (hx : ev σ x = some v) : a.eval x = v := by
  cases x with
  | tmp t => simp [Act.eval, Array.getD_eq_getD_getElem?, h.look_ t v hx]
  | const u => simpa [ev, Act.eval] using hx
  | global g => simpa [ev, Act.eval] using hx
  | func f => simpa [ev, Act.eval] using hx

def push (d : Option Tmp) (v : Value) (σ : Sig) : Sig := match d with | some t => (t, v) :: σ | none => σ
def dstOk (d : Option Tmp) (N : Nat) : Bool := match d with | some t => Nat.blt t N | none => true

theorem Env.put {N : Nat} {σ : Sig} {a : Act} (h : Env N σ a) {d : Option Tmp} (hd : dstOk d N = true) (v : Value) : Env N (push d v σ) (a.put d v) := by
  cases d with
  | none => exact h
  | some t =>
    have ht : t < N := by simpa [dstOk, Nat.blt_eq] using hd
    refine ⟨h.defers, by simp [Act.put, h.size], fun s u hs => ?_⟩
    simp only [push, look] at hs
    by_cases e : t = s
    · subst e
      rw [show Nat.beq t t = true from Nat.beq_refl t] at hs
      simp only [cond_true, Option.some.injEq] at hs
      subst hs
      simp [Act.put, h.size, ht]
    · have hb : Nat.beq t s = false := beq_ne e
      rw [hb] at hs
      simp only [cond_false] at hs
      simp only [Act.put]
      rw [Array.getElem?_setIfInBounds_ne e]
      exact h.look_ s u hs

/-- What the second environment knows, the first knows. -/
def Ent (σ σ' : Sig) : Prop := ∀ t v, look σ' t = some v → look σ t = some v
theorem Ent.nil (σ : Sig) : Ent σ [] := fun _ _ h => by cases h
theorem Ent.refl (σ : Sig) : Ent σ σ := fun _ _ h => h
theorem Ent.cons {σ σ' : Sig} {t : Nat} {v : Value} (h : look σ t = some v) (hr : Ent σ σ') : Ent σ ((t, v) :: σ') := by
  intro s u hs
  simp only [look] at hs
  by_cases e : t = s
  · subst e
    rw [show Nat.beq t t = true from Nat.beq_refl t] at hs
    simp only [cond_true, Option.some.injEq] at hs
    exact hs ▸ h
  · have hb : Nat.beq t s = false := beq_ne e
    rw [hb] at hs
    exact hr s u hs
/-- .. with the value spelled otherwise. -/
theorem Ent.cons' {σ σ' : Sig} {t : Nat} {v u : Value} (h : look σ t = some u) (e : u = v) (hr : Ent σ σ') : Ent σ ((t, v) :: σ') := Ent.cons (e ▸ h) hr
theorem Env.ent {N : Nat} {σ σ' : Sig} {a : Act} (h : Env N σ a) (he : Ent σ σ') : Env N σ' a := ⟨h.defers, h.size, fun t v ht => h.look_ t v (he t v ht)⟩

/-! ### Assertions on memory -/
structure Assn where
  P : World → (Nat → Prop) → Prop
  loc : ∀ {w w' : World} {F : Nat → Prop}, P w F → (∀ k, F k → w'.heap[k]? = w.heap[k]?) → P w' F

def SatF : List Assn → World → (Nat → Prop) → Prop
  | [], _, F => ∀ k, ¬ F k
  | A :: H, w, F => ∃ F1 F2 : Nat → Prop, A.P w F1 ∧ SatF H w F2 ∧ (∀ k, F1 k → ¬ F2 k) ∧ (∀ k, F k ↔ F1 k ∨ F2 k)

theorem SatF.loc {H : List Assn} : ∀ {w w' : World} {F : Nat → Prop}, SatF H w F → (∀ k, F k → w'.heap[k]? = w.heap[k]?) → SatF H w' F := by
  induction H with
  | nil => exact fun h _ => h
  | cons A H ih =>
    rintro w w' F ⟨F1, F2, h1, h2, hd, hF⟩ hk
    exact ⟨F1, F2, A.loc h1 (fun k h => hk k ((hF k).2 (.inl h))), ih h2 (fun k h => hk k ((hF k).2 (.inr h))), hd, hF⟩

theorem SatF.perm {H H' : List Assn} (hp : H.Perm H') : ∀ {w : World} {F : Nat → Prop}, SatF H w F → SatF H' w F := by
  induction hp with
  | nil => exact fun h => h
  | cons A _ ih =>
    rintro w F ⟨F1, F2, h1, h2, hd, hF⟩
    exact ⟨F1, F2, h1, ih h2, hd, hF⟩
  | swap A B H =>
    rintro w F ⟨F1, F2, h1, ⟨F3, F4, h3, h4, hd2, hF2⟩, hd, hF⟩
    refine ⟨F3, fun k => F1 k ∨ F4 k, h3, ⟨F1, F4, h1, h4, fun k h => fun h' => hd k h ((hF2 k).2 (.inr h')), fun _ => Iff.rfl⟩, ?_, ?_⟩
    · rintro k h (h' | h')
      · exact hd k h' ((hF2 k).2 (.inl h))
      · exact hd2 k h h'
    · intro k
      rw [hF k, hF2 k]
      constructor
      · rintro (h | h | h)
        · exact .inr (.inl h)
        · exact .inl h
        · exact .inr (.inr h)
      · rintro (h | h | h)
        · exact .inr (.inl h)
        · exact .inl h
        · exact .inr (.inr h)
  | trans _ _ ih1 ih2 => exact fun h => ih2 (ih1 h)

/-- The state of memory: below the base world all is as it was; above it lie the heap's assertions, apart. -/
structure St (w0 : World) (H : List Assn) (w : World) : Prop where
  below : Bel w0.heap.size w0 w
  sat : ∃ F : Nat → Prop, SatF H w F ∧ ∀ k, F k → w0.heap.size ≤ k ∧ k < w.heap.size

theorem St.start (w : World) : St w [] w := ⟨Bel.refl _ _, fun _ => False, fun _ h => h, fun _ h => h.elim⟩

theorem St.perm {w0 w : World} {H H' : List Assn} (h : St w0 H w) (hp : H.Perm H') : St w0 H' w :=
  ⟨h.below, let ⟨F, h1, h2⟩ := h.sat; ⟨F, h1.perm hp, h2⟩⟩

theorem St.tail {w0 w : World} {A : Assn} {H : List Assn} (h : St w0 (A :: H) w) : St w0 H w := by
  obtain ⟨hb, F, ⟨F1, F2, h1, h2, hd, hF⟩, hk⟩ := h
  exact ⟨hb, F2, h2, fun k h => hk k ((hF k).2 (.inr h))⟩

theorem St.head {w0 w : World} {A : Assn} {H : List Assn} (h : St w0 (A :: H) w) : ∃ F, A.P w F ∧ ∀ k, F k → w0.heap.size ≤ k ∧ k < w.heap.size := by
  obtain ⟨hb, F, ⟨F1, F2, h1, h2, hd, hF⟩, hk⟩ := h
  exact ⟨F1, h1, fun k h => hk k ((hF k).2 (.inl h))⟩

/-- Nothing that was there has turned; the streams neither. -/
theorem St.grow {w0 w w' : World} {H : List Assn} (h : St w0 H w) (hb : Bel w.heap.size w w') : St w0 H w' := by
  obtain ⟨h0, F, hs, hk⟩ := h
  refine ⟨⟨hb.os.trans h0.os, hb.tape.trans h0.tape, hb.output.trans h0.output, Nat.le_trans h0.size hb.size, fun k hk' => (hb.block k (Nat.lt_of_lt_of_le hk' h0.size)).trans (h0.block k hk'), Nat.le_trans h0.drawn hb.drawn⟩,
    F, hs.loc (fun k hF => hb.block k (hk k hF).2), fun k hF => ⟨(hk k hF).1, Nat.lt_of_lt_of_le (hk k hF).2 hb.size⟩⟩

/-- Something new beside it. -/
theorem St.add {w0 w w' : World} {H : List Assn} {A : Assn} (h : St w0 H w) (hb : Bel w.heap.size w w') {F : Nat → Prop} (hA : A.P w' F) (hF : ∀ k, F k → w.heap.size ≤ k ∧ k < w'.heap.size) : St w0 (A :: H) w' := by
  have hsz := h.below.size
  obtain ⟨h0, F2, hs, hk⟩ := h.grow hb
  obtain ⟨_, F3, hs3, hk3⟩ := h
  refine ⟨h0, fun k => F k ∨ F3 k, ⟨F, F3, hA, hs3.loc (fun k hF => hb.block k (hk3 k hF).2), fun k h1 h2 => ?_, fun _ => Iff.rfl⟩, ?_⟩
  · have := (hF k h1).1
    have := (hk3 k h2).2
    omega
  · rintro k (h1 | h1)
    · exact ⟨Nat.le_trans hsz (hF k h1).1, (hF k h1).2⟩
    · exact ⟨(hk3 k h1).1, Nat.lt_of_lt_of_le (hk3 k h1).2 hb.size⟩

/-- All that is not in F, and was there, is as it was. -/
structure KeepBut (F : Nat → Prop) (w w' : World) : Prop where
  os : w'.os = w.os
  tape : w'.tape = w.tape
  output : w'.output = w.output
  size : w.heap.size ≤ w'.heap.size
  block : ∀ k, k < w.heap.size → ¬ F k → w'.heap[k]? = w.heap[k]?
  drawn : w.drawn ≤ w'.drawn

/-- The first assertion's memory is written. -/
theorem St.upd {w0 w w' : World} {H : List Assn} {A B : Assn} (h : St w0 (A :: H) w)
    (hu : ∀ F, A.P w F → (∀ k, F k → w0.heap.size ≤ k ∧ k < w.heap.size) → KeepBut F w w' ∧ ∃ F', B.P w' F' ∧ ∀ k, F' k → (F k ∨ w.heap.size ≤ k) ∧ k < w'.heap.size) : St w0 (B :: H) w' := by
  obtain ⟨h0, F, ⟨F1, F2, h1, h2, hd, hF⟩, hk⟩ := h
  obtain ⟨hkeep, F', hB, hF'⟩ := hu F1 h1 (fun k h => hk k ((hF k).2 (.inl h)))
  refine ⟨⟨hkeep.os.trans h0.os, hkeep.tape.trans h0.tape, hkeep.output.trans h0.output, Nat.le_trans h0.size hkeep.size, fun k hk' => ?_, Nat.le_trans h0.drawn hkeep.drawn⟩,
    fun k => F' k ∨ F2 k, ⟨F', F2, hB, h2.loc (fun k h2' => hkeep.block k (hk k ((hF k).2 (.inr h2'))).2 (fun h1' => hd k h1' h2')), fun k h1' h2' => ?_, fun _ => Iff.rfl⟩, ?_⟩
  · exact (hkeep.block k (Nat.lt_of_lt_of_le hk' h0.size) (fun h1' => by have := (hk k ((hF k).2 (.inl h1'))).1; omega)).trans (h0.block k hk')
  · rcases (hF' k h1').1 with h | h
    · exact hd k h h2'
    · have := (hk k ((hF k).2 (.inr h2'))).2
      omega
  · rintro k (h | h)
    · refine ⟨?_, (hF' k h).2⟩
      rcases (hF' k h).1 with h' | h'
      · exact (hk k ((hF k).2 (.inl h'))).1
      · exact Nat.le_trans h0.size h'
    · exact ⟨(hk k ((hF k).2 (.inr h))).1, Nat.lt_of_lt_of_le (hk k ((hF k).2 (.inr h))).2 hkeep.size⟩

/-- The i-th assertion to the front. -/
def pull : Nat → List Assn → Option (Assn × List Assn)
  | _, [] => none
  | 0, A :: H => some (A, H)
  | i + 1, A :: H => match pull i H with
    | some (B, H') => some (B, A :: H')
    | none => none

theorem pull_perm : ∀ {i : Nat} {H H' : List Assn} {A : Assn}, pull i H = some (A, H') → H.Perm (A :: H') := by
  intro i
  induction i with
  | zero =>
    intro H H' A h
    cases H with
    | nil => cases h
    | cons B H =>
      simp only [pull, Option.some.injEq, Prod.mk.injEq] at h
      obtain ⟨rfl, rfl⟩ := h
      exact .refl _
  | succ i ih =>
    intro H H' A h
    cases H with
    | nil => cases h
    | cons B H =>
      simp only [pull] at h
      cases hp : pull i H with
      | none => simp [hp] at h
      | some q =>
        obtain ⟨C, H2⟩ := q
        simp only [hp, Option.some.injEq, Prod.mk.injEq] at h
        obtain ⟨rfl, rfl⟩ := h
        exact (List.Perm.cons B (ih hp)).trans (List.Perm.swap _ _ _)

theorem St.get {w0 w : World} {H H' : List Assn} {A : Assn} (h : St w0 H w) (i : Nat) (hp : pull i H = some (A, H')) : ∃ F, A.P w F := by
  obtain ⟨F, hF, _⟩ := (h.perm (pull_perm hp)).head
  exact ⟨F, hF⟩

/-- Connectives. -/
def Assn.pur (p : Prop) : Assn := ⟨fun _ F => p ∧ ∀ k, ¬ F k, fun h _ => h⟩
def Assn.exi {α : Type} (A : α → Assn) : Assn := ⟨fun w F => ∃ x, (A x).P w F, fun ⟨x, hx⟩ hk => ⟨x, (A x).loc hx hk⟩⟩
def Assn.sep (A B : Assn) : Assn := ⟨fun w F => ∃ F1 F2 : Nat → Prop, A.P w F1 ∧ B.P w F2 ∧ (∀ k, F1 k → ¬ F2 k) ∧ (∀ k, F k ↔ F1 k ∨ F2 k),
  fun {w w' F} ⟨F1, F2, h1, h2, hd, hF⟩ hk => ⟨F1, F2, A.loc h1 (fun k h => hk k ((hF k).2 (.inl h))), B.loc h2 (fun k h => hk k ((hF k).2 (.inr h))), hd, hF⟩⟩
def Assn.emp : Assn := Assn.pur True

theorem St.pur {w0 w : World} {p : Prop} {H : List Assn} (h : St w0 (.pur p :: H) w) : p ∧ St w0 H w := by
  obtain ⟨F, hF, _⟩ := h.head
  exact ⟨hF.1, h.tail⟩
theorem St.exi {w0 w : World} {α : Type} {A : α → Assn} {H : List Assn} (h : St w0 (.exi A :: H) w) : ∃ x, St w0 (A x :: H) w := by
  obtain ⟨hb, F, ⟨F1, F2, ⟨x, hx⟩, h2, hd, hF⟩, hk⟩ := h
  exact ⟨x, hb, F, ⟨F1, F2, hx, h2, hd, hF⟩, hk⟩
theorem St.sep {w0 w : World} {A B : Assn} {H : List Assn} (h : St w0 (.sep A B :: H) w) : St w0 (A :: B :: H) w := by
  obtain ⟨hb, F, ⟨F1, F2, ⟨F3, F4, h3, h4, hd', hF'⟩, h2, hd, hF⟩, hk⟩ := h
  refine ⟨hb, F, ⟨F3, fun k => F4 k ∨ F2 k, h3, ⟨F4, F2, h4, h2, fun k h5 h6 => hd k ((hF' k).2 (.inr h5)) h6, fun _ => Iff.rfl⟩, ?_, ?_⟩, hk⟩
  · rintro k h5 (h6 | h6)
    · exact hd' k h5 h6
    · exact hd k ((hF' k).2 (.inl h5)) h6
  · intro k
    rw [hF k, hF' k]
    exact ⟨fun h => by rcases h with (h | h) | h <;> simp [h], fun h => by rcases h with h | h | h <;> simp [h]⟩
theorem St.unsep {w0 w : World} {A B : Assn} {H : List Assn} (h : St w0 (A :: B :: H) w) : St w0 (.sep A B :: H) w := by
  obtain ⟨hb, F, ⟨F3, F5, h3, ⟨F4, F2, h4, h2, hd', hF'⟩, hd, hF⟩, hk⟩ := h
  refine ⟨hb, F, ⟨fun k => F3 k ∨ F4 k, F2, ⟨F3, F4, h3, h4, fun k h5 h6 => hd k h5 ((hF' k).2 (.inl h6)), fun _ => Iff.rfl⟩, h2, ?_, ?_⟩, hk⟩
  · rintro k (h5 | h5) h6
    · exact hd k h5 ((hF' k).2 (.inr h6))
    · exact hd' k h5 h6
  · intro k
    rw [hF k, hF' k]
    exact ⟨fun h => by rcases h with h | h | h <;> simp [h], fun h => by rcases h with (h | h) | h <;> simp [h]⟩
theorem St.addPur {w0 w : World} {p : Prop} {H : List Assn} (hp : p) (h : St w0 H w) : St w0 (.pur p :: H) w := by
  obtain ⟨hb, F, hs, hk⟩ := h
  exact ⟨hb, F, ⟨fun _ => False, F, ⟨hp, fun _ h => h⟩, hs, fun _ h => h.elim, fun k => by simp⟩, hk⟩
theorem St.mkExi {w0 w : World} {α : Type} {A : α → Assn} {H : List Assn} (x : α) (h : St w0 (A x :: H) w) : St w0 (.exi A :: H) w := by
  obtain ⟨hb, F, ⟨F1, F2, hx, h2, hd, hF⟩, hk⟩ := h
  exact ⟨hb, F, ⟨F1, F2, ⟨x, hx⟩, h2, hd, hF⟩, hk⟩
theorem St.mono {w0 w : World} {A B : Assn} {H : List Assn} (hAB : ∀ w F, A.P w F → B.P w F) (h : St w0 (A :: H) w) : St w0 (B :: H) w := by
  obtain ⟨hb, F, ⟨F1, F2, hx, h2, hd, hF⟩, hk⟩ := h
  exact ⟨hb, F, ⟨F1, F2, hAB _ _ hx, h2, hd, hF⟩, hk⟩

/-- A heap that says less: some of it, atom by atom. -/
inductive Sub : List Assn → List Assn → Prop where
  | nil (H : List Assn) : Sub H []
  | cons {H H1 H' : List Assn} {A B : Assn} (i : Nat) (hp : pull i H = some (A, H1)) (hAB : ∀ w F, A.P w F → B.P w F) (h : Sub H1 H') : Sub H (B :: H')
  | pur {H H' : List Assn} {p : Prop} (hp : p) (h : Sub H H') : Sub H (.pur p :: H')
  | drop {H H' : List Assn} {A : Assn} (h : Sub H H') : Sub (A :: H) H'
  | refl (H : List Assn) : Sub H H
theorem Sub.keep {H H1 H' : List Assn} {A : Assn} (i : Nat) (hp : pull i H = some (A, H1)) (h : Sub H1 H') : Sub H (A :: H') := .cons i hp (fun _ _ h => h) h
theorem SatF.sub {H H' : List Assn} (hs : Sub H H') : ∀ {w : World} {F : Nat → Prop}, SatF H w F → ∃ F', SatF H' w F' ∧ ∀ k, F' k → F k := by
  induction hs with
  | nil H => exact fun h => ⟨fun _ => False, fun _ h => h, fun _ h => h.elim⟩
  | cons i hp hAB _ ih =>
    intro w F h
    obtain ⟨F1, F2, h1, h2, hd, hF⟩ := h.perm (pull_perm hp)
    obtain ⟨F', hs', hF'⟩ := ih h2
    exact ⟨fun k => F1 k ∨ F' k, ⟨F1, F', hAB _ _ h1, hs', fun k h3 h4 => hd k h3 (hF' k h4), fun _ => Iff.rfl⟩, fun k h => (hF k).2 (h.imp id (hF' k))⟩
  | pur hp _ ih =>
    intro w F h
    obtain ⟨F', hs', hF'⟩ := ih h
    exact ⟨F', ⟨fun _ => False, F', ⟨hp, fun _ h => h⟩, hs', fun _ h => h.elim, fun k => by simp⟩, hF'⟩
  | drop _ ih =>
    rintro w F ⟨F1, F2, h1, h2, hd, hF⟩
    obtain ⟨F', hs', hF'⟩ := ih h2
    exact ⟨F', hs', fun k h => (hF k).2 (.inr (hF' k h))⟩
  | refl H => exact fun h => ⟨_, h, fun _ h => h⟩
theorem St.sub {w0 w : World} {H H' : List Assn} (h : St w0 H w) (hs : Sub H H') : St w0 H' w := by
  obtain ⟨hb, F, hF, hk⟩ := h
  obtain ⟨F', hs', hF'⟩ := hF.sub hs
  exact ⟨hb, F', hs', fun k hh => hk k (hF' k hh)⟩

theorem least {p : Nat → Prop} : ∀ n, p n → ∃ m, p m ∧ ∀ k, p k → m ≤ k := by
  intro n
  induction n using Nat.strongRecOn with
  | _ n ih =>
    intro hn
    by_cases h : ∃ k, k < n ∧ p k
    · obtain ⟨k, hk, hp⟩ := h
      exact ih k hk hp
    · exact ⟨n, hn, fun k hk => by
        rcases Nat.lt_or_ge k n with h' | h'
        · exact absurd ⟨k, h', hk⟩ h
        · exact h'⟩

open Classical in
theorem wp_loop_ind {P : Program} {c : Code} {Q : Exit → Act → World → Prop} (J : Nat → Act → World → Prop)
    (round : ∀ n a w, J n a w → c.wp P (Exit.then (fun a' w' => ∃ n', n' < n ∧ J n' a' w') Q) a w) {a : Act} {w : World} (n : Nat) (h : J n a w) : (Code.loop c).wp P Q a w := by
  have key : ∀ a w, (∃ n, J n a w) → ∃ m, J m a w ∧ ∀ k, J k a w → m ≤ k := fun a w ⟨n, hn⟩ => least n hn
  refine wp_loop (fun a w => ∃ n, J n a w) (fun a w => if h : ∃ n, J n a w then Classical.choose (key a w h) else 0) ⟨n, h⟩ ?_
  intro a w hI
  have hm := Classical.choose_spec (key a w hI)
  refine wp_mono (round _ a w hm.1) ?_
  intro e a' w' hq
  cases e with
  | normal =>
    obtain ⟨n', hn', hJ⟩ := hq
    refine ⟨⟨n', hJ⟩, ?_⟩
    rw [dif_pos (⟨n', hJ⟩ : ∃ n, J n a' w'), dif_pos hI]
    exact Nat.lt_of_le_of_lt ((Classical.choose_spec (key a' w' ⟨n', hJ⟩)).2 n' hJ) hn'
  | _ => exact hq

/-! ### The judgements -/
variable {P : Program}

/-- Code, from all memories and frames that the symbols describe. -/
def V (P : Program) (N : Nat) (w0 : World) (c : Code) (Q : Exit → Act → World → Prop) (σ : Sig) (H : List Assn) : Prop :=
  ∀ w, St w0 H w → ∀ a, Env N σ a → c.wp P Q a w
/-- At an exit. -/
def X (N : Nat) (w0 : World) (Q : Exit → Act → World → Prop) (e : Exit) (σ : Sig) (H : List Assn) : Prop :=
  ∀ w, St w0 H w → ∀ a, Env N σ a → Q e a w
/-- In a region. -/
def O (P : Program) (N : Nat) (w0 : World) (ops : Array Oper) (Q : Exit → Act → World → Prop) (rest : List Oper) (σ : Sig) (H : List Assn) : Prop :=
  ∀ w, St w0 H w → ∀ a, Env N σ a → wpList P ops Q rest a w

section rules
variable {N : Nat} {w0 : World} {Q : Exit → Act → World → Prop} {σ σ' : Sig} {H H' : List Assn}

theorem V.seq {x y : Code} (h : V P N w0 x (Exit.then (fun a w => y.wp P Q a w) Q) σ H) : V P N w0 (.seq x y) Q σ H :=
  fun w hw a ha => wp_seq (h w hw a ha)
theorem X.next {y : Code} (h : V P N w0 y Q σ H) : X N w0 (Exit.then (fun a w => y.wp P Q a w) Q) .normal σ H := h
theorem V.skip (h : X N w0 Q .normal σ H) : V P N w0 .skip Q σ H := fun w hw a ha => wp_skip (h w hw a ha)
theorem V.exit {id : Nat} (h : X N w0 Q (.exit id) σ H) : V P N w0 (.exit id) Q σ H := fun w hw a ha => wp_exit (h w hw a ha)
theorem V.ret (h : X N w0 Q .ret σ H) : V P N w0 .ret Q σ H := fun w hw a ha => wp_ret (h w hw a ha)
theorem X.thenRet {K : Act → World → Prop} (h : X N w0 Q .ret σ H) : X N w0 (Exit.then K Q) .ret σ H := h
theorem X.thenExit {K : Act → World → Prop} {id : Nat} (h : X N w0 Q (.exit id) σ H) : X N w0 (Exit.then K Q) (.exit id) σ H := h
theorem X.blockRet {id : Nat} (h : X N w0 Q .ret σ H) : X N w0 (Exit.inBlock id Q) .ret σ H := h
theorem X.blockNormal {id : Nat} (h : X N w0 Q .normal σ H) : X N w0 (Exit.inBlock id Q) .normal σ H := h
theorem X.blockHit {id : Nat} (h : X N w0 Q .normal σ H) : X N w0 (Exit.inBlock id Q) (.exit id) σ H := by
  intro w hw a ha
  simp only [Exit.inBlock, if_true]
  exact h w hw a ha
theorem X.blockMiss {id id' : Nat} (hne : Nat.beq id' id = false) (h : X N w0 Q (.exit id') σ H) : X N w0 (Exit.inBlock id Q) (.exit id') σ H := by
  intro w hw a ha
  have : id' ≠ id := ne_of_beq hne
  simp only [Exit.inBlock, if_neg this]
  exact h w hw a ha
theorem V.block {id : Nat} {c : Code} (h : V P N w0 c (Exit.inBlock id Q) σ H) : V P N w0 (.block id c) Q σ H := fun w hw a ha => wp_block (h w hw a ha)

theorem V.cond {c : Operand} {x y : Code} {b : Bool} (hc : ev σ c = some (.bool b)) (ht : b = true → V P N w0 x Q σ H) (hf : b = false → V P N w0 y Q σ H) : V P N w0 (.cond c x y) Q σ H := by
  intro w hw a ha
  exact wp_cond_split (ha.eval hc) (fun h => ht h w hw a ha) (fun h => hf h w hw a ha)
theorem V.condD {c : Operand} {x y : Code} {p : Prop} [Decidable p] (hc : ev σ c = some (.bool (decide p))) (ht : p → V P N w0 x Q σ H) (hf : ¬ p → V P N w0 y Q σ H) : V P N w0 (.cond c x y) Q σ H :=
  V.cond hc (fun h => ht (of_decide_eq_true h)) (fun h => hf (of_decide_eq_false h))
theorem V.condNot {c : Operand} {x y : Code} {p : Prop} [Decidable p] (hc : ev σ c = some (.bool (!decide p))) (ht : ¬ p → V P N w0 x Q σ H) (hf : p → V P N w0 y Q σ H) : V P N w0 (.cond c x y) Q σ H :=
  V.cond hc (fun h => ht (by simpa using h)) (fun h => hf (by simpa using h))
theorem V.condT {c : Operand} {x y : Code} (hc : ev σ c = some (.bool true)) (ht : V P N w0 x Q σ H) : V P N w0 (.cond c x y) Q σ H := V.cond hc (fun _ => ht) (fun h => by cases h)
theorem V.condF {c : Operand} {x y : Code} (hc : ev σ c = some (.bool false)) (hf : V P N w0 y Q σ H) : V P N w0 (.cond c x y) Q σ H := V.cond hc (fun h => by cases h) (fun _ => hf)

/-- Less is known. -/
theorem V.weaken {c : Code} (hσ : Ent σ σ') (hH : Sub H H') (h : V P N w0 c Q σ' H') : V P N w0 c Q σ H := fun w hw a ha => h w (hw.sub hH) a (ha.ent hσ)
theorem X.weaken {e : Exit} (hσ : Ent σ σ') (hH : Sub H H') (h : X N w0 Q e σ' H') : X N w0 Q e σ H := fun w hw a ha => h w (hw.sub hH) a (ha.ent hσ)
theorem V.ent {c : Code} (hσ : Ent σ σ') (h : V P N w0 c Q σ' H) : V P N w0 c Q σ H := fun w hw a ha => h w hw a (ha.ent hσ)

/-- A loop: a family of states, what holds of them, and a measure. -/
def Back (N : Nat) (w0 : World) {α : Type} (σi : α → Sig) (Hi : α → List Assn) (Φ : α → Prop) (m : α → Nat) (x : α) (a : Act) (w : World) : Prop :=
  ∃ y, Φ y ∧ m y < m x ∧ Env N (σi y) a ∧ St w0 (Hi y) w

theorem V.loop {c : Code} {α : Type} (σi : α → Sig) (Hi : α → List Assn) (Φ : α → Prop) (m : α → Nat) (x : α) (hΦ : Φ x) (hσ : Ent σ (σi x)) (hH : Sub H (Hi x))
    (round : ∀ x, Φ x → V P N w0 c (Exit.then (Back N w0 σi Hi Φ m x) Q) (σi x) (Hi x)) : V P N w0 (.loop c) Q σ H := by
  intro w hw a ha
  refine wp_loop_ind (fun n a w => ∃ x, m x = n ∧ Φ x ∧ Env N (σi x) a ∧ St w0 (Hi x) w) ?_ (m x) ⟨x, rfl, hΦ, ha.ent hσ, hw.sub hH⟩
  rintro n a w ⟨x, hn, hΦ, ha, hw⟩
  refine wp_mono (round x hΦ w hw a ha) ?_
  intro e a' w' hq
  cases e with
  | normal =>
    obtain ⟨y, hy, hm, ha', hw'⟩ := hq
    exact ⟨m y, hn ▸ hm, y, rfl, hy, ha', hw'⟩
  | _ => exact hq
theorem X.back {α : Type} {σi : α → Sig} {Hi : α → List Assn} {Φ : α → Prop} {m : α → Nat} {x : α} (y : α) (hΦ : Φ y) (hm : m y < m x) (hσ : Ent σ (σi y)) (hH : Sub H (Hi y)) :
    X N w0 (Exit.then (Back N w0 σi Hi Φ m x) Q) .normal σ H := fun w hw a ha => ⟨y, hΦ, hm, ha.ent hσ, hw.sub hH⟩
end rules
end Go.Vc
