/-
  The calculus, part 3: memory: blocks, rows that are owned, readings; calls; entry and return.
-/
import Derived.Test.YtjpfngmoabnffaaVcOps
import Derived.Test.YtjpfngmoabnffaaPure1
import Derived.LoopN
set_option linter.unusedVariables false
set_option linter.unusedSimpArgs false
namespace Go.Vc
open Go Go.RowKit

def repl : Nat → List Assn → Assn → List Assn
  | _, [], _ => []
  | 0, _ :: H, B => B :: H
  | i + 1, A :: H, B => A :: repl i H B
theorem repl_perm : ∀ {i : Nat} {H H' : List Assn} {A B : Assn}, pull i H = some (A, H') → (B :: H').Perm (repl i H B) := by
  intro i
  induction i with
  | zero =>
    intro H H' A B h
    cases H with
    | nil => cases h
    | cons C H =>
      simp only [pull, Option.some.injEq, Prod.mk.injEq] at h
      obtain ⟨rfl, rfl⟩ := h
      exact .refl _
  | succ i ih =>
    intro H H' A B h
    cases H with
    | nil => cases h
    | cons C H =>
      simp only [pull] at h
      cases hp : pull i H with
      | none => simp [hp] at h
      | some q =>
        obtain ⟨D, H2⟩ := q
        simp only [hp, Option.some.injEq, Prod.mk.injEq] at h
        obtain ⟨rfl, rfl⟩ := h
        exact (List.Perm.swap _ _ _).trans (List.Perm.cons C (ih hp))

/-! ### A block that is known whole -/
def Blk (b : Nat) (cs : List Value) (t : TypeId) : Assn :=
  ⟨fun w F => w.heap[b]? = some (.cells cs.toArray t (0, 0)) ∧ ∀ k, F k ↔ k = b, fun ⟨h, hF⟩ hk => ⟨by rw [hk b ((hF b).2 rfl)]; exact h, hF⟩⟩

section
variable {P : Program} {w0 w : World} {H H' : List Assn} {α : Type}

theorem Blk.heap {b t i : Nat} {cs : List Value} (hw : St w0 H w) (hp : pull i H = some (Blk b cs t, H')) : w.heap[b]? = some (.cells cs.toArray t (0, 0)) := by
  obtain ⟨F, hF⟩ := hw.get i hp
  exact hF.1
theorem Blk.cell {b t i j : Nat} {cs : List Value} {u : Value} (hw : St w0 H w) (hp : pull i H = some (Blk b cs t, H')) (hj : cs[j]? = some u) : w.cell? ⟨b, j, none⟩ = some u := by
  have := Blk.heap hw hp
  simp [World.cell?, this, hj]
/-- What a load finds: one cell of a block. -/
theorem Ld.blk {b t j : Nat} {cs : List Value} {u : Value} (i : Nat) (hp : pull i H = some (Blk b cs t, H')) (hj : cs[j]? = some u) : ∀ w, St w0 H w → ∃ q, some (⟨b, j, none⟩ : Addr) = some q ∧ w.cell? q = some u :=
  fun _ hw => ⟨_, rfl, Blk.cell hw hp hj⟩
/-- .. all of it. -/
theorem Ld.whole {b t : Nat} {cs : List Value} (i : Nat) (hp : pull i H = some (Blk b cs t, H')) : ∀ w, St w0 H w → ∃ q, some (⟨b, 0, none⟩ : Addr) = some q ∧ ∀ m u, cs[m]? = some u → w.cell? (q.add m) = some u := by
  intro w hw
  refine ⟨_, rfl, fun m u hm => ?_⟩
  rw [add_mk, Nat.zero_add]
  exact Blk.cell hw hp hm
/-- .. several. -/
theorem Ld.blks {b t j : Nat} {cs us : List Value} (i : Nat) (hp : pull i H = some (Blk b cs t, H')) (hj : (cs.drop j).take us.length = us) : ∀ w, St w0 H w → ∃ q, some (⟨b, j, none⟩ : Addr) = some q ∧ ∀ m u, us[m]? = some u → w.cell? (q.add m) = some u := by
  intro w hw
  refine ⟨_, rfl, fun m u hm => ?_⟩
  rw [add_mk]
  refine Blk.cell hw hp ?_
  have hlt : m < us.length := (List.getElem?_eq_some_iff.1 hm).1
  rw [← hj, List.getElem?_take, if_pos hlt, List.getElem?_drop] at hm
  exact hm

/-! ### Codes of elements, readings -/
structure Cod (α : Type) where
  sz : Nat
  enc : α → List Value
  pos : 0 < sz
  len : ∀ x, (enc x).length = sz
  one : ∀ x, ∀ u ∈ enc x, u.oneCell' = true

def I64 : Cod Int := ⟨1, fun x => [.int .i64 x], by decide, fun _ => rfl, fun _ u hu => by simp at hu; subst hu; rfl⟩
def BoolC : Cod Bool := ⟨1, fun x => [.bool x], by decide, fun _ => rfl, fun _ u hu => by simp at hu; subst hu; rfl⟩
def B3.cs (b : B3) : List Value := [.int .i64 b.1, .int .i64 b.2.1, .int .i64 b.2.2]
def B3.v (b : B3) : Value := .agg #[.int .i64 b.1, .int .i64 b.2.1, .int .i64 b.2.2]
def B3C : Cod B3 := ⟨3, B3.cs, by decide, fun _ => rfl, fun b u hu => by simp [B3.cs] at hu; rcases hu with rfl | rfl | rfl <;> rfl⟩
/-- A slice's value: where, how long, the capacity. -/
structure Sl where
  A : Option Addr
  n : Nat
  c : Nat
def Sl.v (s : Sl) : Value := .slice s.A s.n s.c
def SlC : Cod Sl := ⟨1, fun s => [s.v], by decide, fun _ => rfl, fun _ u hu => by simp at hu; subst hu; rfl⟩

theorem getElem?_flatMap_enc (C : Cod α) : ∀ (xs : List α) (i j : Nat) (h : i < xs.length), j < C.sz → (xs.flatMap C.enc)[i * C.sz + j]? = (C.enc xs[i])[j]? := by
  intro xs
  induction xs with
  | nil => intro i j h; simp at h
  | cons x xs ih =>
    intro i j h hj
    simp only [List.flatMap_cons]
    cases i with
    | zero =>
      rw [List.getElem?_append_left (by rw [C.len]; omega)]
      simp
    | succ i =>
      rw [List.getElem?_append_right (by rw [C.len, Nat.add_mul]; omega), C.len]
      have : (i + 1) * C.sz + j - C.sz = i * C.sz + j := by rw [Nat.add_mul]; omega
      rw [this, ih i j (by simpa using h) hj]
      simp
theorem length_flatMap_enc (C : Cod α) (xs : List α) : (xs.flatMap C.enc).length = xs.length * C.sz := by
  induction xs with
  | nil => simp
  | cons x xs ih => simp [List.flatMap_cons, C.len, ih, Nat.add_mul, Nat.add_comm]

/-- A slice at A reads as xs. -/
def Rd (C : Cod α) (w : World) (A : Option Addr) (xs : List α) : Prop :=
  ∀ i (h : i < xs.length), ∃ q, A = some q ∧ ∀ j u, (C.enc xs[i])[j]? = some u → w.cell? (q.add (i * C.sz + j)) = some u
theorem Rd.nil (C : Cod α) (w : World) (A : Option Addr) : Rd C w A [] := fun i h => by simp at h
theorem Rd.some {C : Cod α} {A : Option Addr} {xs : List α} (h : Rd C w A xs) (hx : 0 < xs.length) : A.isSome = true := by
  obtain ⟨q, hq, _⟩ := h 0 hx
  simp [hq]
theorem Rd.below {C : Cod α} {w' : World} {A : Option Addr} {xs : List α} (h : Rd C w A xs) (hb : Bel w.heap.size w w') : Rd C w' A xs := by
  intro i hi
  obtain ⟨q, hq, hc⟩ := h i hi
  refine ⟨q, hq, fun j u hj => ?_⟩
  have h1 := hc j u hj
  rw [hb.low.cell (World.block_lt_of_cell? w _ h1)]
  exact h1
theorem Rd.st {C : Cod α} {A : Option Addr} {xs : List α} (h : Rd C w0 A xs) (hw : St w0 H w) : Rd C w A xs := h.below hw.below
theorem Addr.add_add (q : Addr) (m n : Nat) (hs : q.spot = none) : (q.add m).add n = q.add (m + n) := by
  unfold Addr.add
  split <;> split <;> simp_all <;> omega
/-- What a load of element k finds. -/
theorem Ld.rd {C : Cod α} {A : Option Addr} {xs : List α} {u : Value} (hr : ∀ w, St w0 H w → Rd C w A xs) {k s : Nat} (hk : k < xs.length) (hs : s = C.sz) (hu : C.enc xs[k] = [u]) :
    ∀ w, St w0 H w → ∃ q, A.map (·.add (k * s)) = some q ∧ w.cell? q = some u := by
  intro w hw
  obtain ⟨q, rfl, hc⟩ := hr w hw k hk
  exact ⟨_, rfl, by simpa [hs] using hc 0 u (by simp [hu])⟩
theorem Addr.add_add' (q : Addr) (m n : Nat) : (q.add m).add n = q.add (m + n) := by
  unfold Addr.add
  split <;> split <;> first | (simp_all; done) | (simp_all [Nat.add_assoc]; done) | skip
  all_goals (rename_i h1 h2; subst_vars; simp_all)
theorem Ld.rds {C : Cod α} {A : Option Addr} {xs : List α} (hr : ∀ w, St w0 H w → Rd C w A xs) {k s : Nat} (hk : k < xs.length) (hs : s = C.sz) :
    ∀ w, St w0 H w → ∃ q, A.map (·.add (k * s)) = some q ∧ ∀ m u, (C.enc xs[k])[m]? = some u → w.cell? (q.add m) = some u := by
  intro w hw
  obtain ⟨q, rfl, hc⟩ := hr w hw k hk
  refine ⟨_, rfl, fun m u hm => ?_⟩
  rw [Addr.add_add', hs]
  exact hc m u hm

/-! ### A row that is owned -/
def Own (T : TypeId) (C : Cod α) (A : Option Addr) (c : Nat) (xs : List α) : Assn :=
  ⟨fun w F => w.ownsRow 0 T C.sz (.slice A xs.length c) xs.length (xs.flatMap C.enc) ∧ ∀ k, F k ↔ (Value.slice A xs.length c).ownBlock = some k, by
    rintro w w' F ⟨h, hF⟩ hk
    refine ⟨⟨h.1, ?_⟩, hF⟩
    rcases h.2 with h2 | ⟨g, cap, cur, hv, hg, hh, r⟩
    · exact .inl h2
    · refine .inr ⟨g, cap, cur, hv, hg, ?_, r⟩
      rw [hk g ((hF g).2 (by rw [hv]; rfl))]
      exact hh⟩
theorem Own.rd {T i c : Nat} {C : Cod α} {A : Option Addr} {xs : List α} (hw : St w0 H w) (hp : pull i H = some (Own T C A c xs, H')) : Rd C w A xs := by
  obtain ⟨F, ho, hF⟩ := hw.get i hp
  intro k hk
  rcases ho.2 with ⟨h1, h2⟩ | ⟨g, cap, cur, hv, _, hh, _⟩
  · omega
  · have hA : A = Option.some ⟨g, 0, none⟩ := by injection hv
    refine ⟨⟨g, 0, none⟩, hA, fun j u hj => ?_⟩
    have hjs : j < C.sz := by have := (List.getElem?_eq_some_iff.1 hj).1; rwa [C.len] at this
    have := ho.cells (g := g) (by rw [hv]; rfl) (k * C.sz + j) u (by rw [getElem?_flatMap_enc C xs k j hk hjs]; exact hj)
    exact this
theorem Own.some {T i c : Nat} {C : Cod α} {A : Option Addr} {xs : List α} (hw : St w0 H w) (hp : pull i H = some (Own T C A c xs, H')) (hx : 0 < xs.length) : A.isSome = true := (Own.rd hw hp).some hx
theorem Ld.own {T c : Nat} {C : Cod α} {A : Option Addr} {xs : List α} (i : Nat) (hp : pull i H = some (Own T C A c xs, H')) : ∀ w, St w0 H w → Rd C w A xs := fun _ hw => Own.rd hw hp
/-- An array of numbers, sliced. -/
theorem Ld.arr {b t : Nat} {cs : List Value} {xs : List Int} (i : Nat) (hp : pull i H = Option.some (Blk b cs t, H')) (hc : xs.map (Value.int .i64) = cs) : ∀ w, St w0 H w → Rd I64 w (Option.some ⟨b, 0, none⟩) xs := by
  intro w hw k hk
  refine ⟨_, rfl, fun j u hj => ?_⟩
  rw [add_mk, Nat.zero_add]
  refine Blk.cell hw hp ?_
  subst hc
  have hj0 : j = 0 := by have := (List.getElem?_eq_some_iff.1 hj).1; simp [I64] at this; omega
  subst hj0
  simp only [I64, List.getElem?_cons_zero, Option.some.injEq] at hj
  subst hj
  simp [I64, hk]
theorem Ld.old {C : Cod α} {A : Option Addr} {xs : List α} (hr : Rd C w0 A xs) : ∀ w, St w0 H w → Rd C w A xs := fun _ hw => hr.st hw

/-! ### Operations that turn memory -/
variable {N : Nat} {Q : Exit → Act → World → Prop} {σ σ' : Sig} {o : Oper}

theorem Ef.mk {K : Value → List Assn → Prop} (h : ∀ w, St w0 H w → ∀ a, Agree σ o a → ∃ v w', (execOp a.eval o).run P w = .ok (.value v) w' ∧ ∃ H', St w0 H' w' ∧ K v H') : Ef P w0 o σ H Q K := by
  intro w hw a ha
  obtain ⟨v, w', hr, H', hs, hK⟩ := h w hw a ha
  exact upon_ok hr ⟨v, H', rfl, hs, hK⟩

theorem below_alloc (w : World) (ob : Obj) : Bel w.heap.size w (w.alloc ob) := Bel.of ((Below.refl _ _).alloc (Nat.le_refl _) ob) (Nat.le_refl _)

theorem St.addBlk {t : Nat} {cs : List Value} {ca : Array Value} (hw : St w0 H w) (hc : ca = cs.toArray) : St w0 (Blk w.heap.size cs t :: H) (w.alloc (.cells ca t)) := by
  subst hc
  exact hw.add (below_alloc _ _) (F := fun k => k = w.heap.size) ⟨heap_alloc_new w _, fun _ => Iff.rfl⟩ (fun k hk => by subst hk; simp)

theorem Ef.box {T : TypeId} {x : Operand} {v : Value} {cs : List Value} (ho : o.op = .box T x) (hx : ev σ x = some v) (hc : v.cells = cs.toArray) :
    Ef P w0 o σ H Q (fun u H' => ∃ b, u = .pointer (some ⟨b, 0, none⟩) ∧ H' = Blk b cs T :: H) := by
  refine Ef.mk fun w hw a ha => ?_
  have h1 := ha x (by simp [ho, Op.operands]) _ hx
  refine ⟨_, w.alloc (.cells v.cells T), ?_, _, hw.addBlk hc, _, rfl, rfl⟩
  simp [execOp, ho, h1, Instr.box, newVar, newRow, newObj]
  rfl

def Zr (P : Program) (t : Nat) (z : Value) : Prop := (P.info? t).bind (·.zero) = some z
theorem run_zr {t : Nat} {z : Value} (h : Zr P t z) : (zeroValue t).run P w = .ok z w := by
  unfold Zr at h
  obtain ⟨i, hi, hz⟩ := Option.bind_eq_some_iff.1 h
  simp [zeroValue, typeInfo, hi, hz]

theorem Ef.alloc {T : TypeId} {z : Value} {cs : List Value} (ho : o.op = .alloc T) (hz : Zr P T z) (hc : z.cells = cs.toArray) :
    Ef P w0 o σ H Q (fun u H' => ∃ b, u = .pointer (some ⟨b, 0, none⟩) ∧ H' = Blk b cs T :: H) := by
  refine Ef.mk fun w hw a ha => ?_
  refine ⟨_, w.alloc (.cells z.cells T), ?_, _, hw.addBlk hc, _, rfl, rfl⟩
  simp [execOp, ho, Instr.alloc, run_zr hz, newVar, newRow, newObj]
  rfl

/-- Where cells of a list are written over. -/
def splice (cs : List Value) (j : Nat) (us : List Value) : List Value := cs.take j ++ us ++ cs.drop (j + us.length)

theorem St.setBlk {i b t : Nat} {cs cs' : List Value} (hw : St w0 H w) (hp : pull i H = some (Blk b cs t, H')) : St w0 (repl i H (Blk b cs' t)) (w.setRow b cs'.toArray) := by
  refine St.perm ?_ (repl_perm hp)
  refine (hw.perm (pull_perm hp)).upd (B := Blk b cs' t) ?_
  rintro F ⟨hh, hF⟩ hk
  refine ⟨⟨rfl, rfl, rfl, by simp [World.setRow], fun k _ hk' => setRow_other w b k _ (fun e => hk' ((hF k).2 e)), Nat.le_refl _⟩, fun k => k = b, ⟨setRow_heap w b _ _ t _ hh, fun _ => Iff.rfl⟩, ?_⟩
  intro k hk'
  have hF' := (hF k).2 hk'
  exact ⟨.inl hF', by have := (hk k hF').2; simpa [World.setRow] using this⟩

theorem run_store_blk {b j t n : Nat} {T : TypeId} {cs us : List Value} {v : Value} (hs : Sz P T n) (hv : v.cells.toList = us) (hn : us.length = n) (h1 : ∀ u ∈ us, u.oneCell' = true) (hh : w.heap[b]? = some (.cells cs.toArray t (0, 0))) (hj : j + n ≤ cs.length) :
    (Instr.storeAt T (.pointer (some ⟨b, j, none⟩)) v).run P w = .ok () (w.setRow b (splice cs j us).toArray) := by
  have hst := run_storeCells_at P b j t us 0 cs.toArray w hh (by simp; omega) h1
  have hsz : v.cells.size = n := by rw [← hn, ← hv, Array.length_toList]
  simp only [Nat.add_zero] at hst
  simp [Instr.storeAt, Instr.sureAddr, storeVar, run_sz hs, hsz, hv, hst, splice]

theorem Ef.store {T : TypeId} {x y : Operand} {b j t n : Nat} {cs us cs' : List Value} {v : Value} (i : Nat) (ho : o.op = .store T x y) (hs : Sz P T n) (hx : ev σ x = some (.pointer (some ⟨b, j, none⟩))) (hy : ev σ y = some v)
    (hp : pull i H = some (Blk b cs t, H')) (hv : v.cells.toList = us) (hn : us.length = n) (h1 : ∀ u ∈ us, u.oneCell' = true) (hj : j + n ≤ cs.length) (hc : splice cs j us = cs') :
    Ef P w0 o σ H Q (fun _ H'' => H'' = repl i H (Blk b cs' t)) := by
  intro w hw a ha
  have h1' := ha x (by simp [ho, Op.operands]) _ hx
  have h2' := ha y (by simp [ho, Op.operands]) _ hy
  have hr := run_store_blk (P := P) hs hv hn h1 (Blk.heap hw hp) hj
  unfold Oper.wp
  have : (execOp a.eval o).run P w = .ok .skip (w.setRow b (splice cs j us).toArray) := by
    simp [execOp, ho, h1', h2', hr]
  rw [this]
  subst hc
  exact ⟨undef, _, rfl, hw.setBlk hp, rfl⟩

/-- .. of one cell. -/
theorem Ef.store1 {T : TypeId} {x y : Operand} {b j t : Nat} {cs cs' : List Value} {v : Value} (i : Nat) (ho : o.op = .store T x y) (hs : Sz P T 1) (hx : ev σ x = some (.pointer (some ⟨b, j, none⟩))) (hy : ev σ y = some v)
    (hp : pull i H = some (Blk b cs t, H')) (hv : v.cells = #[v]) (h1 : v.oneCell' = true) (hj : j < cs.length) (hc : cs.set j v = cs') :
    Ef P w0 o σ H Q (fun _ H'' => H'' = repl i H (Blk b cs' t)) := by
  refine Ef.store (us := [v]) i ho hs hx hy hp (by rw [hv]) rfl (by simpa using h1) hj ?_
  rw [← hc]
  unfold splice
  rw [List.set_eq_take_append_cons_drop, if_pos hj]
  simp
/-- .. of a whole block. -/
theorem Ef.storeAll {T : TypeId} {x y : Operand} {b t n : Nat} {cs us : List Value} (i : Nat) (ho : o.op = .store T x y) (hs : Sz P T n) (hx : ev σ x = some (.pointer (some ⟨b, 0, none⟩))) (hy : ev σ y = some (.agg us.toArray))
    (hp : pull i H = some (Blk b cs t, H')) (hn : us.length = n) (h1 : ∀ u ∈ us, u.oneCell' = true) (hj : cs.length = n) :
    Ef P w0 o σ H Q (fun _ H'' => H'' = repl i H (Blk b us t)) := by
  refine Ef.store (us := us) i ho hs hx hy hp rfl hn h1 (by omega) ?_
  unfold splice
  rw [List.take_zero, List.nil_append, List.drop_eq_nil_of_le (by omega), List.append_nil]
/-- .. of a part. -/
theorem Ef.storePart {T : TypeId} {x y : Operand} {b j t n : Nat} {cs us cs' : List Value} (i : Nat) (ho : o.op = .store T x y) (hs : Sz P T n) (hx : ev σ x = some (.pointer (some ⟨b, j, none⟩))) (hy : ev σ y = some (.agg us.toArray))
    (hp : pull i H = some (Blk b cs t, H')) (hn : us.length = n) (h1 : ∀ u ∈ us, u.oneCell' = true) (hj : j + n ≤ cs.length) (hc : splice cs j us = cs') :
    Ef P w0 o σ H Q (fun _ H'' => H'' = repl i H (Blk b cs' t)) :=
  Ef.store (us := us) i ho hs hx hy hp rfl hn h1 hj hc

/-- A call. -/
def CallOk (P : Program) (f : FuncId) : Prop := ∃ fn c, P.funcs[f]? = some fn ∧ fn.body = some c ∧ (fn.name == "runtime.NumGoroutine") = false
theorem run_callFunc {f : FuncId} (h : CallOk P f) (args : Array Value) (w : World) : (callFunc f args).run P w = .ok (.enter f args) w := by
  obtain ⟨fn, c, h1, h2, h3⟩ := h
  simp only [beq_eq_false_iff_ne, ne_eq] at h3
  simp [callFunc, h1, h2, h3, program, Sem.run]

def Does (P : Program) (f : FuncId) (args : List Value) (w0 : World) (H : List Assn) (R : Value → List Assn) : Prop :=
  ∀ w, St w0 H w → Calls P f args.toArray w (fun e w' => ∃ v, e = .returned v ∧ St w0 (R v) w')

theorem SatF_congr {H : List Assn} {w : World} {F F' : Nat → Prop} (h : SatF H w F) (he : ∀ k, F k ↔ F' k) : SatF H w F' := by
  cases H with
  | nil => exact fun k hk => h k ((he k).2 hk)
  | cons A H =>
    obtain ⟨F1, F2, h1, h2, hd, hF⟩ := h
    exact ⟨F1, F2, h1, h2, hd, fun k => (he k).symm.trans (hF k)⟩
theorem SatF.append {H1 H2 : List Assn} {w : World} {F1 F2 : Nat → Prop} (h1 : SatF H1 w F1) (h2 : SatF H2 w F2) (hd : ∀ k, F1 k → ¬ F2 k) : SatF (H1 ++ H2) w (fun k => F1 k ∨ F2 k) := by
  induction H1 generalizing F1 with
  | nil =>
    refine SatF_congr h2 ?_
    intro k
    exact ⟨fun h => .inr h, fun h => h.resolve_left (h1 k)⟩
  | cons A H1 ih =>
    obtain ⟨G1, G2, g1, g2, gd, gF⟩ := h1
    refine ⟨G1, fun k => G2 k ∨ F2 k, g1, ih g2 (fun k hk => hd k ((gF k).2 (.inr hk))), ?_, ?_⟩
    · rintro k hk (hk' | hk')
      · exact gd k hk hk'
      · exact hd k ((gF k).2 (.inl hk)) hk'
    · intro k
      show (F1 k ∨ F2 k) ↔ (G1 k ∨ (G2 k ∨ F2 k))
      rw [gF k]
      exact ⟨fun h => by rcases h with (h | h) | h <;> simp [h], fun h => by rcases h with h | h | h <;> simp [h]⟩

/-- What a call leaves that reads only what was there: its own beside the caller's. -/
theorem St.join {H1 : List Assn} {w' : World} (h : St w0 H w) (h1 : St w H1 w') : St w0 (H1 ++ H) w' := by
  obtain ⟨F1, hs1, hk1⟩ := h1.sat
  obtain ⟨F2, hs2, hk2⟩ := h.sat
  refine ⟨(h.grow h1.below).below, fun k => F1 k ∨ F2 k, SatF.append hs1 (hs2.loc (fun k hk => h1.below.block k (hk2 k hk).2)) (fun k h3 h4 => ?_), ?_⟩
  · have := (hk1 k h3).1
    have := (hk2 k h4).2
    omega
  · rintro k (h3 | h3)
    · exact ⟨Nat.le_trans h.below.size (hk1 k h3).1, (hk1 k h3).2⟩
    · exact ⟨(hk2 k h3).1, Nat.lt_of_lt_of_le (hk2 k h3).2 h1.below.size⟩

theorem Does.frame {f : FuncId} {args : List Value} {R : Value → List Assn} (h : ∀ w, St w0 H w → Does P f args w [] R) : Does P f args w0 H (fun v => R v ++ H) := by
  intro w hw
  refine (h w hw w (St.start w)).mono ?_
  rintro e w' ⟨v, rfl, hs⟩
  exact ⟨v, rfl, hw.join hs⟩
theorem Does.mono {f : FuncId} {args : List Value} {R R' : Value → List Assn} (h : Does P f args w0 H R) (hR : ∀ v w, St w0 (R v) w → St w0 (R' v) w) : Does P f args w0 H R' := by
  intro w hw
  refine (h w hw).mono ?_
  rintro e w' ⟨v, rfl, hs⟩
  exact ⟨v, rfl, hR v w' hs⟩

theorem evs_map {a : Act} : ∀ {l : List Operand} {vs : List Value}, (∀ x ∈ l, ∀ v, ev σ x = some v → a.eval x = v) → evs σ l = some vs → l.map a.eval = vs := by
  intro l
  induction l with
  | nil => intro vs _ h; simpa [evs] using h
  | cons x l ih =>
    intro vs hl h
    simp only [evs] at h
    cases h1 : ev σ x with
    | none => simp [h1] at h
    | some v =>
      cases h2 : evs σ l with
      | none => simp [h1, h2] at h
      | some us =>
        simp only [h1, h2, Option.some.injEq] at h
        subst h
        simp only [List.map_cons]
        rw [hl x (by simp) v h1, ih (fun y hy => hl y (by simp [hy])) h2]

theorem Ef.callV {f : Operand} {g : FuncId} {l : List Operand} {ts : Array TypeId} {vs : List Value} {caps : Array Value} {R : Value → List Assn} (ho : o.op = .call { callee := .value f, args := l.toArray, argTypes := ts }) (hf : ev σ f = some (.func (.func g) #[] caps)) (hok : CallOk P g)
    (hargs : evs σ l = some vs) (hfn : Does P g (vs ++ caps.toList) w0 H R) : Ef P w0 o σ H Q (fun v H' => H' = R v) := by
  intro w hw a ha
  have h1 := ha f (by simp [ho, Op.operands, Call.operands]) _ hf
  have h2 := evs_map (a := a) (fun x hx v hv => ha x (by simp [ho, Op.operands, Call.operands]; exact .inr hx) v hv) hargs
  have h3 : (l.toArray.map a.eval) = vs.toArray := by rw [← h2]; simp
  unfold Oper.wp
  have : (execOp a.eval o).run P w = .ok (.enter g (vs ++ caps.toList).toArray) w := by
    have e2 : #[] ++ vs.toArray ++ caps = (vs ++ caps.toList).toArray := by apply Array.ext'; simp
    simp only [execOp, ho, resolve, h1, h3, Deferred.ofValue, invoke, Sem.run_bind, Sem.run_pure, Result.andThen_ok, run_callFunc hok, e2]
  rw [this]
  refine Calls.mono (hfn w hw) ?_
  rintro e w' ⟨v, rfl, hs⟩
  exact ⟨v, _, rfl, hs, rfl⟩
/-- A call of a function by name. -/
theorem Ef.call {g : FuncId} {l : List Operand} {ts : Array TypeId} {vs : List Value} {R : Value → List Assn} (hok : CallOk P g) (ho : o.op = .call { callee := .value (.func g), args := l.toArray, argTypes := ts })
    (hargs : evs σ l = some vs) (hfn : Does P g vs w0 H R) : Ef P w0 o σ H Q (fun v H' => H' = R v) :=
  Ef.callV (caps := #[]) ho rfl hok hargs (by simpa using hfn)

/-! ### Entry and return -/
def args0 : Nat → List Value → Sig
  | _, [] => []
  | i, v :: r => (i, v) :: args0 (i + 1) r
theorem look_args0 : ∀ (l : List Value) (i t : Nat) (v : Value), look (args0 i l) t = some v → i ≤ t ∧ l[t - i]? = some v := by
  intro l
  induction l with
  | nil => intro i t v h; cases h
  | cons u l ih =>
    intro i t v h
    simp only [args0, look] at h
    by_cases e : i = t
    · subst e
      rw [Nat.beq_refl] at h
      simp only [cond_true, Option.some.injEq] at h
      simp [h]
    · rw [beq_ne e] at h
      obtain ⟨h1, h2⟩ := ih (i + 1) t v h
      refine ⟨by omega, ?_⟩
      rw [show t - i = (t - (i + 1)) + 1 by omega]
      simpa using h2

theorem Does.enter {f : FuncId} {fn : Func} {c : Code} {args : List Value} {R : Value → List Assn} (hf : P.funcs[f]? = some fn) (hb : fn.body = some c) (hN : Nat.ble args.length fn.ntmps = true) (σ : Sig) (hσ : args0 0 args = σ)
    (h : V P fn.ntmps w0 c (bodyPost P fn (fun e w' => ∃ v, e = .returned v ∧ St w0 (R v) w')) σ H) : Does P f args w0 H R := by
  subst hσ
  intro w hw
  refine calls_of_wp hf hb (h w hw _ ⟨rfl, ?_, ?_⟩)
  · have := Nat.le_of_ble_eq_true hN
    simp
    omega
  · intro t v ht
    obtain ⟨_, h2⟩ := look_args0 args 0 t v ht
    have hlt : t < args.length := (List.getElem?_eq_some_iff.1 (by simpa using h2)).1
    simp only [Nat.sub_zero] at h2
    rw [Array.getElem?_append_left (by simpa using hlt)]
    simpa using h2

theorem X.ret1 {fn : Func} {t : Nat} {v : Value} {R : Value → List Assn} (hr : fn.results = #[.tmp t]) (ht : look σ t = some v) (hs : ∀ w, St w0 H w → St w0 (R v) w) :
    X N w0 (bodyPost P fn (fun e w' => ∃ v, e = .returned v ∧ St w0 (R v) w')) .ret σ H := by
  intro w hw a ha
  refine ⟨ha.defers, v, ?_, v, rfl, hs w hw⟩
  have h1 := ha.look_ t v ht
  simp [results, hr, h1]
theorem X.ret2 {fn : Func} {t s : Nat} {v u : Value} {R : Value → List Assn} (hr : fn.results = #[.tmp t, .tmp s]) (ht : look σ t = some v) (hs' : look σ s = some u) (hs : ∀ w, St w0 H w → St w0 (R (.tuple #[v, u])) w) :
    X N w0 (bodyPost P fn (fun e w' => ∃ v, e = .returned v ∧ St w0 (R v) w')) .ret σ H := by
  intro w hw a ha
  refine ⟨ha.defers, .tuple #[v, u], ?_, _, rfl, hs w hw⟩
  have h1 := ha.look_ t v ht
  have h2 := ha.look_ s u hs'
  simp [results, hr, h1, h2]
theorem X.ret3 {fn : Func} {t s r : Nat} {v u x : Value} {R : Value → List Assn} (hr : fn.results = #[.tmp t, .tmp s, .tmp r]) (ht : look σ t = some v) (hs' : look σ s = some u) (hr' : look σ r = some x) (hs : ∀ w, St w0 H w → St w0 (R (.tuple #[v, u, x])) w) :
    X N w0 (bodyPost P fn (fun e w' => ∃ v, e = .returned v ∧ St w0 (R v) w')) .ret σ H := by
  intro w hw a ha
  refine ⟨ha.defers, .tuple #[v, u, x], ?_, _, rfl, hs w hw⟩
  have h1 := ha.look_ t v ht
  have h2 := ha.look_ s u hs'
  have h3 := ha.look_ r x hr'
  simp [results, hr, h1, h2, h3]
theorem X.ret0 {fn : Func} {R : Value → List Assn} (hr : fn.results = #[]) (hs : ∀ w, St w0 H w → St w0 (R (.tuple #[])) w) :
    X N w0 (bodyPost P fn (fun e w' => ∃ v, e = .returned v ∧ St w0 (R v) w')) .ret σ H := by
  intro w hw a ha
  refine ⟨ha.defers, .tuple #[], ?_, _, rfl, hs w hw⟩
  simp [results, hr]
theorem X.endBody {fn : Func} {R : Ending → World → Prop} (h : X N w0 (bodyPost P fn R) .ret σ H) : X N w0 (bodyPost P fn R) .normal σ H := h
/-- One result that lies in memory. -/
theorem X.retCell {fn : Func} {t n : Nat} {T : TypeId} {p : Option Addr} {cs : List Value} {R : Value → List Assn} (hr : fn.results = #[.cell t T]) (hT : aggT P T = true) (hz : Sz P T n) (hl : cs.length = n) (ht : look σ t = some (.pointer p))
    (hc : ∀ w, St w0 H w → ∃ q, p = some q ∧ ∀ j u, cs[j]? = some u → w.cell? (q.add j) = some u) (hs : ∀ w, St w0 H w → St w0 (R (.agg cs.toArray)) w) :
    X N w0 (bodyPost P fn (fun e w' => ∃ v, e = .returned v ∧ St w0 (R v) w')) .ret σ H := by
  intro w hw a ha
  refine ⟨ha.defers, .agg cs.toArray, ?_, _, rfl, hs w hw⟩
  have h1 := ha.look_ t _ ht
  obtain ⟨q, rfl, hq⟩ := hc w hw
  subst hl
  have hrn := run_loadCells_list (P := P) (w := w) q cs hq
  simp [results, hr, h1, asAddr, loadVar, run_isAgg_t hT, run_sz hz, hrn]

/-- A call whose result is a plain value, and that leaves nothing behind. -/
theorem Ef.callP {g : FuncId} {l : List Operand} {ts : Array TypeId} {vs : List Value} {r : Value} (hok : CallOk P g) (ho : o.op = .call { callee := .value (.func g), args := l.toArray, argTypes := ts })
    (hargs : evs σ l = some vs) (hfn : ∀ w, St w0 H w → Does P g vs w [] (fun v => [.pur (v = r)])) : Ef P w0 o σ H Q (fun v H' => v = r ∧ H' = H) := by
  intro w hw a ha
  have := Ef.call (Q := Q) hok ho hargs (Does.frame hfn) w hw a ha
  refine Oper.wp_mono ?_ this
  rintro a' w' ⟨v, H', rfl, hs, rfl⟩
  have hs' : St w0 (.pur (v = r) :: H) w' := hs
  exact ⟨v, H, rfl, hs'.pur.2, hs'.pur.1, rfl⟩
/-- A call that leaves one thing more. -/
theorem Ef.call1 {g : FuncId} {l : List Operand} {ts : Array TypeId} {vs : List Value} {A : Value → Assn} (hok : CallOk P g) (ho : o.op = .call { callee := .value (.func g), args := l.toArray, argTypes := ts })
    (hargs : evs σ l = some vs) (hfn : ∀ w, St w0 H w → Does P g vs w [] (fun v => [A v])) : Ef P w0 o σ H Q (fun v H' => H' = A v :: H) :=
  Ef.call (R := fun v => A v :: H) hok ho hargs (Does.frame hfn)
/-- A call that turns the i-th assertion. -/
theorem Ef.callM {g : FuncId} {l : List Operand} {ts : Array TypeId} {vs : List Value} {A B : Assn} {r : Value} (i : Nat) (hok : CallOk P g) (ho : o.op = .call { callee := .value (.func g), args := l.toArray, argTypes := ts })
    (hargs : evs σ l = some vs) (hp : pull i H = some (A, H')) (hfn : ∀ H, (∀ w, St w0 (A :: H) w → St w0 (A :: H') w) → Does P g vs w0 (A :: H) (fun v => .pur (v = r) :: B :: H)) : Ef P w0 o σ H Q (fun v H'' => v = r ∧ H'' = repl i H B) := by
  intro w hw a ha
  have h1 : Does P g vs w0 H (fun v => .pur (v = r) :: B :: H') := fun w hw => hfn H' (fun _ h => h) w (hw.perm (pull_perm hp))
  have := Ef.call (Q := Q) hok ho hargs h1 w hw a ha
  refine Oper.wp_mono ?_ this
  rintro a' w' ⟨v, H2, rfl, hs, rfl⟩
  have hs' := hs.pur
  exact ⟨v, _, rfl, hs'.2.perm (repl_perm hp), hs'.1, rfl⟩
theorem St.retX {β : Type} {p : β → Prop} {A : β → Assn} (x : β) (hp : p x) (hw : St w0 [A x] w) : St w0 [.exi fun x => .sep (.pur (p x)) (A x)] w := St.mkExi x (St.unsep (St.addPur hp hw))
theorem St.retP {p : Prop} (hp : p) (hw : St w0 H w) : St w0 [.pur p] w := St.addPur hp (hw.sub (Sub.nil _))
theorem ltb {m n : Nat} (h : Nat.blt m n = true) : m < n := by simpa [Nat.blt_eq] using h
theorem leb {m n : Nat} (h : Nat.ble m n = true) : m ≤ n := Nat.le_of_ble_eq_true h
theorem iv {k : IntKind} {a b : Int} (h : a = b) : Value.int k a = .int k b := by rw [h]
theorem boolT {p : Prop} [Decidable p] (h : p) : Value.bool true = .bool (decide p) := by rw [decide_eq_true h]
theorem boolF {p : Prop} [Decidable p] (h : ¬ p) : Value.bool false = .bool (decide p) := by rw [decide_eq_false h]
theorem boolE {b : Bool} {p : Prop} [Decidable p] (h : b = true ↔ p) : Value.bool b = .bool (decide p) := by
  congr 1
  cases b
  · exact (decide_eq_false (fun hp => by simpa using h.2 hp)).symm
  · exact (decide_eq_true (h.1 rfl)).symm
theorem boolD {p q : Prop} [Decidable p] [Decidable q] (h : q ↔ p) : Value.bool (decide q) = .bool (decide p) := by
  congr 1
  exact decide_eq_decide.2 h

/-- A case is parted on a slot's truth. -/
theorem O.splitD {ops : Array Oper} {rest : List Oper} {p : Prop} [Decidable p] (t : Nat) (hv : look σ t = some (.bool (decide p))) (h1 : p → O P N w0 ops Q rest ((t, .bool true) :: σ) H) (h2 : ¬ p → O P N w0 ops Q rest ((t, .bool false) :: σ) H) : O P N w0 ops Q rest σ H := by
  by_cases hp : p
  · exact O.ent (Ent.cons (by rw [hv, decide_eq_true hp]) (Ent.refl _)) (h1 hp)
  · exact O.ent (Ent.cons (by rw [hv, decide_eq_false hp]) (Ent.refl _)) (h2 hp)
theorem O.splitN {ops : Array Oper} {rest : List Oper} {p : Prop} [Decidable p] (t : Nat) (hv : look σ t = some (.bool (!decide p))) (h1 : ¬ p → O P N w0 ops Q rest ((t, .bool true) :: σ) H) (h2 : p → O P N w0 ops Q rest ((t, .bool false) :: σ) H) : O P N w0 ops Q rest σ H := by
  by_cases hp : p
  · exact O.ent (Ent.cons (by rw [hv, decide_eq_true hp]; rfl) (Ent.refl _)) (h2 hp)
  · exact O.ent (Ent.cons (by rw [hv, decide_eq_false hp]; rfl) (Ent.refl _)) (h1 hp)
theorem O.splitB {ops : Array Oper} {rest : List Oper} {b : Bool} (t : Nat) (hv : look σ t = some (.bool b)) (h1 : b = true → O P N w0 ops Q rest ((t, .bool true) :: σ) H) (h2 : b = false → O P N w0 ops Q rest ((t, .bool false) :: σ) H) : O P N w0 ops Q rest σ H := by
  cases b
  · exact O.ent (Ent.cons hv (Ent.refl _)) (h2 rfl)
  · exact O.ent (Ent.cons hv (Ent.refl _)) (h1 rfl)

/-- Where ways meet again. -/
theorem V.cut {c : Code} (l σc : Sig) (H' : List Assn) (h1 : V P N w0 c (Exit.then (fun a w => Env N (l ++ σc) a ∧ St w0 H' w) Q) σ H) (h2 : X N w0 Q .normal (l ++ σc) H') : V P N w0 c Q σ H := by
  intro w hw a ha
  refine wp_mono (h1 w hw a ha) ?_
  intro e a' w' hq
  cases e with
  | normal => exact h2 w' hq.2 a' hq.1
  | _ => exact hq
theorem look_append (l r : Sig) (t : Nat) : look (l ++ r) t = (look l t).or (look r t) := by
  induction l with
  | nil => rfl
  | cons p l ih =>
    obtain ⟨k, v⟩ := p
    simp only [List.cons_append, look]
    cases Nat.beq k t
    · exact ih
    · rfl
theorem Ent.append {l σc : Sig} (hl : Ent σ l) (hσ : Ent σ σc) : Ent σ (l ++ σc) := by
  intro t v h
  rw [look_append] at h
  cases hv : look l t with
  | none => rw [hv] at h; exact hσ t v h
  | some u =>
    rw [hv] at h
    simp only [Option.some_or, Option.some.injEq] at h
    exact h ▸ hl t u hv
theorem X.cut {l σc : Sig} (hl : Ent σ l) (hσ : Ent σ σc) (hH : Sub H H') : X N w0 (Exit.then (fun a w => Env N (l ++ σc) a ∧ St w0 H' w) Q) .normal σ H :=
  fun w hw a ha => ⟨ha.ent (hl.append hσ), hw.sub hH⟩
theorem V.cut2 {c : Code} (l : Sig) {σc : Sig} {H' : List Assn} (hc : Ent σ σc) (hH : Sub H H') (h1 : V P N w0 c (Exit.then (fun a w => Env N (l ++ σc) a ∧ St w0 H' w) Q) σ H) (h2 : X N w0 Q .normal (l ++ σc) H') : V P N w0 c Q σ H := V.cut l σc H' h1 h2
/-- A loop: slots that turn, slots that stay. -/
theorem V.loop2 {c : Code} {β : Type} (σv : β → Sig) (σc : Sig) (Hi : β → List Assn) (Φ : β → Prop) (m : β → Nat) (x : β) (hΦ : Φ x) (hσ : Ent σ (σv x)) (hc : Ent σ σc) (hH : Sub H (Hi x))
    (round : ∀ x, Φ x → V P N w0 c (Exit.then (Back N w0 (fun x => σv x ++ σc) Hi Φ m x) Q) (σv x ++ σc) (Hi x)) : V P N w0 (.loop c) Q σ H :=
  V.loop (fun x => σv x ++ σc) Hi Φ m x hΦ (hσ.append hc) hH round
theorem X.back2 {β : Type} {σv : β → Sig} {σc : Sig} {Hi : β → List Assn} {Φ : β → Prop} {m : β → Nat} {x : β} (y : β) (hΦ : Φ y) (hm : m y < m x) (hσ : Ent σ (σv y)) (hc : Ent σ σc) (hH : Sub H (Hi y)) :
    X N w0 (Exit.then (Back N w0 (fun x => σv x ++ σc) Hi Φ m x) Q) .normal σ H := X.back y hΦ hm (hσ.append hc) hH
/-- .. and memory of both kinds. -/
theorem V.loop3 {c : Code} {β : Type} (σv : β → Sig) (σc : Sig) (Hi : β → List Assn) (Hc : List Assn) (Φ : β → Prop) (m : β → Nat) (x : β) (hΦ : Φ x) (hσ : Ent σ (σv x)) (hc : Ent σ σc) (hH : Sub H (Hi x ++ Hc))
    (round : ∀ x, Φ x → V P N w0 c (Exit.then (Back N w0 (fun x => σv x ++ σc) (fun x => Hi x ++ Hc) Φ m x) Q) (σv x ++ σc) (Hi x ++ Hc)) : V P N w0 (.loop c) Q σ H :=
  V.loop (fun x => σv x ++ σc) (fun x => Hi x ++ Hc) Φ m x hΦ (hσ.append hc) hH round
theorem X.back3 {β : Type} {σv : β → Sig} {σc : Sig} {Hi : β → List Assn} {Hc : List Assn} {Φ : β → Prop} {m : β → Nat} {x : β} (y : β) (hΦ : Φ y) (hm : m y < m x) (hσ : Ent σ (σv y)) (hc : Ent σ σc) (hH : Sub H (Hi y ++ Hc)) :
    X N w0 (Exit.then (Back N w0 (fun x => σv x ++ σc) (fun x => Hi x ++ Hc) Φ m x) Q) .normal σ H := X.back y hΦ hm (hσ.append hc) hH
/-- A loop's rounds, one by one. -/
theorem V.unroll {c : Code} (n : Nat) (h : V P N w0 c (Exit.then (Code.rounds P c Q n) Q) σ H) : V P N w0 (.loop c) Q σ H :=
  fun w hw a ha => wp_loop_rounds (n + 1) (h w hw a ha)
theorem X.again {c : Code} (n : Nat) (h : V P N w0 c (Exit.then (Code.rounds P c Q n) Q) σ H) : X N w0 (Exit.then (Code.rounds P c Q (n + 1)) Q) .normal σ H := h
end
end Go.Vc
