/-
  The calculus, part 2: one rule an operation.
-/
import Derived.Test.YtjpfngmoabnffaaVcCore
import Derived.IntWalk
import Derived.ChangeKeysEq
set_option linter.unusedVariables false
set_option linter.unusedSimpArgs false
namespace Go.Vc
open Go Go.RowKit

/-! ### Types, told by closed facts -/
def Sz (P : Program) (t n : Nat) : Prop := (P.info? t).map (·.size) = some n
def plainT (P : Program) (t : Nat) : Bool := match P.underlying t with
  | some (.struct _) | some (.array _ _) | none => false
  | _ => true
def aggT (P : Program) (t : Nat) : Bool := match P.underlying t with
  | some (.struct _) | some (.array _ _) => true
  | _ => false

section
variable {P : Program} {w : World}
theorem run_sz {t n : Nat} (h : Sz P t n) : (sizeOf t).run P w = .ok n w := by
  unfold Sz at h
  obtain ⟨i, hi, rfl⟩ := Option.map_eq_some_iff.1 h
  simp [sizeOf, typeInfo, hi]
theorem run_isAgg_f {t : Nat} (h : plainT P t = true) : (isAgg t).run P w = .ok false w := by
  unfold plainT at h
  cases hu : P.underlying t with
  | none => simp [hu] at h
  | some d => cases d <;> simp_all [isAgg, run_underlying hu]
theorem run_isAgg_t {t : Nat} (h : aggT P t = true) : (isAgg t).run P w = .ok true w := by
  unfold aggT at h
  cases hu : P.underlying t with
  | none => simp [hu] at h
  | some d => cases d <;> simp_all [isAgg, run_underlying hu]
end

/-- The operands of an operation, as the environment has them. -/
def Agree (σ : Sig) (o : Oper) (a : Act) : Prop := ∀ x, x ∈ o.op.operands → ∀ v, ev σ x = some v → a.eval x = v
theorem Env.agree {N : Nat} {σ : Sig} {a : Act} (h : Env N σ a) (o : Oper) : Agree σ o a := fun _ _ _ hv => h.eval hv

/-- An operation that yields v, in whatever memory the heap tells, and leaves memory alone. -/
def Pu (P : Program) (w0 : World) (o : Oper) (σ : Sig) (H : List Assn) (v : Value) : Prop :=
  ∀ w, St w0 H w → ∀ a, Agree σ o a → (execOp a.eval o).run P w = .ok (.value v) w
/-- An operation that turns memory. -/
def Ef (P : Program) (w0 : World) (o : Oper) (σ : Sig) (H : List Assn) (Q : Exit → Act → World → Prop) (K : Value → List Assn → Prop) : Prop :=
  ∀ w, St w0 H w → ∀ a, Agree σ o a → o.wp P a w (fun a' w' => ∃ v H', a' = a.put o.dst v ∧ St w0 H' w' ∧ K v H') Q

section rules
variable {P : Program} {N : Nat} {w0 : World} {Q : Exit → Act → World → Prop} {σ σ' : Sig} {H H' : List Assn} {ops : Array Oper} {rest : List Oper} {o : Oper}

theorem V.region {id : Nat} {l : List Oper} (h : O P N w0 l.toArray Q l σ H) : V P N w0 (.region id l.toArray false) Q σ H :=
  fun w hw a ha => wp_region_lit (h w hw a ha)
theorem O.nil (h : X N w0 Q .normal σ H) : O P N w0 ops Q [] σ H := fun w hw a ha => wpList_nil (h w hw a ha)

theorem wanted_none (hg : o.guard = none) (f : Nat → Option Bool) : Region.wanted o f = true := by simp [Region.wanted, hg]

theorem upon_ok {a : Act} {w w' : World} {v : Value} {K : Act → World → Prop} (h : (execOp a.eval o).run P w = .ok (.value v) w') (hK : K (a.put o.dst v) w') : o.wp P a w K Q := by
  unfold Oper.wp
  rw [h]
  exact hK

theorem O.pu {d : Option Tmp} {v : Value} (hg : o.guard = none) (hd : o.dst = d) (hN : dstOk d N = true) (hp : Pu P w0 o σ H v) (h : O P N w0 ops Q rest (push d v σ) H) : O P N w0 ops Q (o :: rest) σ H := by
  intro w hw a ha
  unfold wpList
  rw [if_pos (wanted_none hg _)]
  subst hd
  exact .inl (upon_ok (hp w hw a (ha.agree o)) (h w hw _ (ha.put hN v)))
/-- The usual case: a slot is written. -/
theorem O.p {d : Tmp} {v : Value} (hg : o.guard = none) (hd : o.dst = some d) (hN : Nat.blt d N = true) (hp : Pu P w0 o σ H v) (h : O P N w0 ops Q rest ((d, v) :: σ) H) : O P N w0 ops Q (o :: rest) σ H :=
  O.pu hg hd hN hp h
theorem O.ef {d : Option Tmp} {K : Value → List Assn → Prop} (hg : o.guard = none) (hd : o.dst = d) (hN : dstOk d N = true) (hp : Ef P w0 o σ H Q K) (h : ∀ v H', K v H' → O P N w0 ops Q rest (push d v σ) H') : O P N w0 ops Q (o :: rest) σ H := by
  intro w hw a ha
  unfold wpList
  rw [if_pos (wanted_none hg _)]
  subst hd
  refine .inl (Oper.wp_mono ?_ (hp w hw a (ha.agree o)))
  rintro a' w' ⟨v, H', rfl, hw', hK⟩
  exact h v H' hK w' hw' _ (ha.put hN v)
theorem O.e {d : Tmp} {K : Value → List Assn → Prop} (hg : o.guard = none) (hd : o.dst = some d) (hN : Nat.blt d N = true) (hp : Ef P w0 o σ H Q K) (h : ∀ v H', K v H' → O P N w0 ops Q rest ((d, v) :: σ) H') : O P N w0 ops Q (o :: rest) σ H :=
  O.ef hg hd hN hp h
theorem O.s {K : Value → List Assn → Prop} (hg : o.guard = none) (hd : o.dst = none) (hp : Ef P w0 o σ H Q K) (h : ∀ v H', K v H' → O P N w0 ops Q rest σ H') : O P N w0 ops Q (o :: rest) σ H :=
  O.ef hg hd rfl hp h

theorem yielded_of {a : Act} {j t : Nat} {u : Value} (ha : Env N σ a) (hj : (ops[j]?).bind (·.dst) = some t) (hu : look σ t = some u) : yielded ops a.tmps j = (match u with | .bool b => some b | _ => none) := by
  unfold yielded
  rw [hj]
  simp only [Option.bind_some]
  rw [ha.look_ t u hu]
  cases u <;> rfl
/-- A guarded operation that is asked for. -/
theorem O.gp {d : Tmp} {v : Value} {j t : Nat} {b : Bool} (hg : o.guard = some (j, b)) (hj : (ops[j]?).bind (·.dst) = some t) (hu : look σ t = some (.bool b)) (hd : o.dst = some d) (hN : Nat.blt d N = true) (hp : Pu P w0 o σ H v)
    (h : O P N w0 ops Q rest ((d, v) :: σ) H) : O P N w0 ops Q (o :: rest) σ H := by
  intro w hw a ha
  unfold wpList
  have hy := yielded_of ha hj hu
  rw [if_pos (by simp [Region.wanted, hg, hy])]
  refine .inl (upon_ok (hp w hw a (ha.agree o)) ?_)
  rw [hd]
  exact h w hw _ (ha.put (d := some d) hN v)
theorem O.ge {d : Tmp} {K : Value → List Assn → Prop} {j t : Nat} {b : Bool} (hg : o.guard = some (j, b)) (hj : (ops[j]?).bind (·.dst) = some t) (hu : look σ t = some (.bool b)) (hd : o.dst = some d) (hN : Nat.blt d N = true) (hp : Ef P w0 o σ H Q K)
    (h : ∀ v H', K v H' → O P N w0 ops Q rest ((d, v) :: σ) H') : O P N w0 ops Q (o :: rest) σ H := by
  intro w hw a ha
  unfold wpList
  have hy := yielded_of ha hj hu
  rw [if_pos (by simp [Region.wanted, hg, hy])]
  refine .inl (Oper.wp_mono ?_ (hp w hw a (ha.agree o)))
  rintro a' w' ⟨v, H', rfl, hw', hK⟩
  rw [hd]
  exact h v H' hK w' hw' _ (ha.put (d := some d) hN v)
def skipB (b : Bool) : Value → Bool
  | .bool c => c != b
  | _ => true
/-- .. that is not. -/
theorem O.gs {d : Tmp} {j t : Nat} {b : Bool} {u : Value} (hg : o.guard = some (j, b)) (hj : (ops[j]?).bind (·.dst) = some t) (hu : look σ t = some u) (hne : skipB b u = true) (hd : o.dst = some d) (hN : Nat.blt d N = true)
    (h : O P N w0 ops Q rest ((d, undef) :: σ) H) : O P N w0 ops Q (o :: rest) σ H := by
  intro w hw a ha
  unfold wpList
  have hy := yielded_of ha hj hu
  rw [if_neg]
  · rw [hd]
    exact h w hw _ (ha.put (d := some d) hN undef)
  · simp only [Region.wanted, hg, hy]
    cases u <;> simp_all [skipB]

/-- A fact that memory tells. -/
theorem V.fact {c : Code} {p : Prop} (hp : ∀ w, St w0 H w → p) (h : p → V P N w0 c Q σ H) : V P N w0 c Q σ H := fun w hw a ha => h (hp w hw) w hw a ha
theorem O.fact {p : Prop} (hp : ∀ w, St w0 H w → p) (h : p → O P N w0 ops Q rest σ H) : O P N w0 ops Q rest σ H := fun w hw a ha => h (hp w hw) w hw a ha
theorem X.fact {e : Exit} {p : Prop} (hp : ∀ w, St w0 H w → p) (h : p → X N w0 Q e σ H) : X N w0 Q e σ H := fun w hw a ha => h (hp w hw) w hw a ha
theorem O.pur {p : Prop} (h : p → O P N w0 ops Q rest σ H) : O P N w0 ops Q rest σ (.pur p :: H) := fun w hw a ha => h hw.pur.1 w hw.pur.2 a ha
theorem O.exi {α : Type} {A : α → Assn} (h : ∀ x, O P N w0 ops Q rest σ (A x :: H)) : O P N w0 ops Q rest σ (.exi A :: H) := fun w hw a ha => let ⟨x, hx⟩ := hw.exi; h x w hx a ha
theorem O.sep {A B : Assn} (h : O P N w0 ops Q rest σ (A :: B :: H)) : O P N w0 ops Q rest σ (.sep A B :: H) := fun w hw a ha => h w hw.sep a ha
theorem V.pur {c : Code} {p : Prop} (h : p → V P N w0 c Q σ H) : V P N w0 c Q σ (.pur p :: H) := fun w hw a ha => h hw.pur.1 w hw.pur.2 a ha
theorem V.exi {c : Code} {α : Type} {A : α → Assn} (h : ∀ x, V P N w0 c Q σ (A x :: H)) : V P N w0 c Q σ (.exi A :: H) := fun w hw a ha => let ⟨x, hx⟩ := hw.exi; h x w hx a ha
theorem V.sep {c : Code} {A B : Assn} (h : V P N w0 c Q σ (A :: B :: H)) : V P N w0 c Q σ (.sep A B :: H) := fun w hw a ha => h w hw.sep a ha
theorem O.weaken (hσ : Ent σ σ') (hH : Sub H H') (h : O P N w0 ops Q rest σ' H') : O P N w0 ops Q rest σ H := fun w hw a ha => h w (hw.sub hH) a (ha.ent hσ)
theorem O.ent (hσ : Ent σ σ') (h : O P N w0 ops Q rest σ' H) : O P N w0 ops Q rest σ H := fun w hw a ha => h w hw a (ha.ent hσ)
theorem O.sub (hH : Sub H H') (h : O P N w0 ops Q rest σ H') : O P N w0 ops Q rest σ H := fun w hw a ha => h w (hw.sub hH) a ha
theorem V.sub {c : Code} (hH : Sub H H') (h : V P N w0 c Q σ H') : V P N w0 c Q σ H := fun w hw a ha => h w (hw.sub hH) a ha
theorem V.pull {c : Code} {A : Assn} (i : Nat) (hp : Vc.pull i H = some (A, H')) (h : V P N w0 c Q σ (A :: H')) : V P N w0 c Q σ H := fun w hw a ha => h w (hw.perm (pull_perm hp)) a ha
theorem O.pull {A : Assn} (i : Nat) (hp : Vc.pull i H = some (A, H')) (h : O P N w0 ops Q rest σ (A :: H')) : O P N w0 ops Q rest σ H := fun w hw a ha => h w (hw.perm (pull_perm hp)) a ha

/-! ### Operations that leave memory alone -/
theorem Pu.move {x : Operand} {v : Value} (ho : o.op = .move x) (hx : ev σ x = some v) : Pu P w0 o σ H v := by
  intro w hw a ha
  have h1 := ha x (by simp [ho, Op.operands]) v hx
  simp [execOp, ho, h1]
theorem Pu.assign {x : Operand} {v : Value} (ho : o.op = .assign x) (hx : ev σ x = some v) : Pu P w0 o σ H v := by
  intro w hw a ha
  have h1 := ha x (by simp [ho, Op.operands]) v hx
  simp [execOp, ho, h1]
theorem Pu.pickT {c x y : Operand} {v : Value} (ho : o.op = .pick c x y) (hc : ev σ c = some (.bool true)) (hx : ev σ x = some v) : Pu P w0 o σ H v := by
  intro w hw a ha
  have h1 := ha c (by simp [ho, Op.operands]) _ hc
  have h2 := ha x (by simp [ho, Op.operands]) v hx
  simp [execOp, ho, h1, h2, asBool]
theorem Pu.pickF {c x y : Operand} {v : Value} (ho : o.op = .pick c x y) (hc : ev σ c = some (.bool false)) (hy : ev σ y = some v) : Pu P w0 o σ H v := by
  intro w hw a ha
  have h1 := ha c (by simp [ho, Op.operands]) _ hc
  have h2 := ha y (by simp [ho, Op.operands]) v hy
  simp [execOp, ho, h1, h2, asBool]
theorem Pu.pick {c x y : Operand} {b d e : Bool} (ho : o.op = .pick c x y) (hc : ev σ c = some (.bool b)) (hx : ev σ x = some (.bool d)) (hy : ev σ y = some (.bool e)) : Pu P w0 o σ H (.bool (bif b then d else e)) := by
  cases b
  · exact Pu.pickF ho hc hy
  · exact Pu.pickT ho hc hx

section ints
variable {T T2 : TypeId} {x y : Operand} {k : IntKind} {m n : Int}
theorem Pu.bin {op : BinOp} {v : Value} (ho : o.op = .binOp op T x y T2) (hx : ev σ x = some (.int k m)) (hy : ev σ y = some (.int k n))
    (hr : ∀ w, (Go.binOp op T (.int k m) (.int k n)).run P w = .ok v w) : Pu P w0 o σ H v := by
  intro w hw a ha
  have h1 := ha x (by simp [ho, Op.operands]) _ hx
  have h2 := ha y (by simp [ho, Op.operands]) _ hy
  have he : (eqGuard op T x y (.int k m) (.int k n)).run P w = .ok () w := by
    unfold eqGuard
    cases op <;> simp
  simp [execOp, ho, h1, h2, he, hr w]
theorem Pu.lss (ho : o.op = .binOp .lss T x y T2) (hx : ev σ x = some (.int k m)) (hy : ev σ y = some (.int k n)) : Pu P w0 o σ H (.bool (decide (m < n))) :=
  Pu.bin ho hx hy fun w => by simp [Go.binOp, Op.intCmp]
theorem Pu.leq (ho : o.op = .binOp .leq T x y T2) (hx : ev σ x = some (.int k m)) (hy : ev σ y = some (.int k n)) : Pu P w0 o σ H (.bool (decide (m ≤ n))) :=
  Pu.bin ho hx hy fun w => by simp [Go.binOp, Op.intCmp]
theorem Pu.gtr (ho : o.op = .binOp .gtr T x y T2) (hx : ev σ x = some (.int k m)) (hy : ev σ y = some (.int k n)) : Pu P w0 o σ H (.bool (decide (n < m))) :=
  Pu.bin ho hx hy fun w => by simp [Go.binOp, Op.intCmp]
theorem Pu.geq (ho : o.op = .binOp .geq T x y T2) (hx : ev σ x = some (.int k m)) (hy : ev σ y = some (.int k n)) : Pu P w0 o σ H (.bool (decide (n ≤ m))) :=
  Pu.bin ho hx hy fun w => by simp [Go.binOp, Op.intCmp]
theorem Pu.eql (ho : o.op = .binOp .eql T x y T2) (hx : ev σ x = some (.int k m)) (hy : ev σ y = some (.int k n)) : Pu P w0 o σ H (.bool (decide (m = n))) :=
  Pu.bin ho hx hy fun w => by simp [Go.binOp, Op.intCmp]; rfl
theorem Pu.neq (ho : o.op = .binOp .neq T x y T2) (hx : ev σ x = some (.int k m)) (hy : ev σ y = some (.int k n)) : Pu P w0 o σ H (.bool (!decide (m = n))) :=
  Pu.bin ho hx hy fun w => by simp [Go.binOp, Op.intCmp]; rfl
theorem Pu.add (ho : o.op = .binOp .add T x y T2) (hx : ev σ x = some (.int k m)) (hy : ev σ y = some (.int k n)) : Pu P w0 o σ H (.int k (k.wrap (m + n))) :=
  Pu.bin ho hx hy fun w => by simp [Go.binOp, Op.intArith]
theorem Pu.subW (ho : o.op = .binOp .sub T x y T2) (hx : ev σ x = some (.int k m)) (hy : ev σ y = some (.int k n)) : Pu P w0 o σ H (.int k (k.wrap (m - n))) :=
  Pu.bin ho hx hy fun w => by simp [Go.binOp, Op.intArith]
theorem Pu.mulW (ho : o.op = .binOp .mul T x y T2) (hx : ev σ x = some (.int k m)) (hy : ev σ y = some (.int k n)) : Pu P w0 o σ H (.int k (k.wrap (m * n))) :=
  Pu.bin ho hx hy fun w => by simp [Go.binOp, Op.intArith]
theorem Pu.add64 {r : Int} (hr : m + n = r) (hb : -9223372036854775808 ≤ r ∧ r ≤ 9223372036854775807) (ho : o.op = .binOp .add T x y T2) (hx : ev σ x = some (.int .i64 m)) (hy : ev σ y = some (.int .i64 n)) : Pu P w0 o σ H (.int .i64 r) := by
  have := Pu.add (P := P) (w0 := w0) (H := H) ho hx hy
  rwa [hr, IntWalk.i64_in _ hb] at this
theorem Pu.sub64 {r : Int} (hr : m - n = r) (hb : -9223372036854775808 ≤ r ∧ r ≤ 9223372036854775807) (ho : o.op = .binOp .sub T x y T2) (hx : ev σ x = some (.int .i64 m)) (hy : ev σ y = some (.int .i64 n)) : Pu P w0 o σ H (.int .i64 r) := by
  have := Pu.subW (P := P) (w0 := w0) (H := H) ho hx hy
  rwa [hr, IntWalk.i64_in _ hb] at this
theorem Pu.mul64 {r : Int} (hr : m * n = r) (hb : -9223372036854775808 ≤ r ∧ r ≤ 9223372036854775807) (ho : o.op = .binOp .mul T x y T2) (hx : ev σ x = some (.int .i64 m)) (hy : ev σ y = some (.int .i64 n)) : Pu P w0 o σ H (.int .i64 r) := by
  have := Pu.mulW (P := P) (w0 := w0) (H := H) ho hx hy
  rwa [hr, IntWalk.i64_in _ hb] at this
theorem Pu.quo64 (h0 : 0 ≤ m) (hm : m ≤ 9223372036854775807) (hn : 0 < n) (ho : o.op = .binOp .quo T x y T2) (hx : ev σ x = some (.int .i64 m)) (hy : ev σ y = some (.int .i64 n)) : Pu P w0 o σ H (.int .i64 (m / n)) :=
  Pu.bin ho hx hy fun w => by
    have h1 : m.tdiv n = m / n := Int.tdiv_eq_ediv_of_nonneg h0
    have h2 : m / n ≤ m := Int.ediv_le_self n h0
    have h3 : 0 ≤ m / n := Int.ediv_nonneg h0 (by omega)
    have h4 : IntKind.i64.wrap (m / n) = m / n := IntWalk.i64_in _ ⟨by omega, by omega⟩
    have h5 : n ≠ 0 := by omega
    simp [Go.binOp, Op.intDiv, h1, h4, h5]
theorem Pu.rem64' {r : Int} (h0 : 0 ≤ m) (hn : 0 < n) (hr : m % n = r) (ho : o.op = .binOp .rem T x y T2) (hx : ev σ x = some (.int .i64 m)) (hy : ev σ y = some (.int .i64 n)) : Pu P w0 o σ H (.int .i64 r) :=
  Pu.bin ho hx hy fun w => by
    have h1 : m.tmod n = m % n := Int.tmod_eq_emod_of_nonneg h0
    have h5 : n ≠ 0 := by omega
    simp [Go.binOp, Op.intDiv, h1, h5, hr]
theorem Pu.rem64 (h0 : 0 ≤ m) (hn : 0 < n) (ho : o.op = .binOp .rem T x y T2) (hx : ev σ x = some (.int .i64 m)) (hy : ev σ y = some (.int .i64 n)) : Pu P w0 o σ H (.int .i64 (m % n)) :=
  Pu.bin ho hx hy fun w => by
    have h1 : m.tmod n = m % n := Int.tmod_eq_emod_of_nonneg h0
    have h5 : n ≠ 0 := by omega
    simp [Go.binOp, Op.intDiv, h1, h5]
end ints

theorem Pu.lssT {T T2 : TypeId} {x y : Operand} {k : IntKind} {m n : Int} (h : m < n) (ho : o.op = .binOp .lss T x y T2) (hx : ev σ x = some (.int k m)) (hy : ev σ y = some (.int k n)) : Pu P w0 o σ H (.bool true) := by
  have := Pu.lss (P := P) (w0 := w0) (H := H) ho hx hy
  rwa [decide_eq_true h] at this
theorem Pu.lssF {T T2 : TypeId} {x y : Operand} {k : IntKind} {m n : Int} (h : ¬ m < n) (ho : o.op = .binOp .lss T x y T2) (hx : ev σ x = some (.int k m)) (hy : ev σ y = some (.int k n)) : Pu P w0 o σ H (.bool false) := by
  have := Pu.lss (P := P) (w0 := w0) (H := H) ho hx hy
  rwa [decide_eq_false h] at this
/-- A known truth. -/
theorem Pu.isT {p : Prop} [Decidable p] (hp : p) (h : Pu P w0 o σ H (.bool (decide p))) : Pu P w0 o σ H (.bool true) := by rwa [decide_eq_true hp] at h
theorem Pu.isF {p : Prop} [Decidable p] (hp : ¬ p) (h : Pu P w0 o σ H (.bool (decide p))) : Pu P w0 o σ H (.bool false) := by rwa [decide_eq_false hp] at h
theorem Pu.not' {T : TypeId} {x : Operand} {b : Bool} (ho : o.op = .unOp .not T x) (hx : ev σ x = some (.bool b)) : Pu P w0 o σ H (.bool (!b)) := by
  intro w hw a ha
  have h1 := ha x (by simp [ho, Op.operands]) _ hx
  simp [execOp, ho, h1, Op.unary]
theorem Pu.notT {T : TypeId} {x : Operand} (ho : o.op = .unOp .not T x) (hx : ev σ x = some (.bool true)) : Pu P w0 o σ H (.bool false) := Pu.not' ho hx
theorem Pu.notF {T : TypeId} {x : Operand} (ho : o.op = .unOp .not T x) (hx : ev σ x = some (.bool false)) : Pu P w0 o σ H (.bool true) := Pu.not' ho hx
theorem Pu.not {T : TypeId} {x : Operand} {b : Bool} (ho : o.op = .unOp .not T x) (hx : ev σ x = some (.bool b)) : Pu P w0 o σ H (.bool (!b)) := by
  intro w hw a ha
  have h1 := ha x (by simp [ho, Op.operands]) _ hx
  simp [execOp, ho, h1, Op.unary]
theorem run_equalIn_bool {T : TypeId} {b c : Bool} (hT : P.underlying T = some .bool) (d : Nat) (w : World) : (Op.equalIn (d + 1) T (.bool b) (.bool c)).run P w = .ok (b == c) w := by
  simp [Op.equalIn, run_underlying hT]
theorem run_equal_of {T : TypeId} {u v : Value} {b : Bool} {w : World} (h : ∀ d, (Op.equalIn (d + 1) T u v).run P w = .ok b w) : (Op.equal T u v).run P w = .ok b w := by
  rw [show Op.equal T u v = Op.equalIn (9999 + 1) T u v from rfl]
  exact h 9999
theorem Pu.boolEql {T T2 : TypeId} {x y : Operand} {b c : Bool} (hT : P.underlying T = some .bool) (ho : o.op = .binOp .eql T x y T2) (hx : ev σ x = some (.bool b)) (hy : ev σ y = some (.bool c)) : Pu P w0 o σ H (.bool (b == c)) := by
  intro w hw a ha
  have h1 := ha x (by simp [ho, Op.operands]) _ hx
  have h2 := ha y (by simp [ho, Op.operands]) _ hy
  have he := run_equal_of (P := P) (T := T) (fun d => run_equalIn_bool (b := b) (c := c) hT d w)
  have hg : (eqGuard .eql T x y (.bool b) (.bool c)).run P w = .ok () w := by simp [eqGuard]
  have hb : (Go.binOp .eql T (.bool b) (.bool c)).run P w = .ok (.bool (b == c)) w := by
    rw [show Go.binOp .eql T (.bool b) (.bool c) = (do pure (.bool (← Op.equal T (.bool b) (.bool c)))) from rfl]
    simp only [Sem.run_bind, he, Result.andThen_ok, Sem.run_pure]
  simp only [execOp, ho, h1, h2, Sem.run_bind, hg, hb, Result.andThen_ok, Sem.run_pure]
theorem Pu.boolNeq {T T2 : TypeId} {x y : Operand} {b c : Bool} (hT : P.underlying T = some .bool) (ho : o.op = .binOp .neq T x y T2) (hx : ev σ x = some (.bool b)) (hy : ev σ y = some (.bool c)) : Pu P w0 o σ H (.bool (!(b == c))) := by
  intro w hw a ha
  have h1 := ha x (by simp [ho, Op.operands]) _ hx
  have h2 := ha y (by simp [ho, Op.operands]) _ hy
  have he := run_equal_of (P := P) (T := T) (fun d => run_equalIn_bool (b := b) (c := c) hT d w)
  have hg : (eqGuard .neq T x y (.bool b) (.bool c)).run P w = .ok () w := by simp [eqGuard]
  have hb : (Go.binOp .neq T (.bool b) (.bool c)).run P w = .ok (.bool (!(b == c))) w := by
    rw [show Go.binOp .neq T (.bool b) (.bool c) = (do pure (.bool (!(← Op.equal T (.bool b) (.bool c))))) from rfl]
    simp only [Sem.run_bind, he, Result.andThen_ok, Sem.run_pure]
  simp only [execOp, ho, h1, h2, Sem.run_bind, hg, hb, Result.andThen_ok, Sem.run_pure]
theorem Pu.convert {s t : TypeId} {x : Operand} {k k' : IntKind} {n : Int} (hs : ∃ d, P.underlying s = some d) (ht : P.underlying t = some (.int k')) (ho : o.op = .convert s t x) (hx : ev σ x = some (.int k n)) : Pu P w0 o σ H (.int k' (k'.wrap n)) := by
  intro w hw a ha
  have h1 := ha x (by simp [ho, Op.operands]) _ hx
  obtain ⟨d, hd⟩ := hs
  simp [execOp, ho, h1, Go.convert, run_underlying hd, run_underlying ht, Conv.intToInt]
theorem Pu.conv64 {s t : TypeId} {x : Operand} {k : IntKind} {n : Int} (hs : ∃ d, P.underlying s = some d) (ht : P.underlying t = some (.int .i64)) (hb : -9223372036854775808 ≤ n ∧ n ≤ 9223372036854775807) (ho : o.op = .convert s t x) (hx : ev σ x = some (.int k n)) : Pu P w0 o σ H (.int .i64 n) := by
  have := Pu.convert (P := P) (w0 := w0) (H := H) hs ht ho hx
  rwa [IntWalk.i64_in _ hb] at this
theorem Pu.extract {x : Operand} {i : Nat} {vs : Array Value} {v : Value} (ho : o.op = .extract x i) (hx : ev σ x = some (.tuple vs)) (hv : vs[i]? = some v) : Pu P w0 o σ H v := by
  intro w hw a ha
  have h1 := ha x (by simp [ho, Op.operands]) _ hx
  simp [execOp, ho, h1, Instr.extract, hv]
theorem Pu.nilCheck {x : Operand} {q : Addr} (ho : o.op = .nilCheck x) (hx : ev σ x = some (.pointer (some q))) : Pu P w0 o σ H (.pointer (some q)) := by
  intro w hw a ha
  have h1 := ha x (by simp [ho, Op.operands]) _ hx
  simp [execOp, ho, h1]
theorem Pu.makeFunc {f : Nat} {caps : Array Operand} {vs : List Value} (ho : o.op = .makeFunc (.func f) #[] caps) (hx : evs σ caps.toList = some vs) : Pu P w0 o σ H (.func (.func f) #[] vs.toArray) := by
  intro w hw a ha
  have key : ∀ (l : List Operand) (vs : List Value), (∀ x ∈ l, ∀ v, ev σ x = some v → a.eval x = v) → evs σ l = some vs → l.map a.eval = vs := by
    intro l
    induction l with
    | nil => intro vs _ h; simpa [evs] using h
    | cons x l ih =>
      intro vs hl h
      simp only [evs] at h
      cases h1 : ev σ x with
      | none => simp [h1] at h
      | some v =>
        cases h2 : evs σ l with
        | none => simp [h1, h2] at h
        | some us =>
          simp only [h1, h2, Option.some.injEq] at h
          subst h
          simp only [List.map_cons]
          rw [hl x (by simp) v h1, ih us (fun y hy => hl y (by simp [hy])) h2]
  have hk := key caps.toList vs (fun x hx v hv => ha x (by simp [ho, Op.operands]; simpa using hx) v hv) hx
  have : caps.map a.eval = vs.toArray := by
    rw [← hk]
    apply Array.ext'
    simp
  simp [execOp, ho, Instr.makeFunc, this]
theorem Pu.len {T : TypeId} {x : Operand} {A : Option Addr} {n c : Nat} {e : TypeId} (ho : o.op = .call { callee := .builtin .len, args := #[x], argTypes := #[T] }) (hT : P.underlying T = some (.slice e)) (hx : ev σ x = some (.slice A n c)) : Pu P w0 o σ H (.int .i64 (n : Int)) := by
  intro w hw a ha
  have h1 := ha x (by simp [ho, Op.operands, Call.operands]) _ hx
  simp [execOp, ho, h1, resolve, invoke, builtin, Builtin.len_, run_underlying hT, goInt]
theorem Pu.lenStr {T : TypeId} {x : Operand} {s : ByteArray} (ho : o.op = .call { callee := .builtin .len, args := #[x], argTypes := #[T] }) (hT : P.underlying T = some .string) (hx : ev σ x = some (.string s)) : Pu P w0 o σ H (.int .i64 (s.size : Int)) := by
  intro w hw a ha
  have h1 := ha x (by simp [ho, Op.operands, Call.operands]) _ hx
  simp [execOp, ho, h1, resolve, invoke, builtin, Builtin.len_, run_underlying hT, goInt]
theorem Pu.lenArr {T : TypeId} {x : Operand} {v : Value} {n e : Nat} (ho : o.op = .call { callee := .builtin .len, args := #[x], argTypes := #[T] }) (hT : P.underlying T = some (.array n e)) (hx : ev σ x = some v) : Pu P w0 o σ H (.int .i64 (n : Int)) := by
  intro w hw a ha
  have h1 := ha x (by simp [ho, Op.operands, Call.operands]) _ hx
  simp [execOp, ho, h1, resolve, invoke, builtin, Builtin.len_, run_underlying hT, goInt]

theorem add_mk (b j m : Nat) : (⟨b, j, none⟩ : Addr).add m = ⟨b, j + m, none⟩ := by unfold Addr.add; split <;> simp_all

theorem Pu.fieldAddr {T : TypeId} {x : Operand} {f b j : Nat} {fs : Array Field} {fd : Field} {n : Nat} (r : Nat) (ho : o.op = .fieldAddr T x f) (hT : P.underlying T = some (.struct fs)) (hf : fs[f]? = some fd) (hs : Sz P fd.type (n + 1)) (hx : ev σ x = some (.pointer (some ⟨b, j, none⟩))) (hr : j + fd.offset = r) :
    Pu P w0 o σ H (.pointer (some ⟨b, r, none⟩)) := by
  intro w hw a ha
  subst hr
  have h1 := ha x (by simp [ho, Op.operands]) _ hx
  simp [execOp, ho, h1, Instr.fieldAt, run_underlying hT, hf, Instr.sureAddr, fieldPlace, run_sz hs, add_mk]
theorem Pu.indexAddr {T : TypeId} {x y : Operand} {A : Option Addr} {n c : Nat} {e sz : Nat} {K : IntKind} {i : Int} (k : Nat) (ho : o.op = .indexAddr T x y) (hT : P.underlying T = some (.slice e)) (hs : Sz P e sz) (hx : ev σ x = some (.slice A n c)) (hy : ev σ y = some (.int K i)) (hi : i = (k : Int)) (hk : k < n) (hA : A.isSome = true) :
    Pu P w0 o σ H (.pointer (A.map (·.add (k * sz)))) := by
  intro w hw a ha
  have h1 := ha x (by simp [ho, Op.operands]) _ hx
  have h2 := ha y (by simp [ho, Op.operands]) _ hy
  obtain ⟨q, rfl⟩ := Option.isSome_iff_exists.1 hA
  subst hi
  simp [execOp, ho, h1, h2, Instr.indexAt, asIntOf, run_underlying hT, run_sz hs, hk]
theorem Pu.indexArr {T : TypeId} {x y : Operand} {b j : Nat} {e sz n : Nat} {K : IntKind} {i : Int} (k r : Nat) (ho : o.op = .indexAddr T x y) (hT : P.underlying T = some (.array n e)) (hs : Sz P e sz) (hx : ev σ x = some (.pointer (some ⟨b, j, none⟩))) (hy : ev σ y = some (.int K i)) (hi : i = (k : Int)) (hk : k < n) (hr : j + k * sz = r) :
    Pu P w0 o σ H (.pointer (some ⟨b, r, none⟩)) := by
  intro w hw a ha
  subst hr
  have h1 := ha x (by simp [ho, Op.operands]) _ hx
  have h2 := ha y (by simp [ho, Op.operands]) _ hy
  subst hi
  simp [execOp, ho, h1, h2, Instr.indexAt, asIntOf, run_underlying hT, run_sz hs, hk, Instr.sureAddr, add_mk]
theorem Pu.indexAgg {T : TypeId} {x y : Operand} {cs : Array Value} {v : Value} {e n : Nat} {K : IntKind} {i : Int} (k : Nat) (ho : o.op = .index T x y) (hT : P.underlying T = some (.array n e)) (hs : Sz P e 1) (he : plainT P e = true) (hx : ev σ x = some (.agg cs)) (hy : ev σ y = some (.int K i)) (hi : i = (k : Int)) (hk : k < n) (hv : cs[k]? = some v) :
    Pu P w0 o σ H v := by
  intro w hw a ha
  have h1 := ha x (by simp [ho, Op.operands]) _ hx
  have h2 := ha y (by simp [ho, Op.operands]) _ hy
  subst hi
  simp [execOp, ho, h1, h2, Instr.index, asIntOf, run_underlying hT, run_sz hs, hk, part, run_isAgg_f he, hv]
theorem Pu.slicePtr {T : TypeId} {x : Operand} {q : Addr} {n e sz : Nat} (ho : o.op = .slice T x none none none) (hT : P.underlying T = some (.array n e)) (hs : Sz P e sz) (hx : ev σ x = some (.pointer (some q))) : Pu P w0 o σ H (.slice (some q) n n) := by
  intro w hw a ha
  have h1 := ha x (by simp [ho, Op.operands]) _ hx
  have hq : q.add 0 = q := by simp [Addr.add]
  simp [execOp, ho, h1, Instr.sliceAt, run_underlying hT, Instr.sureAddr, Instr.sliceBounds, run_sz hs, hq]
theorem Pu.load {T : TypeId} {x : Operand} {p : Option Addr} {v : Value} (ho : o.op = .load T x) (hT : plainT P T = true) (hx : ev σ x = some (.pointer p)) (hc : ∀ w, St w0 H w → ∃ q, p = some q ∧ w.cell? q = some v) : Pu P w0 o σ H v := by
  intro w hw a ha
  have h1 := ha x (by simp [ho, Op.operands]) _ hx
  obtain ⟨q, rfl, hq⟩ := hc w hw
  simp [execOp, ho, h1, Instr.loadAt, Instr.sureAddr, loadVar, run_isAgg_f hT, hq]
theorem Pu.loadAgg' {T : TypeId} {x : Operand} {p : Option Addr} {n : Nat} {cs : List Value} {v : Value} (hv : v = .agg cs.toArray) (ho : o.op = .load T x) (hT : aggT P T = true) (hs : Sz P T n) (hl : cs.length = n) (hx : ev σ x = some (.pointer p)) (hc : ∀ w, St w0 H w → ∃ q, p = some q ∧ ∀ j u, cs[j]? = some u → w.cell? (q.add j) = some u) :
    Pu P w0 o σ H v := by
  subst hv
  intro w hw a ha
  have h1 := ha x (by simp [ho, Op.operands]) _ hx
  obtain ⟨q, rfl, hq⟩ := hc w hw
  subst hl
  have hr := run_loadCells_list (P := P) (w := w) q cs hq
  simp [execOp, ho, h1, Instr.loadAt, Instr.sureAddr, loadVar, run_isAgg_t hT, run_sz hs, hr]
theorem Pu.loadAgg {T : TypeId} {x : Operand} {p : Option Addr} {n : Nat} {cs : List Value} (ho : o.op = .load T x) (hT : aggT P T = true) (hs : Sz P T n) (hl : cs.length = n) (hx : ev σ x = some (.pointer p)) (hc : ∀ w, St w0 H w → ∃ q, p = some q ∧ ∀ j u, cs[j]? = some u → w.cell? (q.add j) = some u) :
    Pu P w0 o σ H (.agg cs.toArray) := by
  intro w hw a ha
  have h1 := ha x (by simp [ho, Op.operands]) _ hx
  obtain ⟨q, rfl, hq⟩ := hc w hw
  subst hl
  have hr := run_loadCells_list (P := P) (w := w) q cs hq
  simp [execOp, ho, h1, Instr.loadAt, Instr.sureAddr, loadVar, run_isAgg_t hT, run_sz hs, hr]
end rules
end Go.Vc
