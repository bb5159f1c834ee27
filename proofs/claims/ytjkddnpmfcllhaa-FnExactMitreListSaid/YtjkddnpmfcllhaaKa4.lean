/-
  The calculus and plain words, part 4.
-/
import Derived.Test.YtjkddnpmfcllhaaKa3
set_option linter.unusedVariables false
set_option linter.unusedSimpArgs false
/-
  The calculus, part 11: slices of slices; clear; rows that lose some.
-/
namespace Go.Vc
open Go Go.RowKit
section
variable {P : Program} {w0 w : World} {H H' : List Assn} {α : Type} {Q : Exit → Act → World → Prop} {σ : Sig} {o : Oper} {T e : TypeId} {C : Cod α}

theorem elem_of {T e : TypeId} (hT : P.underlying T = some (.slice e)) : P.underlying T = some (.slice (P.elem T)) ∧ P.elem T = e := by
  have : P.elem T = e := by simp [Program.elem, hT]
  exact ⟨this ▸ hT, this⟩
theorem map_add_zero (A : Option Addr) : A.map (·.add 0) = A := by
  cases A with
  | none => rfl
  | some q =>
    simp only [Option.map_some, Option.some.injEq]
    unfold Addr.add
    split <;> simp_all
/-- x[:h]. -/
theorem Pu.sliceH {x y : Operand} {A : Option Addr} {n c s : Nat} {K : IntKind} {i : Int} (k : Nat) (ho : o.op = .slice T x none (some y) none) (hT : P.underlying T = some (.slice e)) (hs : Sz P e s) (hx : ev σ x = some (.slice A n c)) (hy : ev σ y = some (.int K i)) (hi : i = (k : Int)) (hk : k ≤ c) :
    Pu P w0 o σ H (.slice A k c) := by
  intro w hw a ha
  have h1 := ha x (by simp [ho, Op.operands]) _ hx
  have h2 := ha y (by simp [ho, Op.operands]) _ hy
  subst hi
  obtain ⟨e1, e2⟩ := elem_of hT
  have e3 : Value.slice (if c = 0 then A else A.map (·.add 0)) k c = .slice A k c := by rw [map_add_zero]; simp
  have hr := run_slice_h (w := w) T A n c e1 K (k : Int) (by omega) (by omega)
  rw [e2, run_sz hs] at hr
  simp only [Result.andThen_ok, sliced, Int.toNat_natCast, Nat.zero_mul, Nat.sub_zero, e3] at hr
  simp [execOp, ho, h1, h2, run_sliceAt_slice (h := e1), hr]
/-- x[l:]. -/
theorem Pu.sliceL {x y : Operand} {A : Option Addr} {n c s : Nat} {K : IntKind} {i : Int} (k : Nat) (ho : o.op = .slice T x (some y) none none) (hT : P.underlying T = some (.slice e)) (hs : Sz P e s) (hx : ev σ x = some (.slice A n c)) (hy : ev σ y = some (.int K i)) (hi : i = (k : Int)) (hk : k ≤ n) :
    Pu P w0 o σ H (.slice (if c = k then A else A.map (·.add (k * s))) (n - k) (c - k)) := by
  intro w hw a ha
  have h1 := ha x (by simp [ho, Op.operands]) _ hx
  have h2 := ha y (by simp [ho, Op.operands]) _ hy
  subst hi
  obtain ⟨e1, e2⟩ := elem_of hT
  have hr := run_slice_l (w := w) T A n c e1 K (k : Int) (by omega) (by omega)
  rw [e2, run_sz hs] at hr
  simp only [Result.andThen_ok, sliced, Int.toNat_natCast] at hr
  simp [execOp, ho, h1, h2, run_sliceAt_slice (h := e1), hr]
theorem Rd.drop {A : Option Addr} {xs : List α} {c k s : Nat} (h : Rd C w A xs) (hs : s = C.sz) (hc : xs.length ≤ c) : Rd C w (if c = k then A else A.map (·.add (k * s))) (xs.drop k) := by
  intro i hi
  rw [List.length_drop] at hi
  obtain ⟨q, hq, hr⟩ := h (k + i) (by omega)
  rw [if_neg (by omega), hq]
  refine ⟨_, rfl, fun j u hj => ?_⟩
  rw [List.getElem_drop] at hj
  have := hr j u hj
  rw [Addr.add_add', hs]
  rw [show k * C.sz + (i * C.sz + j) = (k + i) * C.sz + j by rw [Nat.add_mul]; omega]
  exact this
theorem Rd.take {A : Option Addr} {xs : List α} (h : Rd C w A xs) (k : Nat) : Rd C w A (xs.take k) := by
  intro i hi
  rw [List.length_take] at hi
  obtain ⟨q, hq, hr⟩ := h i (by omega)
  exact ⟨q, hq, fun j u hj => hr j u (by rw [List.getElem_take] at hj; exact hj)⟩
theorem Own.cap {c i : Nat} {A : Option Addr} {xs : List α} (hw : St w0 H w) (hp : pull i H = Option.some (Own T C A c xs, H')) : xs.length ≤ c := by
  obtain ⟨F, ho, hF⟩ := hw.get i hp
  rcases ho.2 with ⟨h1, h2⟩ | ⟨g, cap, cur, hvv, hbase, hh, hle, hmax, hcs, htake⟩
  · omega
  · have hcap : c = cap := by injection hvv
    omega
/-- A row that is owned, and looked at in part. -/
theorem Own.takeP {A : Option Addr} {c : Nat} {xs : List α} (k : Nat) : ∀ w F, (Own T C A c xs).P w F → (Own T C A c (xs.take k)).P w F := by
  rintro w F ⟨h, hF⟩
  have hfl : (xs.take k).flatMap C.enc = (xs.flatMap C.enc).take ((xs.take k).length * C.sz) := by
    have h1 : xs.flatMap C.enc = (xs.take k).flatMap C.enc ++ (xs.drop k).flatMap C.enc := by rw [← List.flatMap_append, List.take_append_drop]
    have h2 : ((xs.take k).flatMap C.enc).length = (xs.take k).length * C.sz := length_flatMap_enc C _
    rw [h1, ← h2, List.take_append_of_le_length (Nat.le_refl _), List.take_length]
  refine ⟨⟨by rw [length_flatMap_enc], ?_⟩, fun j => ?_⟩
  · rcases h.2 with ⟨h1, h2⟩ | ⟨g, cap, cur, hv, hg, hh, hle, hmax, hcs, htake⟩
    · have hx0 : xs = [] := List.eq_nil_of_length_eq_zero (by omega)
      subst hx0
      exact .inl ⟨by simpa using h1, by simp⟩
    · refine .inr ⟨g, cap, cur, ?_, hg, hh, ?_, hmax, hcs, ?_⟩
      · injection hv with h1 h2 h3
        rw [h1, h3]
      · rw [List.length_take]; omega
      · have h3 : (xs.take k).length * C.sz ≤ xs.length * C.sz := Nat.mul_le_mul_right _ (by rw [List.length_take]; omega)
        rw [hfl, ← htake, List.take_take, Nat.min_eq_left h3]
  · rw [hF j]
    cases A <;> simp [Value.ownBlock]
/-- clear of a part at the end. -/
theorem Ef.clearTail {x : Operand} {sz bytes c c2 n : Nat} {z : Value} {A : Option Addr} {xs : List α} {y : α} (i : Nat) (k : Nat) (ho : o.op = .call { callee := .builtin .clear, args := #[x], argTypes := #[T] }) (hT : P.underlying T = some (.slice e)) (hi : Inf P e sz bytes z) (hs : sz = C.sz) (hz : z.cells.toList = C.enc y)
    (hx : ev σ x = some (.slice (if c = k then A else A.map (·.add (k * sz))) (n - k) c2)) (hp : pull i H = some (Own e C A c xs, H')) (hn : n = xs.length) (hk : k ≤ xs.length) :
    Ef P w0 o σ H Q (fun v H'' => v = .tuple #[] ∧ H'' = repl i H (Own e C A c (xs.take k ++ List.replicate (xs.length - k) y))) := by
  subst hn
  intro w hw a ha
  have h1 := ha x (by simp [ho, Op.operands, Call.operands]) _ hx
  obtain ⟨i0, hi1, hi2, hi3, hi4⟩ := hi.parts
  subst hs
  by_cases hk0 : xs.length - k = 0
  · have hkk : k = xs.length := by omega
    have hr : (execOp a.eval o).run P w = .ok (.value (.tuple #[])) w := by
      rw [hk0] at h1
      cases hA : (if c = k then A else A.map (·.add (k * C.sz))) <;> rw [hA] at h1 <;> simp [execOp, ho, resolve, invoke, builtin, h1, Builtin.clear_, run_underlying hT]
    refine upon_ok hr ⟨_, _, rfl, hw.perm ?_, rfl, rfl⟩
    subst hkk
    rw [List.take_length, Nat.sub_self, List.replicate_zero, List.append_nil]
    exact (pull_perm hp).trans (repl_perm hp)
  · obtain ⟨F, ho', hF⟩ := hw.get i hp
    rcases ho'.2 with ⟨h3, h4⟩ | ⟨g, cap, cur, hvv, hbase, hh, hle, hmax, hcs, htake⟩
    · omega
    · have hA : A = some ⟨g, 0, none⟩ := by injection hvv
      have hcap : c = cap := by injection hvv
      subst hA
      have hck : ¬ c = k := by omega
      rw [if_neg hck] at h1
      have hcells : (Builtin.zeroCells z.cells (xs.length - k)).toList = (List.replicate (xs.length - k) y).flatMap C.enc := by
        have : Builtin.zeroCells z.cells (xs.length - k) = madeCells z.cells ((xs.length - k) * C.sz) := by
          have hsz : z.cells.size = C.sz := by rw [← Array.length_toList, hz, C.len]
          unfold Builtin.zeroCells madeCells
          rw [hsz]
        rw [this, made_eq C y z (xs.length - k) hz]
      have hlen : ((List.replicate (xs.length - k) y).flatMap C.enc).length = (xs.length - k) * C.sz := by rw [length_flatMap_enc, List.length_replicate]
      have hkc : k * C.sz + (xs.length - k) * C.sz ≤ cur.size := by
        rw [hcs, ← Nat.add_mul]
        exact Nat.mul_le_mul_right _ (by omega)
      have hst := run_storeCells_at P g (k * C.sz) e ((List.replicate (xs.length - k) y).flatMap C.enc) 0 cur w hh (by rw [hlen]; omega) (fun u hu => by obtain ⟨y', _, hy'⟩ := List.mem_flatMap.1 hu; exact C.one y' u hy')
      simp only [Nat.add_zero, hlen] at hst
      have hzr : (zeroValue e).run P w = .ok z w := by simp [zeroValue, typeInfo, hi1, hi2]
      obtain ⟨m, hm⟩ : ∃ m, xs.length - k = m + 1 := ⟨xs.length - k - 1, by omega⟩
      have hr : (execOp a.eval o).run P w = .ok (.value (.tuple #[])) (w.setRow g (cur.toList.take (k * C.sz) ++ (List.replicate (xs.length - k) y).flatMap C.enc ++ cur.toList.drop (k * C.sz + (xs.length - k) * C.sz)).toArray) := by
        simp only [Option.map_some, add_mk, Nat.zero_add] at h1
        have hb : (Builtin.clear_ #[T] o.type #[.slice (some ⟨g, k * C.sz, none⟩) (xs.length - k) c2]).run P w = .ok (.tuple #[]) (w.setRow g (cur.toList.take (k * C.sz) ++ (List.replicate (xs.length - k) y).flatMap C.enc ++ cur.toList.drop (k * C.sz + (xs.length - k) * C.sz)).toArray) := by
          have hst' := hst
          rw [← hcells] at hst' ⊢
          rw [hm] at hst' ⊢
          simp [Builtin.clear_, run_underlying hT, hzr, hst']
        simp [execOp, ho, resolve, invoke, builtin, h1, hb]
      refine upon_ok hr ⟨_, _, rfl, ?_, rfl, rfl⟩
      refine St.perm ?_ (repl_perm hp)
      refine (hw.perm (pull_perm hp)).upd (B := Own e C (some ⟨g, 0, none⟩) c (xs.take k ++ List.replicate (xs.length - k) y)) ?_
      rintro F2 ⟨ho2, hF2⟩ hb
      have hl : (xs.take k ++ List.replicate (xs.length - k) y).length = xs.length := by simp; omega
      refine ⟨⟨rfl, rfl, rfl, by simp [World.setRow], fun m' _ hm' => setRow_other w g m' _ (fun e1 => hm' ((hF2 m').2 (by subst e1; rfl))), Nat.le_refl _⟩, F2, ⟨⟨by rw [length_flatMap_enc], .inr ⟨g, cap, _, by rw [hl, hcap], Nat.zero_le _, setRow_heap w g cur _ e _ hh, by rw [hl]; omega, hmax, ?_, ?_⟩⟩, ?_⟩, ?_⟩
      · simp only [List.size_toArray, List.length_append, List.length_take, List.length_drop, Array.length_toList, hlen]
        omega
      · rw [hl, List.flatMap_append]
        have hfl : (xs.take k).flatMap C.enc = cur.toList.take (k * C.sz) := by
          have hk2 : k * C.sz ≤ xs.length * C.sz := Nat.mul_le_mul_right _ hk
          have e5 : cur.toList.take (k * C.sz) = (xs.flatMap C.enc).take (k * C.sz) := by rw [← htake, List.take_take, Nat.min_eq_left hk2]
          have h1 : xs.flatMap C.enc = (xs.take k).flatMap C.enc ++ (xs.drop k).flatMap C.enc := by rw [← List.flatMap_append, List.take_append_drop]
          have h2 : ((xs.take k).flatMap C.enc).length = k * C.sz := by rw [length_flatMap_enc, List.length_take, Nat.min_eq_left hk]
          rw [e5, h1, List.take_append_of_le_length (by rw [h2]; exact Nat.le_refl _)]
          exact (List.take_of_length_le (by rw [h2]; exact Nat.le_refl _)).symm
        rw [hfl]
        have hlt : (cur.toList.take (k * C.sz)).length = k * C.sz := by rw [List.length_take, Array.length_toList]; omega
        rw [List.toList_toArray]
        rw [List.take_append_of_le_length (by rw [List.length_append, hlt, hlen, ← Nat.add_mul]; exact Nat.mul_le_mul_right _ (by omega))]
        rw [List.take_of_length_le (by rw [List.length_append, hlt, hlen, ← Nat.add_mul]; exact Nat.mul_le_mul_right _ (by omega))]
      · intro m'
        rw [hF2 m', hl]
      · intro m' hm'
        exact ⟨.inl hm', by have := (hb m' hm').2; simpa [World.setRow] using this⟩
theorem Pu.cast {u v : Value} (e : u = v) (h : Pu P w0 o σ H u) : Pu P w0 o σ H v := e ▸ h
/-- Some rows are dropped. -/
theorem RowsA.sublist {ps qs : List (Sl × List α)} (h : qs.Sublist ps) : St w0 (RowsA T C ps :: H) w → St w0 (RowsA T C qs :: H) w := by
  induction h generalizing H with
  | slnil => exact id
  | cons p _ ih =>
    intro hw
    exact ih (RowsA.uncons (s := p.1) (xs := p.2) hw).2.tail
  | cons_cons p _ ih =>
    intro hw
    obtain ⟨h1, h2⟩ := RowsA.uncons (s := p.1) (xs := p.2) hw
    have h3 := ih (h2.perm (List.Perm.swap _ _ _))
    have h4 := RowsA.cons (h3.perm (List.Perm.swap _ _ _))
    have e : (⟨p.1.A, p.2.length, p.1.c⟩ : Sl) = p.1 := by rw [← h1]
    rw [e] at h4
    exact h4
theorem Sl.eta {s : Sl} {xs : List α} (h : s.n = xs.length) : (⟨s.A, xs.length, s.c⟩ : Sl) = s := by rw [← h]
end
/-! ### Arrays of three numbers, compared -/
section
variable {P : Program} {w0 w : World} {H : List Assn} {σ : Sig} {o : Oper}
theorem run_part_int {T : TypeId} (hT : P.underlying T = some (.int .i64)) (cs : Array Value) (j : Nat) (v : Value) (h : cs[j]? = some v) : (part T cs j).run P w = .ok v w := by
  have hp : plainT P T = true := by simp [plainT, hT]
  simp [part, run_isAgg_f hp, h]
theorem run_eq3 {T E : TypeId} (hT : P.underlying T = some (.array 3 E)) (hE : P.underlying E = some (.int .i64)) (hs : Sz P E 1) (a b : B3) (d : Nat) (w : World) : (Op.equalIn (d + 1 + 1) T (B3.v a) (B3.v b)).run P w = .ok (decide (a = b)) w := by
  obtain ⟨i, hi, hsz⟩ := Option.map_eq_some_iff.1 hs
  have hc : P.cellsOf E = 1 := by simp [Program.cellsOf, hi, hsz]
  unfold B3.v
  rw [run_equalIn_array w (d + 1) _ _ hT hi, hc]
  have r : List.range 3 = [0, 1, 2] := rfl
  have e0 : ∀ x y z : Value, (part E #[x, y, z] 0).run P w = .ok x w := fun x y z => run_part_int hE _ _ _ rfl
  have e1 : ∀ x y z : Value, (part E #[x, y, z] 1).run P w = .ok y w := fun x y z => run_part_int hE _ _ _ rfl
  have e2 : ∀ x y z : Value, (part E #[x, y, z] 2).run P w = .ok z w := fun x y z => run_part_int hE _ _ _ rfl
  have q : ∀ x y : Int, (Op.equalIn (d + 1) E (.int .i64 x) (.int .i64 y)).run P w = .ok (x == y) w := fun x y => run_equalIn_int w d E .i64 .i64 x y hE
  obtain ⟨a1, a2, a3⟩ := a
  obtain ⟨b1, b2, b3⟩ := b
  rw [r]
  simp only [Op.eqItems, Sem.run_bind, Nat.zero_mul, Nat.one_mul, Nat.mul_one, e0, e1, e2, q, Result.andThen_ok]
  by_cases h1 : a1 = b1
  · subst h1
    by_cases h2 : a2 = b2
    · subst h2
      by_cases h3 : a3 = b3
      · subst h3; simp [e0, e1, e2, q]
      · simp [h3, e0, e1, e2, q]
    · simp [h2, e0, e1, e2, q]
  · simp [h1, e0, e1, e2, q]
theorem guard3 {T : TypeId} {op : BinOp} {x y : Operand} {a b : B3} (hg : P.eqGuardType P.depth T = false) : (eqGuard op T x y (B3.v a) (B3.v b)).run P w = .ok () w := by
  unfold B3.v
  exact run_eqGuard_agg w op T x y _ _ hg
theorem Pu.eqlB3 {T T2 E : TypeId} {x y : Operand} {a b : B3} (hT : P.underlying T = some (.array 3 E)) (hE : P.underlying E = some (.int .i64)) (hs : Sz P E 1) (hg : P.eqGuardType P.depth T = false) (ho : o.op = .binOp .eql T x y T2) (hx : ev σ x = some (B3.v a)) (hy : ev σ y = some (B3.v b)) : Pu P w0 o σ H (.bool (decide (a = b))) := by
  intro w hw ac ha
  have h1 := ha x (by simp [ho, Op.operands]) _ hx
  have h2 := ha y (by simp [ho, Op.operands]) _ hy
  have hb : (Go.binOp .eql T (B3.v a) (B3.v b)).run P w = .ok (.bool (decide (a = b))) w := by
    have := run_eq3 hT hE hs a b 9998 w
    unfold B3.v at *
    rw [run_eql_struct, show (10000 : Nat) = 9998 + 1 + 1 from rfl, this]
    rfl
  simp only [execOp, ho, h1, h2, Sem.run_bind, guard3 hg, hb, Result.andThen_ok, Sem.run_pure]
theorem Pu.neqB3 {T T2 E : TypeId} {x y : Operand} {a b : B3} (hT : P.underlying T = some (.array 3 E)) (hE : P.underlying E = some (.int .i64)) (hs : Sz P E 1) (hg : P.eqGuardType P.depth T = false) (ho : o.op = .binOp .neq T x y T2) (hx : ev σ x = some (B3.v a)) (hy : ev σ y = some (B3.v b)) : Pu P w0 o σ H (.bool (!decide (a = b))) := by
  intro w hw ac ha
  have h1 := ha x (by simp [ho, Op.operands]) _ hx
  have h2 := ha y (by simp [ho, Op.operands]) _ hy
  have hb : (Go.binOp .neq T (B3.v a) (B3.v b)).run P w = .ok (.bool (!decide (a = b))) w := by
    have := run_eq3 hT hE hs a b 9998 w
    unfold B3.v at *
    rw [run_neq_struct, show (10000 : Nat) = 9998 + 1 + 1 from rfl, this]
    rfl
  simp only [execOp, ho, h1, h2, Sem.run_bind, guard3 hg, hb, Result.andThen_ok, Sem.run_pure]
end
theorem idxP_at {β : Type} {p : β → Prop} [DecidablePred p] {xs : List β} (h : ¬ idxP p xs = -1) : ∃ k, ∃ hk : k < xs.length, idxP p xs = (k : Int) ∧ p xs[k] ∧ ∀ j (hj : j < xs.length), j < k → ¬ p xs[j] := by
  by_cases hc : ∃ k, ∃ hk : k < xs.length, p xs[k]
  · obtain ⟨k, hk, h1⟩ := hc
    have key : ∀ n k (hk : k < xs.length), k ≤ n → p xs[k] → ∃ k, ∃ hk : k < xs.length, p xs[k] ∧ ∀ j (hj : j < xs.length), j < k → ¬ p xs[j] := by
      intro n
      induction n with
      | zero => intro k hk h0 h1; exact ⟨k, hk, h1, fun j hj h => by omega⟩
      | succ n ih =>
        intro k hk h0 h1
        by_cases h2 : ∃ j, ∃ hj : j < xs.length, j < k ∧ p xs[j]
        · obtain ⟨j, hj, h3, h4⟩ := h2
          exact ih j hj (by omega) h4
        · exact ⟨k, hk, h1, fun j hj h3 h4 => h2 ⟨j, hj, h3, h4⟩⟩
    obtain ⟨k, hk, h1, h2⟩ := key k k hk (Nat.le_refl _) h1
    exact ⟨k, hk, idxP_found hk h1 h2, h1, h2⟩
  · exact absurd (idxP_none (fun j hj hh => hc ⟨j, hj, hh⟩)) h
theorem idxP_not {β : Type} {p : β → Prop} [DecidablePred p] {xs : List β} (h : idxP p xs = -1) : ∀ j (hj : j < xs.length), ¬ p xs[j] := fun j hj hh => by
  have := (idxP_nonneg (p := p) (xs := xs)).2 ⟨_, List.getElem_mem hj, hh⟩
  omega
/-! ### What is kept -/
section
variable {β : Type} {p : β → Prop} [DecidablePred p] {ps : List β} {j : Nat}
def keptL (p : β → Prop) [DecidablePred p] (ps : List β) (j : Nat) : List β := (ps.take j).filter fun x => !decide (p x)
theorem keptL_le : (keptL p ps j).length ≤ j := Nat.le_trans (List.length_filter_le _ _) (by rw [List.length_take]; omega)
theorem keptL_yes (hj : j < ps.length) (h : p ps[j]) : keptL p ps (j + 1) = keptL p ps j := by
  unfold keptL
  rw [take_snoc hj, List.filter_append]
  simp [h]
theorem keptL_no (hj : j < ps.length) (h : ¬ p ps[j]) : keptL p ps (j + 1) = keptL p ps j ++ [ps[j]] := by
  unfold keptL
  rw [take_snoc hj, List.filter_append]
  simp [h]
theorem keptL_all (h : ∀ k (hk : k < ps.length), k < j → ¬ p ps[k]) (hj : j ≤ ps.length) : keptL p ps j = ps.take j := by
  induction j with
  | zero => simp [keptL]
  | succ j ih =>
    rw [keptL_no (by omega) (h j (by omega) (by omega)), ih (fun k hk hkj => h k hk (by omega)) (by omega), take_snoc (by omega)]
theorem keptL_end (hj : ps.length ≤ j) : keptL p ps j = ps.filter fun x => !decide (p x) := by unfold keptL; rw [List.take_of_length_le hj]
/-- The row while it is being moved together. -/
def movL (p : β → Prop) [DecidablePred p] (ps : List β) (j : Nat) : List β := keptL p ps j ++ ps.drop (keptL p ps j).length
theorem movL_len : (movL p ps j).length = ps.length := by
  have h1 : (keptL p ps j).length ≤ ps.length := Nat.le_trans (List.length_filter_le _ _) (by rw [List.length_take]; omega)
  unfold movL
  rw [List.length_append, List.length_drop]
  omega
theorem movL_get (hj : j < ps.length) (h2 : j < (movL p ps j).length) : (movL p ps j)[j] = ps[j] := by
  have := keptL_le (p := p) (ps := ps) (j := j)
  apply Option.some.inj
  rw [← List.getElem?_eq_getElem h2]
  unfold movL
  rw [List.getElem?_append_right this, List.getElem?_drop, show (keptL p ps j).length + (j - (keptL p ps j).length) = j by omega, List.getElem?_eq_getElem hj]
theorem movL_no (hj : j < ps.length) (h : ¬ p ps[j]) : (movL p ps j).set (keptL p ps j).length ps[j] = movL p ps (j + 1) := by
  have h1 := keptL_le (p := p) (ps := ps) (j := j)
  unfold movL
  rw [keptL_no hj h, List.set_append_right _ _ (Nat.le_refl _), Nat.sub_self, List.length_append, List.length_singleton, drop_cons (show (keptL p ps j).length < ps.length by omega), List.set_cons_zero, List.append_assoc]
  rfl
theorem movL_yes (hj : j < ps.length) (h : p ps[j]) : movL p ps j = movL p ps (j + 1) := by
  unfold movL
  rw [keptL_yes hj h]
theorem movL_start (h : ∀ k (hk : k < ps.length), k < j → ¬ p ps[k]) (hj : j < ps.length) (hp : p ps[j]) : ps = movL p ps (j + 1) ∧ (keptL p ps (j + 1)).length = j := by
  have e : keptL p ps (j + 1) = ps.take j := by rw [keptL_yes hj hp, keptL_all h (by omega)]
  unfold movL
  rw [e]
  rw [List.length_take, Nat.min_eq_left (by omega), List.take_append_drop]
  exact ⟨rfl, rfl⟩
theorem movL_take : (movL p ps j).take (keptL p ps j).length = keptL p ps j := by unfold movL; rw [List.take_append_of_le_length (Nat.le_refl _), List.take_length]
theorem keep_none (h : ∀ k (hk : k < ps.length), ¬ p ps[k]) : (ps.filter fun x => !decide (p x)) = ps := by
  refine List.filter_eq_self.2 fun x hx => ?_
  obtain ⟨k, hk, rfl⟩ := List.getElem_of_mem hx
  simp [h k hk]
end
end Go.Vc
/-
  Plain words: resolutions, by the numbers of their classes in a list.
-/
namespace Go.Vc

/-- Class j may come next, with the blocks that are left. -/
def okC (cl : List (List Int)) (left : List Int) (j : Nat) : Prop := (cl.getD j []).head? = left.head? ∧ ∀ k ∈ cl.getD j [], k ∈ left
noncomputable instance (cl : List (List Int)) (left : List Int) (j : Nat) : Decidable (okC cl left j) := Classical.propDecidable _
/-- The blocks that are left behind it. -/
def lessL (left c : List Int) : List Int := left.filter fun x => !decide (x ∈ c)
open Classical in
/-- All resolutions that go on, by the numbers of their classes. -/
noncomputable def resN (cl : List (List Int)) : Nat → List Int → List (List Nat)
  | 0, left => if left = [] then [[]] else []
  | n + 1, left => if left = [] then [[]] else (List.range cl.length).flatMap fun j => if okC cl left j then (resN cl n (lessL left (cl.getD j []))).map (j :: ·) else []
/-- .. of the first classes. -/
noncomputable def resJ (cl : List (List Int)) (n : Nat) (left : List Int) (j : Nat) : List (List Nat) := (List.range j).flatMap fun j => if okC cl left j then (resN cl n (lessL left (cl.getD j []))).map (j :: ·) else []
section
variable {cl : List (List Int)} {left : List Int} {n j m : Nat}
theorem resN_nil : resN cl n [] = [[]] := by cases n <;> simp [resN]
theorem resN_step (h : left ≠ []) : resN cl (n + 1) left = resJ cl n left cl.length := by simp [resN, resJ, h]
theorem resJ_zero : resJ cl n left 0 = [] := rfl
theorem resJ_yes (h : okC cl left j) : resJ cl n left (j + 1) = resJ cl n left j ++ (resN cl n (lessL left (cl.getD j []))).map (j :: ·) := by
  unfold resJ
  rw [List.range_succ, List.flatMap_append]
  simp [h]
theorem resJ_no (h : ¬ okC cl left j) : resJ cl n left (j + 1) = resJ cl n left j := by
  unfold resJ
  rw [List.range_succ, List.flatMap_append]
  simp [h]
theorem resJ_prefix {i : Nat} (h : i ≤ j) : resJ cl n left i <+: resJ cl n left j := by
  induction j with
  | zero => have : i = 0 := by omega
            subst this; exact List.prefix_refl _
  | succ j ih =>
    by_cases e : i = j + 1
    · subst e; exact List.prefix_refl _
    · refine (ih (by omega)).trans ?_
      by_cases hk : okC cl left j
      · rw [resJ_yes hk]; exact List.prefix_append _ _
      · rw [resJ_no hk]; exact List.prefix_refl _
theorem resJ_full (hj : j ≤ cl.length) (hm : m ≤ (resJ cl n left j).length) : (resJ cl n left cl.length).take m = (resJ cl n left j).take m := by
  obtain ⟨t, ht⟩ := resJ_prefix (cl := cl) (n := n) (left := left) hj
  rw [← ht, List.take_append_of_le_length hm]
theorem lessL_len {c : List Int} (hl : left ≠ []) (h : c.head? = left.head?) : (lessL left c).length < left.length := by
  cases left with
  | nil => exact absurd rfl hl
  | cons x l =>
    cases c with
    | nil => simp at h
    | cons y c =>
      simp only [List.head?_cons, Option.some.injEq] at h
      subst h
      unfold lessL
      rw [List.filter_cons_of_neg (by simp)]
      have := List.length_filter_le (fun z => !decide (z ∈ y :: c)) l
      simp only [List.length_cons]
      omega
theorem take_step {α β : Type} {R A : List α} {f : α → β} {B C : List β} {m k : Nat} (h : B = C ++ (R.take m).map f) (hl : B.length < C.length + m) (hk : k = C.length + m - B.length) : B ++ (A.take k).map f = C ++ ((R ++ A).take m).map f := by
  have h1 : B.length = C.length + min m R.length := by rw [h]; simp
  have h2 : R.length < m := by omega
  have h3 : R.take m = R := List.take_of_length_le (by omega)
  rw [h3] at h
  rw [h, List.take_append, h3, List.map_append, List.append_assoc]
  congr 4
  omega
theorem resJ_stop {β : Type} {f : List Nat → β} {B C : List β} {m : Nat} {n j : Nat} {left : List Int} (h : B = C ++ ((resJ cl n left j).take m).map f) (hl : C.length + m ≤ B.length) (hj : j ≤ cl.length) : B = C ++ ((resJ cl n left cl.length).take m).map f := by
  rw [h, resJ_full hj]
  have h1 : B.length = C.length + min m (resJ cl n left j).length := by rw [h]; simp
  omega
theorem okC_of {c : List Int} (hc : cl.getD j [] = c) (h0 : 0 < c.length) (hl : 0 < left.length) (e : c[0] = left[0]) (hn : ¬ ∃ i ∈ c, ¬ i ∈ left) : okC cl left j := by
  unfold okC
  rw [hc]
  refine ⟨?_, fun k hk => ?_⟩
  · rw [List.head?_eq_getElem?, List.head?_eq_getElem?, List.getElem?_eq_getElem h0, List.getElem?_eq_getElem hl, e]
  · by_cases h : k ∈ left
    · exact h
    · exact absurd ⟨k, hk, h⟩ hn
theorem okC_not1 {c : List Int} (hc : cl.getD j [] = c) (h0 : 0 < c.length) (hl : 0 < left.length) (e : ¬ c[0] = left[0]) : ¬ okC cl left j := by
  unfold okC
  rw [hc]
  rintro ⟨h, _⟩
  rw [List.head?_eq_getElem?, List.head?_eq_getElem?, List.getElem?_eq_getElem h0, List.getElem?_eq_getElem hl] at h
  exact e (Option.some.inj h)
theorem okC_not2 {c : List Int} (hc : cl.getD j [] = c) (hn : ∃ i ∈ c, ¬ i ∈ left) : ¬ okC cl left j := by
  unfold okC
  rw [hc]
  rintro ⟨_, h⟩
  obtain ⟨i, hi, h2⟩ := hn
  exact h2 (h i hi)
/-- The slices of a list of numbers of classes. -/
def topJ (tp : List Sl) (js : List Nat) : List Sl := js.map fun j => tp.getD j ⟨none, 0, 0⟩
theorem topJ_cons (tp : List Sl) (j : Nat) (js : List Nat) : topJ tp (j :: js) = tp.getD j ⟨none, 0, 0⟩ :: topJ tp js := rfl
theorem resN_pos (h : 0 < left.length) (hn : left.length ≤ n) : resN cl n left = resJ cl (n - 1) left cl.length := by
  obtain ⟨n, rfl⟩ : ∃ k, n = k + 1 := ⟨n - 1, by omega⟩
  rw [resN_step (by intro e; subst e; simp at h)]
  rfl
theorem res_step {tp : List Sl} {k : Nat} {co cout cr : List (List Sl)} {now nw : List Sl} {r1 : List Int} {cc : Sl} (hok : okC cl left j) (ho : co = cout ++ ((resJ cl n left j).take m).map (fun q => now ++ topJ tp q)) (hl : co.length < cout.length + m) (hk : k = cout.length + m - co.length) (hr1 : r1 = lessL left (cl.getD j [])) (hnw : nw = now ++ [cc]) (hcc : tp.getD j ⟨none, 0, 0⟩ = cc) (hcr : cr = co ++ ((resN cl n r1).take k).map (fun q => nw ++ topJ tp q)) : cr = cout ++ ((resJ cl n left (j + 1)).take m).map (fun q => now ++ topJ tp q) := by
  rw [resJ_yes hok, ← take_step (A := (resN cl n (lessL left (cl.getD j []))).map (j :: ·)) ho hl hk, hcr, hr1, ← List.map_take, List.map_map, hnw, ← hcc]
  congr 2
  funext q
  simp [topJ_cons]
theorem topJ_get {classes : List (Sl × List Int)} (hj : j < classes.length) (hn : LenOk classes) : (tops classes).getD j ⟨none, 0, 0⟩ = ⟨(classes[j]).1.A, (classes[j]).2.length, (classes[j]).1.c⟩ := by
  have h1 : j < (tops classes).length := by rw [tops_len]; exact hj
  rw [List.getD_eq_getElem?_getD, List.getElem?_eq_getElem h1, Option.getD_some, tops_get]
  have h2 := (hn _ (List.getElem_mem hj)).1
  rw [← h2]
/-- The numbers of the blocks that are such. -/
def numsAt (p : B3 → Prop) [DecidablePred p] (bs : List B3) (i : Nat) : List Int := ((List.range i).filter fun j => decide (p (bs.getD j (0, 0, 0)))).map fun (j : Nat) => (j : Int)
end
section
variable {p : B3 → Prop} [DecidablePred p] {bs : List B3} {i : Nat}
theorem numsAt_yes (hi : i < bs.length) (h : p bs[i]) : numsAt p bs (i + 1) = numsAt p bs i ++ [(i : Int)] := by
  have e : bs[i]?.getD (0, 0, 0) = bs[i] := by simp [hi]
  unfold numsAt
  rw [List.range_succ, List.filter_append, List.map_append]
  congr 1
  simp [List.filter_cons, e, h]
theorem numsAt_no (hi : i < bs.length) (h : ¬ p bs[i]) : numsAt p bs (i + 1) = numsAt p bs i := by
  have e : bs[i]?.getD (0, 0, 0) = bs[i] := by simp [hi]
  unfold numsAt
  rw [List.range_succ, List.filter_append, List.map_append]
  simp [List.filter_cons, e, h]
theorem numsAt_len : (numsAt p bs i).length ≤ i := by
  unfold numsAt
  rw [List.length_map]
  exact Nat.le_trans (List.length_filter_le _ _) (by simp)
end
/-! ### The blocks that are left, by bits -/
def leftM (m len : Nat) : List Int := ((List.range len).filter fun i => !m.testBit i).map fun (i : Nat) => (i : Int)
theorem mem_leftM {m len : Nat} {k : Int} : k ∈ leftM m len ↔ 0 ≤ k ∧ k < len ∧ m.testBit k.toNat = false := by
  unfold leftM
  simp only [List.mem_map, List.mem_filter, List.mem_range, Bool.not_eq_true']
  constructor
  · rintro ⟨i, ⟨h1, h2⟩, rfl⟩
    exact ⟨by omega, by omega, by simpa using h2⟩
  · rintro ⟨h1, h2, h3⟩
    exact ⟨k.toNat, ⟨by omega, h3⟩, by omega⟩
theorem leftM_len (m len : Nat) : (leftM m len).length ≤ len := by
  unfold leftM
  rw [List.length_map]
  exact Nat.le_trans (List.length_filter_le _ _) (by simp)
theorem leftM_nil {m len : Nat} (h : ∀ i, i < len → m.testBit i = true) : leftM m len = [] := by
  unfold leftM
  rw [List.map_eq_nil_iff, List.filter_eq_nil_iff]
  intro i hi
  simp [h i (List.mem_range.1 hi)]
theorem leftM_head {m len b : Nat} (hb : b < len) (h0 : m.testBit b = false) (h : ∀ i, i < b → m.testBit i = true) : (leftM m len).head? = some (b : Int) := by
  unfold leftM
  have e : List.range len = List.range b ++ b :: (List.range (len - b - 1)).map (b + 1 + ·) := by
    have h1 : len = b + (1 + (len - b - 1)) := by omega
    conv => lhs; rw [h1]
    rw [List.range_add, List.range_add]
    simp [List.range_succ, Nat.add_assoc, Nat.add_comm, Nat.add_left_comm]
  have h2 : (List.range b).filter (fun i => !m.testBit i) = [] := by
    rw [List.filter_eq_nil_iff]
    intro i hi
    simp [h i (List.mem_range.1 hi)]
  rw [e, List.filter_append, h2, List.nil_append, List.filter_cons]
  simp [h0]
theorem leftM_zero (len : Nat) : leftM 0 len = (List.range len).map fun (i : Nat) => (i : Int) := by
  unfold leftM
  congr 1
  rw [List.filter_eq_self]
  intro i _
  simp
theorem numsAt_all (bs : List B3) (i : Nat) : numsAt (fun _ => True) bs i = leftM 0 i := by
  rw [leftM_zero]
  unfold numsAt
  congr 1
  rw [List.filter_eq_self]
  intro i _
  simp
theorem maskL_bit {xs : List Int} (h : ∀ p ∈ xs, 0 ≤ p) (q : Nat) : (maskL xs).testBit q = true ↔ (q : Int) ∈ xs := by
  have key : ∀ (xs : List Int) (m : Nat), (∀ p ∈ xs, 0 ≤ p) → ((xs.foldl (fun m p => m ||| 2 ^ p.toNat) m).testBit q = true ↔ m.testBit q = true ∨ (q : Int) ∈ xs) := by
    intro xs
    induction xs with
    | nil => intro m _; simp
    | cons x xs ih =>
      intro m hx
      rw [List.foldl_cons, ih _ (fun p hp => hx p (by simp [hp]))]
      have := hx x (by simp)
      simp only [Nat.testBit_or, Nat.testBit_two_pow, Bool.or_eq_true, decide_eq_true_eq, List.mem_cons, or_assoc]
      have e : x.toNat = q ↔ (q : Int) = x := by omega
      rw [e]
  unfold maskL
  rw [key xs 0 h]
  simp
theorem maskL_lt' {xs : List Int} {n : Nat} (h : ∀ p ∈ xs, 0 ≤ p ∧ p < n) : maskL xs < 2 ^ n := by
  have key : ∀ (xs : List Int) (m : Nat), m < 2 ^ n → (∀ p ∈ xs, 0 ≤ p ∧ p < n) → xs.foldl (fun m p => m ||| 2 ^ p.toNat) m < 2 ^ n := by
    intro xs
    induction xs with
    | nil => intro m hm _; exact hm
    | cons x xs ih =>
      intro m hm hx
      rw [List.foldl_cons]
      have := hx x (by simp)
      exact ih _ (Nat.or_lt_two_pow hm (Nat.pow_lt_pow_right (by decide) (by omega))) (fun p hp => hx p (by simp [hp]))
  exact key xs 0 (Nat.two_pow_pos n) h
theorem leftM_or {m len : Nat} {c : List Int} (h : ∀ p ∈ c, 0 ≤ p) : leftM (m ||| maskL c) len = lessL (leftM m len) c := by
  unfold leftM lessL
  rw [List.filter_map, List.filter_filter]
  congr 1
  refine List.filter_congr fun i _ => ?_
  simp only [Nat.testBit_or, Function.comp, Bool.not_or]
  rw [Bool.and_comm]
  congr 1
  cases hb : (maskL c).testBit i with
  | true => simp [(maskL_bit h i).1 hb]
  | false =>
    have : ¬ (i : Int) ∈ c := fun hm => by rw [(maskL_bit h i).2 hm] at hb; cases hb
    simp [this]
theorem okC_mask {cl : List (List Int)} {m len b j : Nat} {c : List Int} (hc : cl.getD j [] = c) (h0 : 0 < c.length) (hix : ∀ p ∈ c, 0 ≤ p ∧ p < len) (hh : (leftM m len).head? = some (b : Int)) : okC cl (leftM m len) j ↔ c[0] = (b : Int) ∧ maskL c &&& m = 0 := by
  unfold okC
  rw [hc, hh, List.head?_eq_getElem?, List.getElem?_eq_getElem h0, Option.some_inj, and_zero]
  refine and_congr Iff.rfl ⟨fun h p hp => ?_, fun h k hk => ?_⟩
  · have h1 := (maskL_bit (fun p hp => (hix p hp).1) p).1 hp.1
    have h2 := (mem_leftM.1 (h _ h1)).2.2
    simp only [Int.toNat_natCast] at h2
    rw [h2] at hp
    exact Bool.noConfusion hp.2
  · obtain ⟨h1, h2⟩ := hix k hk
    refine mem_leftM.2 ⟨h1, h2, ?_⟩
    cases hb : m.testBit k.toNat with
    | false => rfl
    | true =>
      have h3 := (maskL_bit (fun p hp => (hix p hp).1) k.toNat).2 (by rw [Int.toNat_of_nonneg h1]; exact hk)
      exact absurd ⟨h3, hb⟩ (h k.toNat)
theorem resN_ix : ∀ {n : Nat} {left : List Int} {q : List Nat} {cl : List (List Int)}, q ∈ resN cl n left → ∀ j ∈ q, j < cl.length := by
  intro n
  induction n with
  | zero => intro left q cl h j hj; unfold resN at h; split at h <;> simp at h; subst h; simp at hj
  | succ n ih =>
    intro left q cl h j hj
    unfold resN at h
    split at h
    · simp at h; subst h; simp at hj
    · simp only [List.mem_flatMap, List.mem_range] at h
      obtain ⟨i, hi, h⟩ := h
      split at h
      · obtain ⟨q', h1, rfl⟩ := List.mem_map.1 h
        rcases List.mem_cons.1 hj with rfl | hj
        · exact hi
        · exact ih h1 j hj
      · simp at h
/-- The lists that numbers of classes lead to. -/
def psJ (cl : List (Sl × List Int)) (q : List Nat) : List (Sl × List Int) := q.map fun j => cl.getD j (⟨none, 0, 0⟩, [])
theorem psJ_tops (cl : List (Sl × List Int)) (q : List Nat) : tops (psJ cl q) = topJ (tops cl) q := by
  unfold tops psJ topJ
  rw [List.map_map]
  refine List.map_congr_left fun j _ => ?_
  simp only [Function.comp, List.getD_eq_getElem?_getD, List.getElem?_map]
  cases cl[j]? <;> rfl
theorem psJ_conts (cl : List (Sl × List Int)) (q : List Nat) : conts (psJ cl q) = q.map fun j => (conts cl).getD j [] := by
  unfold conts psJ
  rw [List.map_map]
  refine List.map_congr_left fun j _ => ?_
  simp only [Function.comp, List.getD_eq_getElem?_getD, List.getElem?_map]
  cases cl[j]? <;> rfl
theorem psJ_mem {cl : List (Sl × List Int)} {q : List Nat} (hq : ∀ j ∈ q, j < cl.length) : ∀ p ∈ psJ cl q, p ∈ cl := by
  intro p hp
  obtain ⟨j, hj, rfl⟩ := List.mem_map.1 hp
  have := hq j hj
  rw [List.getD_eq_getElem?_getD, List.getElem?_eq_getElem this, Option.getD_some]
  exact List.getElem_mem _
theorem RdL.psJ {w : Go.World} {A : Option Go.Addr} {cl : List (Sl × List Int)} {q : List Nat} (htop : Rd SlC w A (topJ (tops cl) q)) (hn : LenOk cl) (hr : ∀ p ∈ cl, Rd I64 w p.1.A p.2) (hq : ∀ j ∈ q, j < cl.length) : RdL I64 w A (Vc.psJ cl q) :=
  ⟨by rw [psJ_tops]; exact htop, fun p hp => hn p (psJ_mem hq p hp), fun k hk => hr _ (psJ_mem hq _ (List.getElem_mem hk))⟩
def RSol (v : Int) (bs : List B3) (most : Nat) (cl : List (Sl × List Int)) (rs : List (List Sl)) (code : Int) : Prop :=
  (¬ STS v bs → code = 1 ∧ rs = []) ∧ (STS v bs → IsList (Cls v bs) (conts cl) ∧ ((80 < cl.length ∧ code = 3 ∧ rs = []) ∨ (cl.length ≤ 80 ∧ code = 0 ∧ rs = ((resN (conts cl) bs.length (leftM 0 bs.length)).take most).map (topJ (tops cl)))))
/-- What comes first. -/
theorem rsol_first {v : Int} {bs : List B3} {most : Nat} {cl : List (Sl × List Int)} {rs : List (List Sl)} {code : Int} (h : RSol v bs most cl rs code) (hm : 0 < most) (hc : code = 0) (hr : 0 < rs.length) : STS v bs ∧ IsList (Cls v bs) (conts cl) ∧ cl.length ≤ 80 ∧ ∃ q r, resN (conts cl) bs.length (leftM 0 bs.length) = q :: r ∧ rs[0] = topJ (tops cl) q ∧ ∀ j ∈ q, j < cl.length := by
  by_cases hS : STS v bs
  · obtain ⟨h1, h2⟩ := h.2 hS
    rcases h2 with ⟨_, h3, _⟩ | ⟨h2, _, h3⟩
    · omega
    · cases hres : resN (conts cl) bs.length (leftM 0 bs.length) with
      | nil => rw [hres] at h3; simp at h3; subst h3; simp at hr
      | cons q r =>
        rw [hres] at h3
        obtain ⟨m, rfl⟩ : ∃ m, most = m + 1 := ⟨most - 1, by omega⟩
        refine ⟨hS, h1, h2, q, r, rfl, by subst h3; rfl, fun j hj => ?_⟩
        have := resN_ix (cl := conts cl) (n := bs.length) (left := leftM 0 bs.length) (q := q) (by rw [hres]; simp) j hj
        rwa [conts_len] at this
  · have := (h.1 hS).1
    omega
/-! ### The results -/
def CRes (v : Int) (bs : List B3) (n code : Int) : Prop :=
  (¬ STS v bs → n = 0 ∧ code = 1) ∧ (STS v bs → ∃ cl, IsList (Cls v bs) cl ∧ ((80 < cl.length ∧ n = 0 ∧ code = 3) ∨ (cl.length ≤ 80 ∧ 300 < (resN cl bs.length (leftM 0 bs.length)).length ∧ n = 0 ∧ code = 3) ∨ (cl.length ≤ 80 ∧ (resN cl bs.length (leftM 0 bs.length)).length ≤ 300 ∧ n = (resN cl bs.length (leftM 0 bs.length)).length ∧ code = 0)))
theorem CRes.unique {v : Int} {bs : List B3} {n n' code code' : Int} (h1 : CRes v bs n code) (h2 : CRes v bs n' code') : n' = n ∧ code' = code := by
  by_cases h : STS v bs
  · obtain ⟨l, a1, a2⟩ := h1.2 h
    obtain ⟨m, b1, b2⟩ := h2.2 h
    have e := a1.unique b1
    subst e
    omega
  · have := h1.1 h
    have := h2.1 h
    omega
noncomputable def fres (bs : List B3) (cl : List (List Int)) : List (List Int) × Int :=
  if 80 < cl.length then ([], 3) else match resN cl bs.length (leftM 0 bs.length) with
    | [] => ([], 4)
    | q :: _ => (q.map (fun j => cl.getD j []), 0)
def FRes (v : Int) (bs : List B3) (ls : List (List Int)) (code : Int) : Prop :=
  (¬ STS v bs → ls = [] ∧ code = 1) ∧ (STS v bs → ∃ cl, IsList (Cls v bs) cl ∧ (ls, code) = fres bs cl)
theorem FRes.unique {v : Int} {bs : List B3} {ls ls' : List (List Int)} {code code' : Int} (h1 : FRes v bs ls code) (h2 : FRes v bs ls' code') : ls' = ls ∧ code' = code := by
  by_cases h : STS v bs
  · obtain ⟨l, a1, a2⟩ := h1.2 h
    obtain ⟨m, b1, b2⟩ := h2.2 h
    have e := a1.unique b1
    subst e
    rw [← a2] at b2
    exact Prod.mk.injEq .. ▸ b2
  · have a := h1.1 h
    have b := h2.1 h
    exact ⟨by rw [a.1, b.1], by rw [a.2, b.2]⟩
theorem fres_limit {bs : List B3} {cl : List (List Int)} (h : 80 < cl.length) : fres bs cl = ([], 3) := if_pos h
theorem fres_none {bs : List B3} {cl : List (List Int)} (h : cl.length ≤ 80) (h2 : resN cl bs.length (leftM 0 bs.length) = []) : fres bs cl = ([], 4) := by
  unfold fres
  rw [if_neg (by omega), h2]
theorem fres_some {bs : List B3} {cl : List (List Int)} {q : List Nat} {r : List (List Nat)} (h : cl.length ≤ 80) (h2 : resN cl bs.length (leftM 0 bs.length) = q :: r) : fres bs cl = (q.map (fun j => cl.getD j []), 0) := by
  unfold fres
  rw [if_neg (by omega), h2]
theorem rsol_count {v : Int} {bs : List B3} {cl : List (Sl × List Int)} {rs : List (List Sl)} {code : Int} (h : RSol v bs 301 cl rs code) : CRes v bs (if code = 0 ∧ rs.length ≤ 300 then rs.length else 0) (if code = 0 then (if 300 < rs.length then 3 else 0) else code) := by
  refine ⟨fun hS => ?_, fun hS => ?_⟩
  · obtain ⟨h1, h2⟩ := h.1 hS
    subst h1
    simp
  · obtain ⟨h1, h2⟩ := h.2 hS
    refine ⟨conts cl, h1, ?_⟩
    rw [conts_len]
    rcases h2 with ⟨h2, h3, h4⟩ | ⟨h2, h3, h4⟩
    · subst h3; simp [h2]
    · subst h3
      have hl : rs.length = min 301 (resN (conts cl) bs.length (leftM 0 bs.length)).length := by rw [h4]; simp
      right
      by_cases hb : 300 < (resN (conts cl) bs.length (leftM 0 bs.length)).length
      · left
        refine ⟨h2, hb, ?_, ?_⟩
        · rw [if_neg (by omega)]
        · rw [if_pos rfl, if_pos (by omega)]
      · right
        refine ⟨h2, by omega, ?_, ?_⟩
        · rw [if_pos ⟨rfl, by omega⟩]; omega
        · rw [if_pos rfl, if_neg (by omega)]
theorem rsol_codes {v : Int} {bs : List B3} {most : Nat} {cl : List (Sl × List Int)} {rs : List (List Sl)} {code : Int} (h : RSol v bs most cl rs code) (hm : 0 < most) : (¬ code = 0 → FRes v bs [] code) ∧ (code = 0 → rs = [] → FRes v bs [] 4) := by
  by_cases hS : STS v bs
  · obtain ⟨h1, h2⟩ := h.2 hS
    refine ⟨fun hc => ⟨fun hn => absurd hS hn, fun _ => ⟨conts cl, h1, ?_⟩⟩, fun hc hr => ⟨fun hn => absurd hS hn, fun _ => ⟨conts cl, h1, ?_⟩⟩⟩
    · rcases h2 with ⟨h2, h3, h4⟩ | ⟨h2, h3, h4⟩
      · rw [fres_limit (by rw [conts_len]; exact h2), h3]
      · exact absurd h3 hc
    · rcases h2 with ⟨h2, h3, h4⟩ | ⟨h2, h3, h4⟩
      · omega
      · rw [fres_none (by rw [conts_len]; exact h2)]
        rw [hr] at h4
        cases hres : resN (conts cl) bs.length (leftM 0 bs.length) with
        | nil => rfl
        | cons q r =>
          rw [hres] at h4
          obtain ⟨m, rfl⟩ : ∃ m, most = m + 1 := ⟨most - 1, by omega⟩
          simp at h4
  · obtain ⟨h1, h2⟩ := h.1 hS
    refine ⟨fun _ => ⟨fun _ => ⟨rfl, h1⟩, fun hn => absurd hn hS⟩, fun hc => by omega⟩
theorem resN_len : ∀ {n : Nat} {left : List Int} {q : List Nat} {cl : List (List Int)}, q ∈ resN cl n left → q.length ≤ n := by
  intro n
  induction n with
  | zero => intro left q cl h; unfold resN at h; split at h <;> simp at h; subst h; simp
  | succ n ih =>
    intro left q cl h
    unfold resN at h
    split at h
    · simp at h; subst h; simp
    · simp only [List.mem_flatMap, List.mem_range] at h
      obtain ⟨i, hi, h⟩ := h
      split at h
      · obtain ⟨q', h1, rfl⟩ := List.mem_map.1 h
        have := ih h1
        simp only [List.length_cons]
        omega
      · simp at h
theorem psJ_len (cl : List (Sl × List Int)) (q : List Nat) : (psJ cl q).length = q.length := by simp [psJ]
theorem cls_len5 {v : Int} {bs : List B3} (hS : STS v bs) {c : List Int} (h : Cls v bs c) : 0 < c.length ∧ c.length ≤ 5 := by
  have h1 := (cls_count hS.good (by have := hS.lo; omega) c).1 h
  have := hS.lo
  have := hS.hi
  omega
theorem fres_small {v : Int} {bs : List B3} {ls : List (List Int)} {code : Int} (h : FRes v bs ls code) : (∀ q ∈ ls, q.length ≤ 5) ∧ ls.length ≤ 35 := by
  by_cases hS : STS v bs
  · obtain ⟨cl, h1, h2⟩ := h.2 hS
    unfold fres at h2
    split at h2
    · simp at h2; rw [h2.1]; simp
    · split at h2
      · simp at h2; rw [h2.1]; simp
      · rename_i q r hres
        simp only [Prod.mk.injEq] at h2
        rw [h2.1]
        have hq := resN_len (cl := cl) (n := bs.length) (left := leftM 0 bs.length) (q := q) (by rw [hres]; simp)
        have := hS.few
        refine ⟨fun c hc => ?_, by rw [List.length_map]; omega⟩
        obtain ⟨j, _, rfl⟩ := List.mem_map.1 hc
        rw [List.getD_eq_getElem?_getD]
        cases hg : cl[j]? with
        | none => simp
        | some c =>
          simp only [Option.getD_some]
          exact (cls_len5 hS ((h1.2 c).1 (List.mem_of_getElem? hg))).2
  · have := (h.1 hS).1
    subst this
    simp
theorem Ld.psJ {w0 : Go.World} {H H' H2 : List Assn} {T T2 : Go.TypeId} {ps : List (Sl × List Sl)} {cl : List (Sl × List Int)} {q : List Nat} (i j : Nat) (hp : pull i H = some (RowsA T SlC ps, H')) (hq : pull j H = some (RowsA T2 I64 cl, H2)) (e0 : 0 < ps.length) (hr0 : (ps[0]).2 = tops (Vc.psJ cl q)) (hn : LenOk cl) (hqix : ∀ j ∈ q, j < cl.length) : ∀ w, St w0 H w → RdL I64 w (ps[0]).1.A (Vc.psJ cl q) :=
  fun w hw => RdL.psJ (by rw [← psJ_tops, ← hr0]; exact Ld.rows i hp e0 w hw) hn (fun p hp' => (RowsA.rd hw hq hp').2) hqix
end Go.Vc
/-
  Plain words: completions, by the bits of the pairs that are used.
-/
namespace Go.Vc

theorem blt_no {a b : Nat} (h : ¬ a < b) : Nat.blt a b = false := by
  cases hh : Nat.blt a b with
  | false => rfl
  | true => rw [Nat.blt_eq] at hh; exact absurd hh h
/-- The number of a pair. -/
def prI (a b : Nat) : Nat := min a b * 16 + max a b
def usd (m a b : Nat) : Bool := m.testBit (prI a b)
def putM (m a b c : Nat) : Nat := m ||| 2 ^ prI a b ||| 2 ^ prI a c ||| 2 ^ prI b c
/-- The first pair that is left. -/
def rowN (v m a : Nat) : Option Nat := (List.range v).find? fun b => Nat.blt a b && !usd m a b
def nextM (v m : Nat) : Option (Nat × Nat) := (List.range v).findSome? fun a => (rowN v m a).map fun b => (a, b)
def may (m a b c : Nat) : Bool := Nat.blt b c && !usd m a c && !usd m b c
def b3N (a b c : Nat) : B3 := ((a : Int), (b : Int), (c : Int))
/-- All completions, each as the blocks that are put in. -/
def compM : Nat → Nat → Nat → List (List B3)
  | 0, v, m => match nextM v m with
    | none => [[]]
    | some _ => []
  | n + 1, v, m => match nextM v m with
    | none => [[]]
    | some (a, b) => (List.range v).flatMap fun c => if may m a b c then (compM n v (putM m a b c)).map (b3N a b c :: ·) else []
def compJ (n v m a b c : Nat) : List (List B3) := (List.range c).flatMap fun c => if may m a b c then (compM n v (putM m a b c)).map (b3N a b c :: ·) else []
/-- How many. -/
def cntM : Nat → Nat → Nat → Nat
  | 0, v, m => match nextM v m with
    | none => 1
    | some _ => 0
  | n + 1, v, m => match nextM v m with
    | none => 1
    | some (a, b) => (List.range v).foldl (fun s c => if may m a b c then s + cntM n v (putM m a b c) else s) 0
theorem len_flatMap {α β : Type} (l : List α) (f : α → List β) : (l.flatMap f).length = l.foldl (fun s x => s + (f x).length) 0 := by
  have key : ∀ (l : List α) (k : Nat), l.foldl (fun s x => s + (f x).length) k = k + (l.flatMap f).length := by
    intro l
    induction l with
    | nil => intro k; simp
    | cons x l ih => intro k; simp only [List.foldl_cons, List.flatMap_cons, List.length_append]; rw [ih]; omega
  rw [key]
  omega
theorem cntM_eq : ∀ n v m, (compM n v m).length = cntM n v m := by
  intro n
  induction n with
  | zero => intro v m; unfold compM cntM; split <;> rfl
  | succ n ih =>
    intro v m
    unfold compM cntM
    split
    · rfl
    · rw [len_flatMap]
      congr 1
      funext s c
      split
      · rw [List.length_map, ih]
      · simp
section
variable {v m a b c n : Nat}
structure IsNext (v m a b : Nat) : Prop where
  ab : a < b
  bv : b < v
  left : usd m a b = false
  row : ∀ y, a < y → y < b → usd m a y = true
  rows : ∀ x y, x < a → x < y → y < v → usd m x y = true
theorem rowN_none (h : ∀ y, a < y → y < v → usd m a y = true) : rowN v m a = none := by
  unfold rowN
  rw [List.find?_eq_none]
  intro y hy
  have := List.mem_range.1 hy
  simp only [Bool.and_eq_true, Nat.blt_eq, Bool.not_eq_true', not_and, Bool.not_eq_false]
  exact fun h1 => h y h1 this
theorem rowN_some (h1 : a < b) (h2 : b < v) (h3 : usd m a b = false) (h4 : ∀ y, a < y → y < b → usd m a y = true) : rowN v m a = some b := by
  unfold rowN
  rw [List.find?_range_eq_some]
  refine ⟨by simp [h1, h3], List.mem_range.2 h2, fun y hy => ?_⟩
  by_cases e : a < y
  · simp [h4 y e hy]
  · simp [blt_no e]
theorem nextM_none (h : ∀ x y, x < y → y < v → usd m x y = true) : nextM v m = none := by
  unfold nextM
  rw [List.findSome?_eq_none_iff]
  intro x hx
  rw [rowN_none (fun y h1 h2 => h x y h1 h2)]
  rfl
theorem findSome_range {α : Type} {f : Nat → Option α} {n k : Nat} {r : α} (hk : k < n) (hr : f k = some r) (hn : ∀ j, j < k → f j = none) : (List.range n).findSome? f = some r := by
  have e : List.range n = List.range k ++ k :: (List.range (n - k - 1)).map (k + 1 + ·) := by
    have h1 : n = k + (1 + (n - k - 1)) := by omega
    conv => lhs; rw [h1]
    rw [List.range_add, List.range_add]
    simp [List.range_succ, Nat.add_assoc, Nat.add_comm, Nat.add_left_comm]
  rw [e, List.findSome?_append]
  have h2 : (List.range k).findSome? f = none := by
    rw [List.findSome?_eq_none_iff]
    exact fun x hx => hn x (List.mem_range.1 hx)
  rw [h2]
  simp [hr]
theorem nextM_some (h : IsNext v m a b) : nextM v m = some (a, b) := by
  unfold nextM
  refine findSome_range (k := a) (Nat.lt_trans h.ab h.bv) ?_ ?_
  · rw [rowN_some h.ab h.bv h.left h.row]
    rfl
  · intro x hx
    rw [rowN_none (fun y h1 h2 => h.rows x y hx h1 h2)]
    rfl
theorem compM_none (h : nextM v m = none) : compM n v m = [[]] := by
  cases n <;> simp [compM, h]
theorem compM_some (h : nextM v m = some (a, b)) : compM (n + 1) v m = compJ n v m a b v := by
  simp [compM, compJ, h]
theorem compJ_zero : compJ n v m a b 0 = [] := rfl
theorem compJ_yes (h : may m a b c = true) : compJ n v m a b (c + 1) = compJ n v m a b c ++ (compM n v (putM m a b c)).map (b3N a b c :: ·) := by
  unfold compJ
  rw [List.range_succ, List.flatMap_append]
  simp [h]
theorem compJ_no (h : may m a b c = false) : compJ n v m a b (c + 1) = compJ n v m a b c := by
  unfold compJ
  rw [List.range_succ, List.flatMap_append]
  simp [h]
theorem compJ_low (h : c ≤ b + 1) : compJ n v m a b c = [] := by
  induction c with
  | zero => rfl
  | succ c ih =>
    rw [compJ_no, ih (by omega)]
    unfold may
    have : Nat.blt b c = false := blt_no (by omega)
    simp [this]
theorem compJ_prefix {i : Nat} (h : i ≤ c) : compJ n v m a b i <+: compJ n v m a b c := by
  induction c with
  | zero => have : i = 0 := by omega
            subst this; exact List.prefix_refl _
  | succ c ih =>
    by_cases e : i = c + 1
    · subst e; exact List.prefix_refl _
    · refine (ih (by omega)).trans ?_
      cases hk : may m a b c with
      | true => rw [compJ_yes hk]; exact List.prefix_append _ _
      | false => rw [compJ_no hk]; exact List.prefix_refl _
/-! ### Pairs -/
theorem prI_comm (a b : Nat) : prI a b = prI b a := by unfold prI; rw [Nat.min_comm, Nat.max_comm]
theorem usd_comm (m a b : Nat) : usd m a b = usd m b a := by unfold usd; rw [prI_comm]
theorem prI_inj {x y : Nat} (ha : a < 16) (hb : b < 16) (hx : x < 16) (hy : y < 16) (h : prI a b = prI x y) : (a = x ∧ b = y) ∨ (a = y ∧ b = x) := by
  unfold prI at h
  omega
theorem usd_put {x y : Nat} (ha : a < 16) (hb : b < 16) (hc : c < 16) (hx : x < 16) (hy : y < 16) : usd (putM m a b c) x y = true ↔ usd m x y = true ∨ ((x = a ∧ y = b) ∨ (x = b ∧ y = a)) ∨ ((x = a ∧ y = c) ∨ (x = c ∧ y = a)) ∨ ((x = b ∧ y = c) ∨ (x = c ∧ y = b)) := by
  unfold usd putM
  simp only [Nat.testBit_or, Nat.testBit_two_pow, Bool.or_eq_true, decide_eq_true_eq]
  have h1 : prI a b = prI x y ↔ (x = a ∧ y = b) ∨ (x = b ∧ y = a) := ⟨fun h => by have := prI_inj ha hb hx hy h; omega, by rintro (⟨rfl, rfl⟩ | ⟨rfl, rfl⟩); rfl; exact prI_comm _ _⟩
  have h2 : prI a c = prI x y ↔ (x = a ∧ y = c) ∨ (x = c ∧ y = a) := ⟨fun h => by have := prI_inj ha hc hx hy h; omega, by rintro (⟨rfl, rfl⟩ | ⟨rfl, rfl⟩); rfl; exact prI_comm _ _⟩
  have h3 : prI b c = prI x y ↔ (x = b ∧ y = c) ∨ (x = c ∧ y = b) := ⟨fun h => by have := prI_inj hb hc hx hy h; omega, by rintro (⟨rfl, rfl⟩ | ⟨rfl, rfl⟩); rfl; exact prI_comm _ _⟩
  rw [h1, h2, h3]
  simp only [or_assoc]
/-- How many pairs are left. -/
def prs (v : Nat) : List (Nat × Nat) := (List.range v).flatMap fun a => (List.range v).map fun b => (a, b)
def leftN (v m : Nat) : Nat := ((prs v).filter fun p => Nat.blt p.1 p.2 && !usd m p.1 p.2).length
theorem mem_prs {p : Nat × Nat} : p ∈ prs v ↔ p.1 < v ∧ p.2 < v := by
  unfold prs
  simp only [List.mem_flatMap, List.mem_range, List.mem_map]
  constructor
  · rintro ⟨x, hx, y, hy, rfl⟩; exact ⟨hx, hy⟩
  · rintro ⟨h1, h2⟩; exact ⟨p.1, h1, p.2, h2, rfl⟩
theorem filter_lt {α : Type} {l : List α} {p q : α → Bool} (h : ∀ x ∈ l, q x = true → p x = true) {x : α} (hx : x ∈ l) (hp : p x = true) (hq : q x = false) : (l.filter q).length < (l.filter p).length := by
  induction l with
  | nil => simp at hx
  | cons y l ih =>
    have hle : (l.filter q).length ≤ (l.filter p).length := by
      clear ih hx
      induction l with
      | nil => simp
      | cons z l ih2 =>
        have h1 := h z (by simp)
        have h2 := ih2 (fun x hx => h x (by simp at hx ⊢; rcases hx with h | h <;> simp [h]))
        simp only [List.filter_cons]
        cases hqz : q z <;> cases hpz : p z <;> simp_all <;> omega
    simp only [List.filter_cons]
    by_cases e : x = y
    · subst e
      simp [hp, hq]
      omega
    · have hm : x ∈ l := by simp at hx; rcases hx with h | h; exact absurd h e; exact h
      have := ih (fun x hx => h x (by simp [hx])) hm
      have h1 := h y (by simp)
      cases hqy : q y <;> cases hpy : p y <;> simp_all <;> omega
theorem leftN_put (ha : a < 16) (hb : b < 16) (hc : c < 16) (hv : v ≤ 16) (hab : a < b) (hbv : b < v) (hu : usd m a b = false) : leftN v (putM m a b c) < leftN v m := by
  unfold leftN
  refine filter_lt (x := (a, b)) ?_ (mem_prs.2 ⟨by omega, hbv⟩) (by simp [hab, hu]) ?_
  · rintro ⟨x, y⟩ hxy h
    obtain ⟨h1, h2⟩ := mem_prs.1 hxy
    simp only [Bool.and_eq_true, Bool.not_eq_true'] at h ⊢
    refine ⟨h.1, ?_⟩
    cases hux : usd m x y with
    | false => rfl
    | true =>
      have := (usd_put (m := m) ha hb hc (x := x) (y := y) (by simp at h1; omega) (by simp at h2; omega)).2 (.inl hux)
      rw [this] at h
      simp at h
  · have := (usd_put (m := m) ha hb hc ha hb).2 (.inr (.inl (.inl ⟨rfl, rfl⟩)))
    simp [this]
theorem leftN_zero (h : leftN v m = 0) : ∀ x y, x < y → y < v → usd m x y = true := by
  intro x y h1 h2
  unfold leftN at h
  have h3 := List.eq_nil_of_length_eq_zero h
  rw [List.filter_eq_nil_iff] at h3
  have := h3 (x, y) (mem_prs.2 ⟨by simp; omega, h2⟩)
  simp only [Bool.and_eq_true, Nat.blt_eq, Bool.not_eq_true', not_and, Bool.not_eq_false] at this
  exact this h1
end
end Go.Vc
/-
  Plain words: completions, by the table of third points; a list that is handed on one by one till it is enough.
-/
namespace Go.Vc
section
variable {v m a b c n : Nat} {G : Int → Int → Int}
/-- The pairs that the table has. -/
def Rel (v : Nat) (G : Int → Int → Int) (m : Nat) : Prop := ∀ x y : Nat, x < v → y < v → x ≠ y → (G x y = -1 ↔ usd m x y = false)
theorem b3N_three (h1 : a < b) (h2 : b < c) : three (b3N a b c) := by unfold three b3N; simp only; omega
theorem rel_left (h : Rel v G m) (h1 : a < b) (h2 : b < c) (h3 : c < v) (hu : usd m a b = false) : isLeft G (b3N a b c) ↔ may m a b c = true := by
  unfold isLeft may b3N
  simp only
  rw [h a b (by omega) (by omega) (by omega), h a c (by omega) (by omega) (by omega), h b c (by omega) (by omega) (by omega)]
  have : Nat.blt b c = true := by rw [Nat.blt_eq]; exact h2
  simp [this, hu]
theorem has_b3N {x : Nat} : has (b3N a b c) x ↔ x = a ∨ x = b ∨ x = c := by
  unfold has b3N
  simp only
  omega
theorem usd_putN {x y : Nat} (ha : a < b) (hb : b < c) (hc : c < 16) (hx : x < 16) (hy : y < 16) (hne : x ≠ y) : usd (putM m a b c) x y = false ↔ usd m x y = false ∧ ¬ (has (b3N a b c) x ∧ has (b3N a b c) y) := by
  have h := usd_put (m := m) (a := a) (b := b) (c := c) (by omega) (by omega) hc hx hy
  rw [has_b3N, has_b3N]
  constructor
  · intro h1
    have h2 : ¬ (usd (putM m a b c) x y = true) := by rw [h1]; decide
    rw [h] at h2
    refine ⟨?_, ?_⟩
    · cases hm : usd m x y with
      | false => rfl
      | true => exact absurd (.inl hm) h2
    · omega
  · rintro ⟨h1, h2⟩
    cases hm : usd (putM m a b c) x y with
    | false => rfl
    | true =>
      have h3 := h.1 hm
      rw [h1] at h3
      rcases h3 with h3 | h3
      · exact absurd h3 (by decide)
      · omega
theorem rel_put (h : Rel v G m) (ha : a < b) (hb : b < c) (hc : c < v) (hv : v ≤ 15) : Rel v (tabPut G (b3N a b c)) (putM m a b c) := by
  intro x y hx hy hne
  rw [tabPut_left (b3N_three ha hb), usd_putN ha hb (by omega) (by omega) (by omega) hne, h x y hx hy hne]
  constructor
  · rintro ⟨h1, h2⟩; exact ⟨h1, fun h3 => h2 ⟨h3.1, h3.2, by omega⟩⟩
  · rintro ⟨h1, h2⟩; exact ⟨h1, fun h3 => h2 ⟨h3.1, h3.2.1⟩⟩
theorem tabDel_left {b : B3} (x y : Int) (hne : x ≠ y) : tabDel G b x y = -1 ↔ (has b x ∧ has b y) ∨ G x y = -1 := by
  unfold tabDel gset has
  repeat' split
  all_goals first | (constructor <;> intro h <;> first | trivial | (left; omega)) | skip
  all_goals
    constructor
    · intro h; exact .inr h
    · rintro (h | h)
      · omega
      · exact h
theorem rel_del (h : Rel v G (putM m a b c)) (ha : a < b) (hb : b < c) (hc : c < v) (hv : v ≤ 15) (hu : usd m a b = false) (hm : may m a b c = true) : Rel v (tabDel G (b3N a b c)) m := by
  have hm' : usd m a c = false ∧ usd m b c = false := by unfold may at hm; simp only [Bool.and_eq_true, Bool.not_eq_true'] at hm; exact ⟨hm.1.2, hm.2⟩
  intro x y hx hy hne
  rw [tabDel_left _ _ (by omega), h x y hx hy hne, usd_putN ha hb (by omega) (by omega) (by omega) hne]
  constructor
  · rintro (⟨h1, h2⟩ | h1)
    · rw [has_b3N] at h1 h2
      rcases h1 with rfl | rfl | rfl <;> rcases h2 with rfl | rfl | rfl <;> first | exact absurd rfl hne | exact hu | exact hm'.1 | exact hm'.2 | (rw [usd_comm]; first | exact hu | exact hm'.1 | exact hm'.2)
    · exact h1.1
  · intro h1
    by_cases h2 : has (b3N a b c) x ∧ has (b3N a b c) y
    · exact .inl h2
    · exact .inr ⟨h1, h2⟩
theorem rel_nil : Rel v (fun _ _ => -1) 0 := by intro x y _ _ _; simp [usd]
/-! ### Handed on one by one -/
variable {α β : Type}
/-- What is handed on of a list, k being there already: till it is told to stop. -/
def runC (cont : Nat → Bool) : Nat → List α → List α
  | _, [] => []
  | k, x :: r => if cont (k + 1) then x :: runC cont (k + 1) r else [x]
def goesC (cont : Nat → Bool) : Nat → List α → Bool
  | _, [] => true
  | k, _ :: r => cont (k + 1) && goesC cont (k + 1) r
variable {cont : Nat → Bool} {k : Nat}
theorem runC_all {l : List α} (h : goesC cont k l = true) : runC cont k l = l := by
  induction l generalizing k with
  | nil => rfl
  | cons x r ih =>
    unfold goesC at h
    rw [Bool.and_eq_true] at h
    unfold runC
    rw [if_pos h.1, ih h.2]
theorem goesC_append {l r : List α} : goesC cont k (l ++ r) = (goesC cont k l && goesC cont (k + l.length) r) := by
  induction l generalizing k with
  | nil => simp [goesC]
  | cons x l ih =>
    simp only [List.cons_append, goesC, ih, List.length_cons, Bool.and_assoc]
    rw [show k + 1 + l.length = k + (l.length + 1) by omega]
theorem runC_append {l r : List α} (h : goesC cont k l = true) : runC cont k (l ++ r) = l ++ runC cont (k + l.length) r := by
  induction l generalizing k with
  | nil => rfl
  | cons x l ih =>
    unfold goesC at h
    rw [Bool.and_eq_true] at h
    simp only [List.cons_append]
    rw [runC, if_pos h.1, ih h.2, List.length_cons, show k + 1 + l.length = k + (l.length + 1) by omega]
theorem runC_stop {l r : List α} (h : goesC cont k l = false) : runC cont k (l ++ r) = runC cont k l := by
  induction l generalizing k with
  | nil => simp [goesC] at h
  | cons x l ih =>
    simp only [List.cons_append, runC]
    by_cases hc : cont (k + 1) = true
    · rw [if_pos hc, if_pos hc]
      unfold goesC at h
      rw [hc, Bool.true_and] at h
      rw [ih h]
    · rw [if_neg hc, if_neg hc]
theorem goesC_stop {l r : List α} (h : goesC cont k l = false) : goesC cont k (l ++ r) = false := by rw [goesC_append, h]; rfl
theorem goesC_map {f : α → β} {l : List α} : goesC cont k (l.map f) = goesC cont k l := by
  induction l generalizing k with
  | nil => rfl
  | cons x r ih => simp [goesC, ih]
theorem runC_le {l : List α} : (runC cont k l).length ≤ l.length := by
  induction l generalizing k with
  | nil => simp [runC]
  | cons x r ih =>
    unfold runC
    split
    · simp only [List.length_cons]
      have := ih (k := k + 1)
      omega
    · simp
theorem goesC_true {l : List α} : goesC (fun _ => true) k l = true := by
  induction l generalizing k with
  | nil => rfl
  | cons x r ih => simp [goesC, ih]
/-- The completions, behind blocks. -/
def leaf (xs : List B3) (l : List (List B3)) : List (List B3) := l.map (xs ++ ·)
theorem leaf_append {xs : List B3} {l r : List (List B3)} : leaf xs (l ++ r) = leaf xs l ++ leaf xs r := List.map_append ..
theorem leaf_cons {xs : List B3} {b : B3} {l : List (List B3)} : leaf xs (l.map (b :: ·)) = leaf (xs ++ [b]) l := by
  unfold leaf
  rw [List.map_map]
  refine List.map_congr_left fun x _ => ?_
  simp
theorem leaf_len {xs : List B3} {l : List (List B3)} : (leaf xs l).length = l.length := List.length_map ..
end
end Go.Vc
/-
  The calculus, part 13: a store behind which less is known; a call of a value that turns memory.
-/
namespace Go.Vc
open Go Go.RowKit
section
variable {P : Program} {N : Nat} {w0 : World} {Q : Exit → Act → World → Prop} {σ σ' : Sig} {H H' Hs Hs' : List Assn} {ops : Array Oper}
def coverB (ops : Array Oper) (done free : List Nat) (o : Oper) : Bool := done.all fun i => (afters o).contains i || free.contains i
/-- A store: what has been read before may change, if those who read it are listed. -/
theorem D.effX (hwf : wfB ops = true) {effs done : List Nat} {e : Nat} {o : Oper} {K : Value → List Assn → Prop} (ho : ops[e]? = some o) (hne' : (done.contains e || !strictB ops e) = false) (hcl : closedB ops done e = true) (hg : o.guard = none)
    (hp : Ef P w0 o σ H Q K) (hd : o.dst = none) (free : List Nat) (hfree : coverB ops done free o = true) (hfreeD : ∀ i ∈ free, ∃ d v, look σ d = some v ∧ Nat.blt d N = true ∧ Det P w0 ops Q i σ Hs' d v)
    (h : ∀ v H', K v H' → (∀ w, St w0 H' w → St w0 Hs' w) ∧ D P N w0 ops Q (e :: afters o) (e :: done) σ Hs' H') : D P N w0 ops Q effs done σ Hs H := by
  have hne := (new_of hne').1
  have hcov : ∀ i ∈ done, i ∈ afters o ∨ i ∈ free := by
    intro i hi
    have := List.all_eq_true.1 hfree i hi
    simpa using this
  intro fuel
  induction fuel with
  | zero =>
    intro L a w hI hf
    exfalso
    have hel : e < L.size := by rw [hI.size]; exact (Array.getElem?_eq_some_iff.1 ho).1
    cases hv : L[e] with
    | true =>
      have := hI.listed e (by rw [Array.getElem?_eq_getElem hel, hv])
      simp [this] at hne
    | false =>
      have hmem : false ∈ L.toList := by
        rw [← hv]
        simp
      have : 0 < L.toList.countP (fun b => !b) := List.countP_pos_iff.2 ⟨false, hmem, rfl⟩
      omega
  | succ fuel ih =>
    intro L a w hI hf
    have hel : e < L.size := by rw [hI.size]; exact (Array.getElem?_eq_some_iff.1 ho).1
    have hLe : L[e]? = some false := by
      rw [Array.getElem?_eq_getElem hel]
      cases hv : L[e] with
      | true =>
        have := hI.listed e (by rw [Array.getElem?_eq_getElem hel, hv])
        simp [this] at hne
      | false => rfl
    refine ⟨fun hr => ?_, fun i hi => ?_⟩
    · obtain ⟨j, hj⟩ := pending_ready hwf hI.size (e + 1) e (by omega) hLe
      rw [hr] at hj
      simp at hj
    · obtain ⟨hLi, oi, hoi, hall⟩ := (mem_ready hI.size).1 hi
      by_cases hid : i ∈ done
      · rcases hI.dets i hid with he | ⟨d, v, σ1, ⟨o', ho', hod, hdet⟩, hv, hsub, hdN⟩
        · have := hI.effs_ i he
          rw [hLi] at this
          cases this
        · rw [hoi] at ho'
          cases ho'
          have hag := hI.agree hwf hi hoi
          refine hdet w (hI.sub w hI.st) a _ (fun t ht u hu => hag t ht u (hsub t u hu)) ?_
          exact ih _ _ _ (hI.step_det hwf hoi hod hLi hv hdN hid) (count_set hLi hf)
      · by_cases hie : i = e
        · subst hie
          obtain rfl : o = oi := by rw [ho] at hoi; exact Option.some.inj hoi
          have hag := hI.agree hwf hi ho
          have hlst : ∀ j ∈ afters o, L[j]? = some true := fun j hj => ready_after hI.size hi ho hj
          unfold wpOp
          rw [ho]
          simp only
          rw [if_pos (wanted_none hg _)]
          refine .inl (Oper.wp_mono ?_ (hp w hI.st a ?_))
          · rintro a' w' ⟨v, H', rfl, hw', hK⟩
            obtain ⟨hs', hD⟩ := h v H' hK
            have ha : a.put o.dst v = a := by rw [hd]; rfl
            rw [ha]
            refine hD _ _ _ _ ⟨by simpa using hI.size, hw', hI.defers, hI.tmps, ?_, ?_, ?_, ?_, hs', fun j hj => by rcases List.mem_cons.1 hj with e1 | e1; (· exact e1 ▸ (new_of hne').2); (· exact hI.strict j e1)⟩ (count_set hLi hf)
            · intro j hj
              rw [set_some hel] at hj
              by_cases e1 : j = i
              · simp [e1]
              · rw [if_neg e1] at hj
                exact List.mem_cons_of_mem _ (hI.listed j hj)
            · intro j hj
              rw [set_some hel]
              split
              · rfl
              · rename_i e1
                rcases List.mem_cons.1 hj with e2 | e2
                · exact absurd e2 e1
                · exact hlst j e2
            · intro t u hu
              rcases hI.slots t u hu with h1 | ⟨j, q, hj, hLj, hq, hqd⟩
              · exact .inl h1
              · refine .inr ⟨j, q, List.mem_cons_of_mem _ hj, ?_, hq, hqd⟩
                rw [set_some hel, if_neg]
                · exact hLj
                · rintro rfl
                  exact hid hj
            · intro j hj
              rcases List.mem_cons.1 hj with e1 | e1
              · exact .inl (by simp [e1])
              · rcases hcov j e1 with h1 | h1
                · exact .inl (List.mem_cons_of_mem _ h1)
                · obtain ⟨d, v1, hv1, hdN, hdet⟩ := hfreeD j h1
                  exact .inr ⟨d, v1, σ, hdet, hv1, fun t u hu => hu, hdN⟩
          · intro x hx u hu
            cases x with
            | tmp t =>
              have ht : t ∈ reads ops o := by
                unfold reads
                exact List.mem_append.2 (.inl (List.mem_filterMap.2 ⟨.tmp t, by simpa using hx, rfl⟩))
              have := hag t ht u hu
              simp [Act.eval, this]
            | const c => simpa [ev, Act.eval] using hu
            | global g => simpa [ev, Act.eval] using hu
            | func g => simpa [ev, Act.eval] using hu
        · exfalso
          have hc := List.all_eq_true.1 hcl i (List.mem_range.2 (by have := (Array.getElem?_eq_some_iff.1 hoi).1; exact this))
          simp only [hoi, Bool.or_eq_true] at hc
          rcases hc with (hc | hc) | hc
          · exact hid (by simpa using hc)
          · exact hie (Nat.eq_of_beq_eq_true hc)
          · obtain ⟨j, hj, hjd⟩ := List.any_eq_true.1 hc
            have := hI.listed j (ready_after hI.size hi hoi hj)
            simp [this] at hjd
/-- An operation that reads no memory is settled whatever the heap. -/
theorem Det.of {i d : Nat} {v : Value} {o : Oper} (ho : ops[i]? = some o) (hg : o.guard = none) (hd : o.dst = some d) (hp : Pu P w0 o σ Hs v) : Det P w0 ops Q i σ Hs d v := by
  refine ⟨o, ho, hd, fun w hw a K hag hK => ?_⟩
  unfold wpOp
  rw [ho]
  simp only
  rw [if_pos (wanted_none hg _)]
  refine .inl (upon_ok (hp w hw a ?_) ?_)
  · intro x hx u hu
    cases x with
    | tmp t =>
      have ht : t ∈ reads ops o := by
        unfold reads
        exact List.mem_append.2 (.inl (List.mem_filterMap.2 ⟨.tmp t, by simpa using hx, rfl⟩))
      have := hag t ht u hu
      simp [Act.eval, this]
    | const c => simpa [ev, Act.eval] using hu
    | global g => simpa [ev, Act.eval] using hu
    | func g => simpa [ev, Act.eval] using hu
  · rw [hd]
    exact hK
end
end Go.Vc
/-
  The calculus, part 14: a search for completions that hands them on.
-/
namespace Go.Vc
open Go Go.RowKit
section
variable {P : Program} {N : Nat} {w0 : World} {Q : Exit → Act → World → Prop} {σ : Sig} {H H' : List Assn} {ops : Array Oper} {rest : List Oper}
/-- A search: the completer's cells, its grid, its list; what has been handed on, l. -/
def CompK (T eT gT : TypeId) (cb gb v : Nat) (f : Value) (E : List (List B3) → Assn) (m : Nat) (xs : List B3) (l : List (List B3)) : Assn :=
  .exi fun q : (Option Addr × Nat) × (Int → Int → Int) => .sep (.pur (Rel v q.2 m)) (.sep (Blk cb [.int .i64 (v : Int), .pointer (some ⟨gb, 0, none⟩), .slice q.1.1 xs.length q.1.2, f] T) (.sep (Grid gb q.2 gT) (.sep (Own eT B3C q.1.1 q.1.2 xs) (E l))))
variable {T eT gT : TypeId} {cb gb v m : Nat} {f : Value} {E : List (List B3) → Assn} {xs : List B3} {l : List (List B3)}
theorem V.compK {c : Code} (h : ∀ A k G, Rel v G m → V P N w0 c Q σ (Blk cb [.int .i64 (v : Int), .pointer (some ⟨gb, 0, none⟩), .slice A xs.length k, f] T :: Grid gb G gT :: Own eT B3C A k xs :: E l :: H)) : V P N w0 c Q σ (CompK T eT gT cb gb v f E m xs l :: H) := by
  intro w hw
  obtain ⟨q, hw⟩ := hw.exi
  have h1 := hw.sep.pur
  exact h _ _ _ h1.1 w (by
    have h2 := h1.2.sep
    have h3 := (h2.perm (List.Perm.swap _ _ _)).sep
    have h4 := (h3.sub (Sub.keep 1 rfl (Sub.keep 0 rfl (Sub.refl _)))).perm (List.Perm.refl _)
    have h5 := (h3.perm (List.Perm.swap _ _ _)).sep
    exact (h5.sub (Sub.keep 3 rfl (Sub.keep 2 rfl (Sub.keep 0 rfl (Sub.keep 0 rfl (Sub.refl _)))))))
theorem X.compK {e : Exit} (h : ∀ A k G, Rel v G m → X N w0 Q e σ (Blk cb [.int .i64 (v : Int), .pointer (some ⟨gb, 0, none⟩), .slice A xs.length k, f] T :: Grid gb G gT :: Own eT B3C A k xs :: E l :: H)) : X N w0 Q e σ (CompK T eT gT cb gb v f E m xs l :: H) := by
  intro w hw
  obtain ⟨q, hw⟩ := hw.exi
  have h1 := hw.sep.pur
  exact h _ _ _ h1.1 w (by
    have h2 := h1.2.sep
    have h3 := (h2.perm (List.Perm.swap _ _ _)).sep
    have h5 := (h3.perm (List.Perm.swap _ _ _)).sep
    exact (h5.sub (Sub.keep 3 rfl (Sub.keep 2 rfl (Sub.keep 0 rfl (Sub.keep 0 rfl (Sub.refl _)))))))
theorem CompK.mk {A : Option Addr} {k : Nat} {G : Int → Int → Int} (hr : Rel v G m) {w : World} (hw : St w0 (Blk cb [.int .i64 (v : Int), .pointer (some ⟨gb, 0, none⟩), .slice A xs.length k, f] T :: Grid gb G gT :: Own eT B3C A k xs :: E l :: H) w) : St w0 (CompK T eT gT cb gb v f E m xs l :: H) w := by
  refine St.mkExi ((A, k), G) (St.unsep (St.addPur hr ?_))
  have h1 : St w0 (Own eT B3C A k xs :: E l :: Grid gb G gT :: Blk cb [.int .i64 (v : Int), .pointer (some ⟨gb, 0, none⟩), .slice A xs.length k, f] T :: H) w := hw.sub (Sub.keep 2 rfl (Sub.keep 2 rfl (Sub.keep 1 rfl (Sub.keep 0 rfl (Sub.refl _)))))
  have h2 := (St.unsep h1).perm (List.Perm.swap _ _ _)
  have h3 := (St.unsep h2).perm (List.Perm.swap _ _ _)
  exact St.unsep h3
theorem CompK.mk' {A : Option Addr} {k n : Nat} {b : B3} {G : Int → Int → Int} (hr : Rel v G m) (hn : n = xs.length) {w : World} (hw : St w0 (Blk cb [.int .i64 (v : Int), .pointer (some ⟨gb, 0, none⟩), .slice A n k, f] T :: Grid gb G gT :: Own eT B3C A k (xs ++ [b]) :: E l :: H) w) : St w0 (CompK T eT gT cb gb v f E m xs l :: H) w := by
  subst hn
  refine CompK.mk hr (hw.sub (Sub.keep 0 rfl (Sub.keep 0 rfl (Sub.cons 0 rfl (fun w F h => ?_) (Sub.refl _)))))
  have := Own.takeP xs.length w F h
  rwa [List.take_left'] at this
  rfl
/-- What a search calls with each completion. -/
def CallB (P : Program) (w0 : World) (eT : TypeId) (gf : Nat) (caps : Array Value) (E : List (List B3) → Assn) (cont : Nat → Bool) (okL : List B3 → Prop) (M : Nat) : Prop :=
  ∀ (l : List (List B3)) (xs : List B3) (A : Option Addr) (k : Nat) (H : List Assn), l.length < M → okL xs → Does P gf ([.slice A xs.length k] ++ caps.toList) w0 (Own eT B3C A k xs :: E l :: H) (fun r => [.sep (.pur (r = .bool (cont (l.length + 1)))) (.sep (Own eT B3C A k xs) (E (l ++ [xs])))] ++ H)
end
section
variable {v m a b c n p k M : Nat} {cont : Nat → Bool} {xs : List B3} {l : List (List B3)} {okL : List B3 → Prop}
theorem comp_some' (h : nextM v m = some (a, b)) (hn : 0 < n) : compM n v m = compJ (n - 1) v m a b v := by
  obtain ⟨k, rfl⟩ : ∃ k, n = k + 1 := ⟨n - 1, by omega⟩
  exact compM_some h
theorem left_pos (h : IsNext v m a b) (hn : leftN v m ≤ n) : 0 < n := by
  apply Decidable.byContradiction
  intro h0
  have h1 := leftN_zero (v := v) (m := m) (by omega) a b h.ab h.bv
  rw [h.left] at h1
  cases h1
theorem compM_len : ∀ n v m (q : List B3), q ∈ compM n v m → q.length ≤ n := by
  intro n
  induction n with
  | zero =>
    intro v m q hq
    unfold compM at hq
    split at hq
    · simp at hq; subst hq; simp
    · simp at hq
  | succ n ih =>
    intro v m q hq
    unfold compM at hq
    split at hq
    · simp at hq; subst hq; simp
    · obtain ⟨c, hc, h1⟩ := List.mem_flatMap.1 hq
      split at h1
      · obtain ⟨r, hr, rfl⟩ := List.mem_map.1 h1
        have := ih _ _ _ hr
        simp only [List.length_cons]
        omega
      · simp at h1
theorem leaf_nil_len {q : List B3} (h : q ∈ leaf [] (compM n v m)) : q.length ≤ n := by
  have : q ∈ compM n v m := by simpa [leaf] using h
  exact compM_len n v m q this
theorem fitsAt_nil : fitsAt ([] : List B3) ([] : List B3).length := fitsAt_zero []
theorem leaf_none (h : nextM v m = none) : leaf xs (compM n v m) = [xs] := by rw [compM_none h]; simp [leaf]
theorem runC_one {α : Type} {x : α} : runC cont k [x] = [x] := by unfold runC; split <;> rfl
theorem goesC_one {α : Type} {x : α} : goesC cont k [x] = cont (k + 1) := by simp [goesC]
theorem runC_pre {α : Type} {l r : List α} : (runC cont k l).length ≤ (runC cont k (l ++ r)).length := by
  cases h : goesC cont k l with
  | true => rw [runC_append h, runC_all h, List.length_append]; omega
  | false => rw [runC_stop h]; omega
theorem leaf_step (hm : may m a b p = true) : leaf xs (compJ n v m a b (p + 1)) = leaf xs (compJ n v m a b p) ++ leaf (xs ++ [b3N a b p]) (compM n v (putM m a b p)) := by
  rw [compJ_yes hm, leaf_append, leaf_cons]
theorem leaf_pre {i : Nat} (h : i ≤ c) : ∃ r, leaf xs (compJ n v m a b c) = leaf xs (compJ n v m a b i) ++ r := by
  obtain ⟨r, hr⟩ := compJ_prefix (n := n) (v := v) (m := m) (a := a) (b := b) h
  exact ⟨leaf xs r, by rw [← leaf_append, hr]⟩
theorem step_M (hgo : goesC cont k (leaf xs (compJ n v m a b p)) = true) (hm : may m a b p = true) (hp : p < v) (hM : k + (runC cont k (leaf xs (compJ n v m a b v))).length ≤ M) :
    (l ++ leaf xs (compJ n v m a b p)).length + (runC cont (k + (leaf xs (compJ n v m a b p)).length) (leaf (xs ++ [b3N a b p]) (compM n v (putM m a b p)))).length ≤ M + l.length - k ∨ l.length < k := by
  by_cases hk : l.length < k
  · exact .inr hk
  · refine .inl ?_
    obtain ⟨r, hr⟩ := leaf_pre (xs := xs) (n := n) (v := v) (m := m) (a := a) (b := b) (i := p + 1) (c := v) (by omega)
    have h1 := runC_pre (cont := cont) (k := k) (l := leaf xs (compJ n v m a b (p + 1))) (r := r)
    rw [← hr] at h1
    rw [leaf_step hm, runC_append hgo, List.length_append] at h1
    rw [List.length_append]
    omega
theorem step_M2 {l2 : List (List B3)} (hgo : goesC cont l.length (leaf xs (compJ n v m a b p)) = true) (hm : may m a b p = true) (hp : p < v) (hM : l.length + (runC cont l.length (leaf xs (compJ n v m a b v))).length ≤ M) (hl : l2 = l ++ leaf xs (compJ n v m a b p)) :
    l2.length + (runC cont l2.length (leaf (xs ++ [b3N a b p]) (compM n v (putM m a b p)))).length ≤ M := by
  have h := step_M (l := l) (M := M) hgo hm hp hM
  rw [hl, List.length_append] at *
  rcases h with h | h <;> omega
theorem step_go (hgo : goesC cont k (leaf xs (compJ n v m a b p)) = true) (hm : may m a b p = true) (h : goesC cont (k + (leaf xs (compJ n v m a b p)).length) (leaf (xs ++ [b3N a b p]) (compM n v (putM m a b p))) = true) :
    goesC cont k (leaf xs (compJ n v m a b (p + 1))) = true := by
  rw [leaf_step hm, goesC_append, hgo, h]; rfl
theorem step_stop (hgo : goesC cont k (leaf xs (compJ n v m a b p)) = true) (hm : may m a b p = true) (hp : p < v) (h : ¬ goesC cont (k + (leaf xs (compJ n v m a b p)).length) (leaf (xs ++ [b3N a b p]) (compM n v (putM m a b p))) = true) :
    goesC cont k (leaf xs (compJ n v m a b v)) = false ∧ runC cont k (leaf xs (compJ n v m a b v)) = leaf xs (compJ n v m a b p) ++ runC cont (k + (leaf xs (compJ n v m a b p)).length) (leaf (xs ++ [b3N a b p]) (compM n v (putM m a b p))) := by
  obtain ⟨r, hr⟩ := leaf_pre (xs := xs) (n := n) (v := v) (m := m) (a := a) (b := b) (i := p + 1) (c := v) (by omega)
  have h1 : goesC cont k (leaf xs (compJ n v m a b (p + 1))) = false := by
    rw [leaf_step hm, goesC_append, hgo, Bool.true_and]
    cases hh : goesC cont (k + (leaf xs (compJ n v m a b p)).length) (leaf (xs ++ [b3N a b p]) (compM n v (putM m a b p))) with
    | true => exact absurd hh h
    | false => rfl
  rw [hr]
  refine ⟨goesC_stop h1, ?_⟩
  rw [runC_stop h1, leaf_step hm, runC_append hgo]
theorem step_ok (hm : may m a b p = true) (hp : p < v) (h : ∀ q ∈ leaf xs (compJ n v m a b v), okL q) : ∀ q ∈ leaf (xs ++ [b3N a b p]) (compM n v (putM m a b p)), okL q := by
  intro q hq
  obtain ⟨r, hr⟩ := leaf_pre (xs := xs) (n := n) (v := v) (m := m) (a := a) (b := b) (i := p + 1) (c := v) (by omega)
  refine h q ?_
  rw [hr, leaf_step hm]
  simp [hq]
end
end Go.Vc
/-
  The calculus, part 15: arrays and structs that are built.
-/
namespace Go.Vc
open Go Go.RowKit
section
variable {P : Program} {N : Nat} {w0 : World} {Q : Exit → Act → World → Prop} {σ σ' : Sig} {H H' : List Assn} {ops : Array Oper} {o : Oper}
theorem parts_eval {a : Act} {parts : Array (Nat × Operand)} {vs : List Value} (h2 : (parts.toList.map (·.2)).map a.eval = vs) : (parts.map fun (i, x) => (i, a.eval x)).toList = (parts.toList.map (·.1)).zip vs := by
  rw [← h2, Array.toList_map]
  generalize parts.toList = l
  induction l with
  | nil => rfl
  | cons p l ih => simp [ih]
theorem Pu.buildA {T e n sz : Nat} {parts : Array (Nat × Operand)} {vs cs : List Value} {z v : Value} (hv : v = .agg cs.toArray) (ho : o.op = .build T parts) (hT : P.underlying T = some (.array n e)) (hz : Zr P T z) (hs : Sz P e sz)
    (hx : evs σ (parts.toList.map (·.2)) = some vs) (hf : Instr.fill (fun i => some (i * sz, sz)) z.cells ((parts.toList.map (·.1)).zip vs) = some cs.toArray) : Pu P w0 o σ H v := by
  subst hv
  intro w hw a ha
  have h2 := evs_map (a := a) (fun x hx v hv => ha x (by simpa [ho, Op.operands] using hx) v hv) hx
  have hp := parts_eval h2
  simp only [execOp, ho, Instr.build, Sem.run_bind, run_zr hz, Result.andThen_ok, run_underlying hT, run_sz hs, hp, hf, Sem.run_pure]
def szOf (P : Program) (t : Nat) : Nat := ((P.info? t).map (·.size)).getD 0
def placesOf (P : Program) (fs : List Field) : List (Nat × Nat) := fs.map fun f => (f.offset, szOf P f.type)
def knownB (P : Program) (fs : List Field) : Bool := fs.all fun f => (P.info? f.type).isSome
theorem run_mapM {α β : Type} {f : α → Sem β} {g : α → β} {w : World} (l : Array α) (h : ∀ x, x ∈ l → (f x).run P w = .ok (g x) w) : (l.mapM f).run P w = .ok (l.toList.map g).toArray w := by
  obtain ⟨l⟩ := l
  rw [List.mapM_toArray, map_eq_pure_bind]
  have key : ∀ l : List α, (∀ x, x ∈ l → (f x).run P w = .ok (g x) w) → (l.mapM f).run P w = .ok (l.map g) w := by
    intro l
    induction l with
    | nil => intro _; rfl
    | cons x l ih =>
      intro h
      rw [List.mapM_cons]
      simp only [Sem.run_bind, h x (by simp), Result.andThen_ok, ih (fun y hy => h y (by simp [hy])), Sem.run_pure, List.map_cons]
  simp only [Sem.run_bind, key l (fun x hx => h x (by simpa using hx)), Result.andThen_ok, Sem.run_pure]
theorem Pu.buildS {T : Nat} {fields : Array Field} {parts : Array (Nat × Operand)} {vs cs : List Value} {z v : Value} (hv : v = .agg cs.toArray) (ho : o.op = .build T parts) (hT : P.underlying T = some (.struct fields)) (hz : Zr P T z) (hk : knownB P fields.toList = true)
    (hx : evs σ (parts.toList.map (·.2)) = some vs) (hf : Instr.fill (fun i => (placesOf P fields.toList).toArray[i]?) z.cells ((parts.toList.map (·.1)).zip vs) = some cs.toArray) : Pu P w0 o σ H v := by
  subst hv
  intro w hw a ha
  have h2 := evs_map (a := a) (fun x hx v hv => ha x (by simpa [ho, Op.operands] using hx) v hv) hx
  have hp := parts_eval h2
  have hm := run_mapM (P := P) (w := w) (f := fun f : Field => (do pure (f.offset, ← sizeOf f.type) : Sem (Nat × Nat))) (g := fun f => (f.offset, szOf P f.type)) fields (fun x hx => by
    have h3 := List.all_eq_true.1 hk x (by simpa using hx)
    obtain ⟨i, hi⟩ := Option.isSome_iff_exists.1 h3
    have hs : Sz P x.type (szOf P x.type) := by unfold Sz szOf; rw [hi]; rfl
    simp only [Sem.run_bind, run_sz hs, Result.andThen_ok, Sem.run_pure])
  have hm' : (fields.mapM fun f => (do pure (f.offset, ← sizeOf f.type) : Sem (Nat × Nat))).run P w = .ok (placesOf P fields.toList).toArray w := hm
  simp only [execOp, ho, Instr.build, Sem.run_bind, run_zr hz, Result.andThen_ok, run_underlying hT, hm', hp, hf, Sem.run_pure]
end
end Go.Vc
/-
  The calculus, part 16: lists of systems with one number of points.
-/
namespace Go.Vc
open Go Go.RowKit
/-- A system with v points: the number and the slice of its blocks. -/
def SyC (v : Int) : Cod Sl := ⟨2, fun s => [.int .i64 v, s.v], by decide, fun _ => rfl, fun _ u hu => by simp at hu; rcases hu with rfl | rfl <;> rfl⟩
section
variable {P : Program} {N : Nat} {w0 w : World} {Q : Exit → Act → World → Prop} {σ : Sig} {H H' : List Assn} {ops : Array Oper} {rest : List Oper} {T : TypeId} {v : Int}
theorem Ld.rowY {A : Option Addr} {ps : List (Sl × List B3)} (hr : ∀ w, St w0 H w → Rd (SyC v) w A (tops ps)) (hn : LenOk ps) {k s : Nat} (hk : k < ps.length) (hs : s = 2) :
    ∀ w, St w0 H w → ∃ q, A.map (·.add (k * s)) = some q ∧ ∀ m u, ([.int .i64 v, .slice (ps[k]).1.A (ps[k]).2.length (ps[k]).1.c] : List Value)[m]? = some u → w.cell? (q.add m) = some u := by
  have hk' : k < (tops ps).length := by rw [tops_len]; exact hk
  intro w hw
  obtain ⟨q, h1, h2⟩ := Ld.rds (C := SyC v) hr hk' (s := s) hs w hw
  refine ⟨q, h1, fun m u hm => h2 m u ?_⟩
  have e : (tops ps)[k] = (ps[k]).1 := List.getElem_map ..
  rw [e]
  have h3 := (hn _ (List.getElem_mem hk)).1
  simp only [SyC, Sl.v, h3]
  exact hm
/-- A list of systems that is read. -/
structure RdY (v : Int) (w : World) (A : Option Addr) (ps : List (Sl × List B3)) : Prop where
  top : Rd (SyC v) w A (tops ps)
  len : LenOk ps
  row : ∀ k (hk : k < ps.length), Rd B3C w (ps[k]).1.A (ps[k]).2
theorem Ld.yy {T2 c : Nat} {A : Option Addr} {ps : List (Sl × List B3)} {H2 : List Assn} (i j : Nat) (hp : pull i H = some (Own T2 (SyC v) A c (tops ps), H')) (hq : pull j H = some (RowsA T B3C ps, H2)) : ∀ w, St w0 H w → RdY v w A ps :=
  fun w hw => ⟨Own.rd hw hp, RowsA.len j hq w hw, fun k hk => Ld.rows j hq hk w hw⟩
theorem RdY.st {A : Option Addr} {ps : List (Sl × List B3)} (h : RdY v w0 A ps) (hw : St w0 H w) : RdY v w A ps := ⟨h.top.st hw, h.len, fun k hk => (h.row k hk).st hw⟩
theorem RdY.below {A : Option Addr} {ps : List (Sl × List B3)} (h : RdY v w0 A ps) (hb : Bel w0.heap.size w0 w) : RdY v w A ps := ⟨h.top.below hb, h.len, fun k hk => (h.row k hk).below hb⟩
/-- A box with a list of systems, and a box with their number of points: what has come so far, l. -/
def SysE (sT bT lT iT : TypeId) (v : Int) (b0 b1 : Nat) (l : List (List B3)) : Assn :=
  .exi fun q : (Option Addr × Nat) × List (Sl × List B3) => .sep (.pur (conts q.2 = l)) (.sep (Blk b0 [.slice q.1.1 (tops q.2).length q.1.2] lT) (.sep (Blk b1 [.int .i64 v] iT) (.sep (Own sT (SyC v) q.1.1 q.1.2 (tops q.2)) (RowsA bT B3C q.2))))
variable {sT bT lT iT : TypeId} {b0 b1 : Nat} {l : List (List B3)}
theorem SysE.elim (hw : St w0 (SysE sT bT lT iT v b0 b1 l :: H) w) : ∃ A k ps, conts ps = l ∧ St w0 (Blk b0 [.slice A (tops ps).length k] lT :: Blk b1 [.int .i64 v] iT :: Own sT (SyC v) A k (tops ps) :: RowsA bT B3C ps :: H) w := by
  obtain ⟨q, hw⟩ := hw.exi
  have h1 := hw.sep.pur
  refine ⟨q.1.1, q.1.2, q.2, h1.1, ?_⟩
  have h2 := h1.2.sep
  have h3 := (h2.perm (List.Perm.swap _ _ _)).sep
  have h5 := (h3.perm (List.Perm.swap _ _ _)).sep
  exact (h5.sub (Sub.keep 3 rfl (Sub.keep 2 rfl (Sub.keep 0 rfl (Sub.keep 0 rfl (Sub.refl _))))))
theorem V.sysE {c : Code} (h : ∀ A k ps, conts ps = l → V P N w0 c Q σ (Blk b0 [.slice A (tops ps).length k] lT :: Blk b1 [.int .i64 v] iT :: Own sT (SyC v) A k (tops ps) :: RowsA bT B3C ps :: H)) : V P N w0 c Q σ (SysE sT bT lT iT v b0 b1 l :: H) := by
  intro w hw
  obtain ⟨A, k, ps, h1, h2⟩ := SysE.elim hw
  exact h A k ps h1 w h2
theorem O.sysE (h : ∀ A k ps, conts ps = l → O P N w0 ops Q rest σ (Blk b0 [.slice A (tops ps).length k] lT :: Blk b1 [.int .i64 v] iT :: Own sT (SyC v) A k (tops ps) :: RowsA bT B3C ps :: H)) : O P N w0 ops Q rest σ (SysE sT bT lT iT v b0 b1 l :: H) := by
  intro w hw
  obtain ⟨A, k, ps, h1, h2⟩ := SysE.elim hw
  exact h A k ps h1 w h2
theorem SysE.mk {A : Option Addr} {k : Nat} {ps : List (Sl × List B3)} (hl : conts ps = l) (hw : St w0 (Blk b0 [.slice A (tops ps).length k] lT :: Blk b1 [.int .i64 v] iT :: Own sT (SyC v) A k (tops ps) :: RowsA bT B3C ps :: H) w) : St w0 (SysE sT bT lT iT v b0 b1 l :: H) w := by
  refine St.mkExi ((A, k), ps) (St.unsep (St.addPur hl ?_))
  have h1 : St w0 (Own sT (SyC v) A k (tops ps) :: RowsA bT B3C ps :: Blk b1 [.int .i64 v] iT :: Blk b0 [.slice A (tops ps).length k] lT :: H) w := hw.sub (Sub.keep 2 rfl (Sub.keep 2 rfl (Sub.keep 1 rfl (Sub.keep 0 rfl (Sub.refl _)))))
  have h2 := (St.unsep h1).perm (List.Perm.swap _ _ _)
  have h3 := (St.unsep h2).perm (List.Perm.swap _ _ _)
  exact St.unsep h3
end
end Go.Vc
/-
  Plain words: completions are in order, and none lacks.
-/
namespace Go.Vc
theorem lt_trans3 {a b c : B3} (h1 : B3.lt a b) (h2 : B3.lt b c) : B3.lt a c := by unfold B3.lt at *; omega
theorem lt_asymm3 {a b : B3} (h1 : B3.lt a b) (h2 : B3.lt b a) : False := lt_irrefl a (lt_trans3 h1 h2)
section
variable {v m a b c n : Nat}
theorem next_cases (v m : Nat) : (∀ x y, x < y → y < v → usd m x y = true) ∨ ∃ a b, IsNext v m a b := by
  have key : ∀ k, k ≤ v → (∀ x y, x < k → x < y → y < v → usd m x y = true) ∨ ∃ a b, IsNext v m a b := by
    intro k
    induction k with
    | zero => intro _; exact .inl (fun x y h => by omega)
    | succ k ih =>
      intro hk
      rcases ih (by omega) with h | h
      · have key2 : ∀ j, j ≤ v → (∀ y, k < y → y < j → usd m k y = true) ∨ ∃ a b, IsNext v m a b := by
          intro j
          induction j with
          | zero => intro _; exact .inl (fun y _ h => by omega)
          | succ j ihj =>
            intro hj
            rcases ihj (by omega) with h1 | h1
            · by_cases hkj : k < j
              · cases hu : usd m k j with
                | true => exact .inl (fun y h2 h3 => by by_cases e : y = j; (· subst e; exact hu); (· exact h1 y h2 (by omega)))
                | false => exact .inr ⟨k, j, hkj, by omega, hu, h1, fun x y h2 h3 h4 => h x y h2 h3 h4⟩
              · exact .inl (fun y h2 h3 => by omega)
            · exact .inr h1
        rcases key2 v (Nat.le_refl _) with h1 | h1
        · exact .inl (fun x y h2 h3 h4 => by by_cases e : x = k; (· subst e; exact h1 y h3 h4); (· exact h x y (by omega) h3 h4))
        · exact .inr h1
      · exact .inr h
  rcases key v (Nat.le_refl _) with h | h
  · exact .inl (fun x y h1 h2 => h x y (by omega) h1 h2)
  · exact .inr h
theorem next_spec (h : nextM v m = some (a, b)) : IsNext v m a b := by
  rcases next_cases v m with h1 | ⟨x, y, h1⟩
  · rw [nextM_none h1] at h; cases h
  · rw [nextM_some h1] at h
    obtain ⟨rfl, rfl⟩ := Prod.mk.inj (Option.some.inj h)
    exact h1
theorem next_none (h : nextM v m = none) : ∀ x y, x < y → y < v → usd m x y = true := by
  rcases next_cases v m with h1 | ⟨x, y, h1⟩
  · exact h1
  · rw [nextM_some h1] at h; cases h
theorem may_spec (h : may m a b c = true) : b < c ∧ usd m a c = false ∧ usd m b c = false := by
  unfold may at h
  simp only [Bool.and_eq_true, Nat.blt_eq, Bool.not_eq_true'] at h
  exact ⟨h.1.1, h.1.2, h.2⟩
/-- A member is either the empty one, or begins with a block. -/
theorem mem_comp {q : List B3} (h : q ∈ compM n v m) : (q = [] ∧ nextM v m = none) ∨ ∃ k a b c r, n = k + 1 ∧ nextM v m = some (a, b) ∧ c < v ∧ may m a b c = true ∧ r ∈ compM k v (putM m a b c) ∧ q = b3N a b c :: r := by
  cases n with
  | zero =>
    unfold compM at h
    split at h
    · rename_i e; simp at h; exact .inl ⟨h, e⟩
    · simp at h
  | succ n =>
    unfold compM at h
    split at h
    · rename_i e; simp at h; exact .inl ⟨h, e⟩
    · rename_i a b e
      obtain ⟨c, hc, h1⟩ := List.mem_flatMap.1 h
      split at h1
      · rename_i hm
        obtain ⟨r, hr, rfl⟩ := List.mem_map.1 h1
        exact .inr ⟨n, a, b, c, r, rfl, e, List.mem_range.1 hc, hm, hr, rfl⟩
      · simp at h1
/-- A block whose first pair is left. -/
def Free (v m : Nat) (d : B3) : Prop := ∃ x y z : Nat, d = b3N x y z ∧ x < y ∧ y < z ∧ z < v ∧ usd m x y = false
theorem comp_free : ∀ n v m (q : List B3), v ≤ 15 → q ∈ compM n v m → ∀ d ∈ q, Free v m d := by
  intro n
  induction n with
  | zero =>
    intro v m q hv hq d hd
    rcases mem_comp hq with ⟨rfl, _⟩ | ⟨k, a, b, c, r, hk, _⟩
    · simp at hd
    · omega
  | succ n ih =>
    intro v m q hv hq d hd
    rcases mem_comp hq with ⟨rfl, _⟩ | ⟨k, a, b, c, r, hk, hn, hc, hm, hr, rfl⟩
    · simp at hd
    · obtain rfl : n = k := by omega
      have hI := next_spec hn
      obtain ⟨h1, h2, h3⟩ := may_spec hm
      rcases List.mem_cons.1 hd with rfl | hd
      · exact ⟨a, b, c, rfl, hI.ab, h1, hc, hI.left⟩
      · obtain ⟨x, y, z, e, hx, hy, hz, hu⟩ := ih _ _ _ hv hr d hd
        refine ⟨x, y, z, e, hx, hy, hz, ?_⟩
        cases hh : usd m x y with
        | false => rfl
        | true =>
          have := (usd_put (m := m) (a := a) (b := b) (c := c) (by have := hI.ab; have := hI.bv; omega) (by have := hI.bv; omega) (by omega) (x := x) (y := y) (by omega) (by omega)).2 (.inl hh)
          rw [this] at hu
          cases hu
theorem b3N_lt {x y z a b c : Nat} (h : a < x ∨ (a = x ∧ b < y)) : B3.lt (b3N a b c) (b3N x y z) := by unfold B3.lt b3N; simp only; omega
theorem comp_sorted : ∀ n v m (q : List B3), v ≤ 15 → q ∈ compM n v m → q.Pairwise B3.lt := by
  intro n
  induction n with
  | zero =>
    intro v m q hv hq
    rcases mem_comp hq with ⟨rfl, _⟩ | ⟨k, a, b, c, r, hk, _⟩
    · exact List.Pairwise.nil
    · omega
  | succ n ih =>
    intro v m q hv hq
    rcases mem_comp hq with ⟨rfl, _⟩ | ⟨k, a, b, c, r, hk, hn, hc, hm, hr, rfl⟩
    · exact List.Pairwise.nil
    · obtain rfl : n = k := by omega
      have hI := next_spec hn
      obtain ⟨h1, h2, h3⟩ := may_spec hm
      have hab := hI.ab
      have hbv := hI.bv
      refine List.pairwise_cons.2 ⟨fun d hd => ?_, ih _ _ _ hv hr⟩
      obtain ⟨x, y, z, rfl, hx, hy, hz, hu⟩ := comp_free _ _ _ _ hv hr d hd
      have hup := usd_put (m := m) (a := a) (b := b) (c := c) (by omega) (by omega) (by omega) (x := x) (y := y) (by omega) (by omega)
      refine b3N_lt ?_
      apply Decidable.byContradiction
      intro hc'
      have : usd (putM m a b c) x y = true := by
        rw [hup]
        by_cases e : x = a ∧ y = b
        · exact .inr (.inl (.inl e))
        · refine .inl ?_
          by_cases e1 : x < a
          · exact hI.rows x y e1 hx (by omega)
          · obtain rfl : x = a := by omega
            exact hI.row y hx (by omega)
      rw [this] at hu
      cases hu
/-- One list of blocks comes ahead of another one: at the first place where they differ. -/
def befB : List B3 → List B3 → Prop
  | x :: a, y :: b => if x = y then befB a b else B3.lt x y
  | _, _ => False
noncomputable instance (a b : List B3) : Decidable (befB a b) := Classical.propDecidable _
theorem befB_asymm : ∀ {a b : List B3}, befB a b → befB b a → False := by
  intro a
  induction a with
  | nil => intro b h; cases b <;> simp [befB] at h
  | cons x a ih =>
    intro b h1 h2
    cases b with
    | nil => simp [befB] at h1
    | cons y b =>
      unfold befB at h1 h2
      by_cases e : x = y
      · rw [if_pos e] at h1; rw [if_pos e.symm] at h2; exact ih h1 h2
      · rw [if_neg e] at h1; rw [if_neg (fun h => e h.symm)] at h2; exact lt_asymm3 h1 h2
theorem comp_ascending : ∀ n v m, v ≤ 15 → (compM n v m).Pairwise befB := by
  intro n
  induction n with
  | zero => intro v m hv; unfold compM; split <;> simp
  | succ n ih =>
    intro v m hv
    unfold compM
    split
    · simp
    · rename_i a b e
      rw [List.pairwise_flatMap]
      refine ⟨fun c hc => ?_, ?_⟩
      · split
        · rw [List.pairwise_map]
          exact (ih v _ hv).imp (fun h => by unfold befB; rw [if_pos rfl]; exact h)
        · simp
      · refine List.Pairwise.imp ?_ (List.pairwise_lt_range (n := v))
        intro c d hcd q hq r hr
        split at hq
        · split at hr
          · obtain ⟨q', _, rfl⟩ := List.mem_map.1 hq
            obtain ⟨r', _, rfl⟩ := List.mem_map.1 hr
            unfold befB
            rw [if_neg (by unfold b3N; intro h; simp at h; omega)]
            exact .inr ⟨rfl, .inr ⟨rfl, by show (c : Int) < d; omega⟩⟩
          · simp at hr
        · simp at hq
/-! ### How many blocks -/
theorem usd_put_self (ha : a < b) (hb : b < c) (hc : c < 16) : usd (putM m a b c) a b = true ∧ usd (putM m a b c) a c = true ∧ usd (putM m a b c) b c = true := by
  refine ⟨?_, ?_, ?_⟩ <;> rw [usd_put (by omega) (by omega) (by omega) (by omega) (by omega)]
  · exact .inr (.inl (.inl ⟨rfl, rfl⟩))
  · exact .inr (.inr (.inl (.inl ⟨rfl, rfl⟩)))
  · exact .inr (.inr (.inr (.inl ⟨rfl, rfl⟩)))
theorem filter_but {α : Type} [DecidableEq α] {l : List α} (hd : l.Nodup) {p : α → Bool} {x : α} (hx : x ∈ l) (hp : p x = true) : (l.filter fun y => p y && !decide (y = x)).length + 1 = (l.filter p).length := by
  induction l with
  | nil => simp at hx
  | cons y l ih =>
    obtain ⟨h1, h2⟩ := List.nodup_cons.1 hd
    by_cases e : y = x
    · subst e
      have h3 : (l.filter fun z => p z && !decide (z = y)) = l.filter p := by
        refine List.filter_congr fun z hz => ?_
        have : z ≠ y := fun e => h1 (e ▸ hz)
        simp [this]
      simp [List.filter_cons, hp, h3]
    · have hx' : x ∈ l := by
        rcases List.mem_cons.1 hx with h | h
        · exact absurd h.symm e
        · exact h
      have := ih h2 hx'
      simp only [List.filter_cons, e, decide_false, Bool.not_false, Bool.and_true]
      split
      · simp only [List.length_cons]; omega
      · exact this
theorem prs_nodup (v : Nat) : (prs v).Nodup := by
  unfold prs
  rw [List.nodup_iff_pairwise_ne, List.pairwise_flatMap]
  refine ⟨fun a _ => ?_, ?_⟩
  · rw [List.pairwise_map]
    exact (List.pairwise_lt_range (n := v)).imp (fun h e => by cases e; omega)
  · refine List.Pairwise.imp ?_ (List.pairwise_lt_range (n := v))
    intro x y hxy p hp q hq
    obtain ⟨i, _, rfl⟩ := List.mem_map.1 hp
    obtain ⟨j, _, rfl⟩ := List.mem_map.1 hq
    intro e
    cases e
    omega
theorem leftN_put3 (ha : a < b) (hb : b < c) (hc : c < v) (hv : v ≤ 15) (h1 : usd m a b = false) (h2 : usd m a c = false) (h3 : usd m b c = false) : leftN v (putM m a b c) + 3 = leftN v m := by
  have e1 := filter_but (prs_nodup v) (p := fun p => Nat.blt p.1 p.2 && !usd m p.1 p.2) (x := (a, b)) (mem_prs.2 ⟨by simp; omega, by simp; omega⟩) (by simp [ha, h1])
  have e2 := filter_but (prs_nodup v) (p := fun y => (Nat.blt y.1 y.2 && !usd m y.1 y.2) && !decide (y = (a, b))) (x := (a, c)) (mem_prs.2 ⟨by simp; omega, by simp; omega⟩) (by
    have : Nat.blt a c = true := by rw [Nat.blt_eq]; omega
    simp [h2, this]; omega)
  have e3 := filter_but (prs_nodup v) (p := fun y => ((Nat.blt y.1 y.2 && !usd m y.1 y.2) && !decide (y = (a, b))) && !decide (y = (a, c))) (x := (b, c)) (mem_prs.2 ⟨by simp; omega, by simp; omega⟩) (by
    simp [h3, hb]; omega)
  have e4 : leftN v (putM m a b c) = ((prs v).filter fun y => (((Nat.blt y.1 y.2 && !usd m y.1 y.2) && !decide (y = (a, b))) && !decide (y = (a, c))) && !decide (y = (b, c))).length := by
    unfold leftN
    congr 1
    refine List.filter_congr fun p hp => ?_
    obtain ⟨x, y⟩ := p
    obtain ⟨hx, hy⟩ := mem_prs.1 hp
    simp only at hx hy
    by_cases hxy : x < y
    · have hxb : Nat.blt x y = true := by rw [Nat.blt_eq]; exact hxy
      have hup := usd_put (m := m) (a := a) (b := b) (c := c) (by omega) (by omega) (by omega) (x := x) (y := y) (by omega) (by omega)
      simp only [hxb, Bool.true_and, Prod.mk.injEq]
      cases hm : usd m x y with
      | true =>
        have : usd (putM m a b c) x y = true := hup.2 (.inl hm)
        simp [this]
      | false =>
        by_cases h : (x = a ∧ y = b) ∨ (x = a ∧ y = c) ∨ (x = b ∧ y = c)
        · have : usd (putM m a b c) x y = true := hup.2 (.inr (by omega))
          rw [this]
          rcases h with h | h | h <;> simp [h]
        · have : usd (putM m a b c) x y = false := by
            cases hh : usd (putM m a b c) x y with
            | false => rfl
            | true =>
              have h5 := hup.1 hh
              rw [hm] at h5
              rcases h5 with h5 | h5
              · cases h5
              · omega
          rw [this]
          have q1 : ¬ (x = a ∧ y = b) := fun e => h (.inl e)
          have q2 : ¬ (x = a ∧ y = c) := fun e => h (.inr (.inl e))
          have q3 : ¬ (x = b ∧ y = c) := fun e => h (.inr (.inr e))
          simp [q1, q2, q3]
    · have hxb : Nat.blt x y = false := blt_no hxy
      simp [hxb]
  unfold leftN at *
  omega
theorem comp_count : ∀ n v m (q : List B3), v ≤ 15 → q ∈ compM n v m → 3 * q.length = leftN v m := by
  intro n
  induction n with
  | zero =>
    intro v m q hv hq
    rcases mem_comp hq with ⟨rfl, hn⟩ | ⟨k, a, b, c, r, hk, _⟩
    · have h := next_none hn
      have : leftN v m = 0 := by
        unfold leftN
        rw [List.length_eq_zero_iff, List.filter_eq_nil_iff]
        rintro ⟨x, y⟩ hp
        obtain ⟨hx, hy⟩ := mem_prs.1 hp
        simp only [Bool.and_eq_true, Nat.blt_eq, Bool.not_eq_true', not_and, Bool.not_eq_false]
        exact fun hxy => h x y hxy hy
      rw [this]; rfl
    · omega
  | succ n ih =>
    intro v m q hv hq
    rcases mem_comp hq with ⟨rfl, hn⟩ | ⟨k, a, b, c, r, hk, hn, hc, hm, hr, rfl⟩
    · have h := next_none hn
      have : leftN v m = 0 := by
        unfold leftN
        rw [List.length_eq_zero_iff, List.filter_eq_nil_iff]
        rintro ⟨x, y⟩ hp
        obtain ⟨hx, hy⟩ := mem_prs.1 hp
        simp only [Bool.and_eq_true, Nat.blt_eq, Bool.not_eq_true', not_and, Bool.not_eq_false]
        exact fun hxy => h x y hxy hy
      rw [this]; rfl
    · obtain rfl : n = k := by omega
      have hI := next_spec hn
      obtain ⟨h1, h2, h3⟩ := may_spec hm
      have := ih _ _ _ hv hr
      have h4 := leftN_put3 hI.ab h1 hc hv hI.left h2 h3
      simp only [List.length_cons]
      omega
end
end Go.Vc
/-
  Plain words: each full system is a completion of the empty one.
-/
namespace Go.Vc
section
variable {v m n : Nat}
/-- A block whose pairs are left. -/
def Opn (m : Nat) (d : B3) : Prop := ∃ x y z : Nat, d = b3N x y z ∧ x < y ∧ y < z ∧ usd m x y = false ∧ usd m x z = false ∧ usd m y z = false
def inB (v : Nat) (d : B3) : Prop := ∃ x y z : Nat, d = b3N x y z ∧ x < y ∧ y < z ∧ z < v
theorem good.inB {d : B3} (h : good v d) : inB v d := by
  obtain ⟨a, b, c⟩ := d
  unfold good at h
  simp only at h
  refine ⟨a.toNat, b.toNat, c.toNat, ?_, by omega, by omega, by omega⟩
  unfold b3N
  rw [Int.toNat_of_nonneg (by omega), Int.toNat_of_nonneg (by omega), Int.toNat_of_nonneg (by omega)]
/-- What is asked of the blocks that are yet to come. -/
structure Rest (v m : Nat) (B : List B3) : Prop where
  ok : ∀ d ∈ B, inB v d
  opn : ∀ d ∈ B, Opn m d
  lt : B.Pairwise B3.lt
  fit : B.Pairwise fun d e => common e d ≤ 1
theorem b3N_inj {x y z a b c : Nat} (h : b3N x y z = b3N a b c) : x = a ∧ y = b ∧ z = c := by
  unfold b3N at h
  simp only [Prod.mk.injEq] at h
  omega
theorem Rest.tail {x y z : Nat} {B : List B3} (hv : v ≤ 15) (h : Rest v m (b3N x y z :: B)) (hx : x < y) (hy : y < z) (hz : z < v) : Rest v (putM m x y z) B := by
  obtain ⟨h1, h2⟩ := List.pairwise_cons.1 h.lt
  obtain ⟨h3, h4⟩ := List.pairwise_cons.1 h.fit
  refine ⟨fun d hd => h.ok d (by simp [hd]), fun d hd => ?_, h2, h4⟩
  obtain ⟨a, b, c, rfl, ha, hb, u1, u2, u3⟩ := h.opn d (by simp [hd])
  obtain ⟨a', b', c', e, _, _, hc⟩ := h.ok _ (List.mem_cons_of_mem _ hd)
  obtain ⟨rfl, rfl, rfl⟩ := b3N_inj e
  have hc3 := h3 _ hd
  rw [common_le (b3N_three hx hy)] at hc3
  have k1 : ∀ p q : Nat, p < q → q < v → usd m p q = false → ¬ (has (b3N x y z) p ∧ has (b3N x y z) q) → usd (putM m x y z) p q = false := fun p q h1 h2 h3 h4 => (usd_putN hx hy (by omega) (by omega) (by omega) (by omega)).2 ⟨h3, h4⟩
  exact ⟨a, b, c, rfl, ha, hb, k1 a b (by omega) (by omega) u1 hc3.1, k1 a c (by omega) (by omega) u2 hc3.2.1, k1 b c (by omega) (by omega) u3 hc3.2.2⟩
theorem comp_all : ∀ (B : List B3) (m n : Nat), v ≤ 15 → Rest v m B → (∀ x y, x < y → y < v → usd m x y = true ∨ ∃ d ∈ B, has d x ∧ has d y) → B.length ≤ n → B ∈ compM n v m := by
  intro B
  induction B with
  | nil =>
    intro m n hv h hf hn
    rw [compM_none (nextM_none fun x y h1 h2 => by rcases hf x y h1 h2 with h3 | ⟨d, hd, _⟩; (· exact h3); (· simp at hd))]
    simp
  | cons b B ih =>
    intro m n hv h hf hn
    obtain ⟨n, rfl⟩ : ∃ k, n = k + 1 := ⟨n - 1, by simp only [List.length_cons] at hn; omega⟩
    obtain ⟨x, y, z, rfl, hx, hy, hz⟩ := h.ok b (by simp)
    obtain ⟨x', y', z', e, _, _, u1, u2, u3⟩ := h.opn _ (List.mem_cons_self ..)
    obtain ⟨rfl, rfl, rfl⟩ := b3N_inj e
    rcases next_cases v m with hall | ⟨p, q, hI⟩
    · rw [hall x y hx (by omega)] at u1; cases u1
    have hpq := hI.ab
    have hqv := hI.bv
    have low : ∀ s t : Nat, s < t → t < v → usd m s t = false → p ≤ s ∧ (p = s → q ≤ t) := by
      intro s t h1 h2 h3
      refine ⟨?_, fun e => ?_⟩
      · apply Decidable.byContradiction
        intro h4
        rw [hI.rows s t (by omega) h1 h2] at h3
        cases h3
      · apply Decidable.byContradiction
        intro h4
        subst e
        rw [hI.row t h1 (by omega)] at h3
        cases h3
    have hb := low x y hx (by omega) u1
    have hd : ∃ d ∈ b3N x y z :: B, has d p ∧ has d q := by
      rcases hf p q hpq hqv with h1 | h1
      · rw [hI.left] at h1; cases h1
      · exact h1
    obtain ⟨d, hd, hdp, hdq⟩ := hd
    obtain ⟨s, t, r, rfl, hs, ht, hr⟩ := h.ok d hd
    obtain ⟨s', t', r', e, _, _, w1, w2, w3⟩ := h.opn _ hd
    obtain ⟨rfl, rfl, rfl⟩ := b3N_inj e
    rw [has_b3N] at hdp hdq
    have hd1 := low s t hs (by omega) w1
    have hps : p = s := by omega
    have hqt : q = t := by
      have := hd1.2 hps
      omega
    have hle : x ≤ s ∧ (x = s → y ≤ t) := by
      rcases List.mem_cons.1 hd with e | e
      · obtain ⟨rfl, rfl, rfl⟩ := b3N_inj e; omega
      · have h1 := (List.pairwise_cons.1 h.lt).1 _ e
        unfold B3.lt b3N at h1
        simp only at h1
        omega
    have hxp : p = x := by omega
    have hyq : q = y := by have := hb.2 hxp; have := hle.2 (by omega); omega
    subst hxp hyq
    have hm : may m p q z = true := by
      unfold may
      have : Nat.blt q z = true := by rw [Nat.blt_eq]; exact hy
      simp [this, u2, u3]
    have hmem := ih (putM m p q z) n hv (h.tail hv hx hy hz) (fun i j h1 h2 => by
      have hup := usd_putN (m := m) (x := i) (y := j) hx hy (by omega : z < 16) (by omega) (by omega) (by omega)
      cases hu : usd (putM m p q z) i j with
      | true => exact .inl rfl
      | false =>
        refine .inr ?_
        obtain ⟨g1, g2⟩ := hup.1 hu
        rcases hf i j h1 h2 with g3 | ⟨d, hd, g3⟩
        · rw [g1] at g3; cases g3
        · rcases List.mem_cons.1 hd with rfl | hd
          · exact absurd g3 g2
          · exact ⟨d, hd, g3⟩) (by simp only [List.length_cons] at hn; omega)
    unfold compM
    rw [nextM_some hI]
    simp only
    refine List.mem_flatMap.2 ⟨z, List.mem_range.2 hz, ?_⟩
    rw [if_pos hm]
    exact List.mem_map.2 ⟨B, hmem, rfl⟩
/-! ### The pairs of blocks -/
def putB (m : Nat) (d : B3) : Nat := putM m d.1.toNat d.2.1.toNat d.2.2.toNat
def maskB (m : Nat) (bs : List B3) : Nat := bs.foldl putB m
theorem putB_b3N {x y z : Nat} : putB m (b3N x y z) = putM m x y z := by unfold putB b3N; simp
theorem mask_left : ∀ (B : List B3) (m : Nat), v ≤ 15 → Rest v m B → leftN v (maskB m B) + 3 * B.length = leftN v m := by
  intro B
  induction B with
  | nil => intro m _ _; rfl
  | cons b B ih =>
    intro m hv h
    obtain ⟨x, y, z, rfl, hx, hy, hz⟩ := h.ok b (by simp)
    obtain ⟨x', y', z', e, _, _, u1, u2, u3⟩ := h.opn _ (List.mem_cons_self ..)
    obtain ⟨rfl, rfl, rfl⟩ := b3N_inj e
    have h1 := ih (putM m x y z) hv (h.tail hv hx hy hz)
    have h2 := leftN_put3 hx hy hz hv u1 u2 u3
    have e : maskB m (b3N x y z :: B) = maskB (putM m x y z) B := by unfold maskB; rw [List.foldl_cons, putB_b3N]
    rw [e, List.length_cons]
    omega
theorem usd_mask : ∀ (B : List B3) (m : Nat), v ≤ 15 → (∀ d ∈ B, inB v d) → ∀ x y, x < y → y < v → (usd (maskB m B) x y = true ↔ usd m x y = true ∨ ∃ d ∈ B, has d x ∧ has d y) := by
  intro B
  induction B with
  | nil => intro m _ _ x y _ _; simp [maskB]
  | cons b B ih =>
    intro m hv h x y hx hy
    obtain ⟨a, b', c, rfl, h1, h2, h3⟩ := h b (by simp)
    have e : maskB m (b3N a b' c :: B) = maskB (putM m a b' c) B := by unfold maskB; rw [List.foldl_cons, putB_b3N]
    rw [e, ih _ hv (fun d hd => h d (by simp [hd])) x y hx hy]
    have hup := usd_putN (m := m) (x := x) (y := y) h1 h2 (by omega : c < 16) (by omega) (by omega) (by omega)
    constructor
    · rintro (g | ⟨d, hd, g⟩)
      · cases hu : usd m x y with
        | true => exact .inl rfl
        | false =>
          refine .inr ⟨b3N a b' c, by simp, ?_⟩
          apply Decidable.byContradiction
          intro g2
          rw [hup.2 ⟨hu, g2⟩] at g
          cases g
      · exact .inr ⟨d, by simp [hd], g⟩
    · rintro (g | ⟨d, hd, g⟩)
      · refine .inl ?_
        cases hu : usd (putM m a b' c) x y with
        | true => rfl
        | false => rw [(hup.1 hu).1] at g; cases g
      · rcases List.mem_cons.1 hd with rfl | hd
        · refine .inl ?_
          cases hu : usd (putM m a b' c) x y with
          | true => rfl
          | false => exact absurd g (hup.1 hu).2
        · exact .inr ⟨d, hd, g⟩
theorem usd_zero (x y : Nat) : usd 0 x y = false := by simp [usd]
theorem sts_lt {v : Int} {bs : List B3} (h : STS v bs) : bs.Pairwise B3.lt := by
  have key : ∀ i j (hi : i < bs.length) (hj : j < bs.length), i < j → B3.lt bs[i] bs[j] := by
    intro i j
    induction j with
    | zero => intro _ _ h; omega
    | succ j ih =>
      intro hi hj hij
      have h1 := (h.ord (j + 1) hj hj).2 j (by omega) rfl
      by_cases e : i = j
      · subst e; exact h1
      · exact lt_trans3 (ih hi (by omega) (by omega)) h1
  rw [List.pairwise_iff_getElem]
  exact fun i j hi hj hij => key i j hi hj hij
theorem sts_rest {bs : List B3} (h : STS (v : Int) bs) : Rest v 0 bs := by
  have hg : ∀ d ∈ bs, inB v d := fun d hd => (h.good d hd).inB
  refine ⟨hg, fun d hd => ?_, sts_lt h, ?_⟩
  · obtain ⟨x, y, z, rfl, h1, h2, h3⟩ := hg d hd
    exact ⟨x, y, z, rfl, h1, h2, usd_zero _ _, usd_zero _ _, usd_zero _ _⟩
  · rw [List.pairwise_iff_getElem]
    exact fun i j hi hj hij => h.fits j hj hj i hi hij
/-- A full system is among the completions of the empty one. -/
theorem sts_mem {bs : List B3} (h : STS (v : Int) bs) (hf : 3 * bs.length = leftN v 0) (hn : bs.length ≤ n) : bs ∈ compM n v 0 := by
  have hv : v ≤ 15 := by have := h.hi; omega
  have hr := sts_rest h
  have h1 := mask_left bs 0 hv hr
  have h0 : leftN v (maskB 0 bs) = 0 := by omega
  refine comp_all bs 0 n hv hr (fun x y hx hy => ?_) hn
  exact (usd_mask bs 0 hv hr.ok x y hx hy).1 (leftN_zero h0 x y hx hy)
end
theorem left3 : leftN 3 0 = 3 := by decide
theorem left7 : leftN 7 0 = 21 := by decide
theorem left9 : leftN 9 0 = 36 := by decide
end Go.Vc
/-
  Plain words: blocks in order, by insertion.
-/
namespace Go.Vc
def leB (a b : B3) : Prop := ¬ B3.lt b a
theorem leB_trans {a b c : B3} (h1 : leB a b) (h2 : leB b c) : leB a c := by unfold leB B3.lt at *; omega
theorem leB_of {a b : B3} (h : B3.lt a b) : leB a b := by unfold leB B3.lt at *; omega
theorem leB_anti {a b : B3} (h1 : leB a b) (h2 : leB b a) : a = b := by
  obtain ⟨a1, a2, a3⟩ := a
  obtain ⟨b1, b2, b3⟩ := b
  unfold leB B3.lt at *
  simp only at *
  have e1 : a1 = b1 := by omega
  have e2 : a2 = b2 := by omega
  have e3 : a3 = b3 := by omega
  rw [e1, e2, e3]
def SrtB (l : List B3) : Prop := l.Pairwise leB
theorem ins_perm {l : List B3} {b : B3} {y : Nat} : (l.take y ++ b :: l.drop y).Perm (l ++ [b]) := by
  refine List.perm_middle.trans ?_
  rw [List.take_append_drop]
  exact (List.perm_append_comm (l₁ := [b])).trans (List.Perm.refl _)
theorem ins_sorted {l : List B3} {b : B3} {y : Nat} (hs : SrtB l) (hy : y ≤ l.length) (h1 : ∀ j (hj : j < l.length), y ≤ j → B3.lt b l[j]) (h2 : ∀ (h0 : 0 < y), ¬ B3.lt b (l[y - 1]'(by omega))) : SrtB (l.take y ++ b :: l.drop y) := by
  have hp := List.pairwise_iff_getElem.1 hs
  unfold SrtB
  rw [List.pairwise_append, List.pairwise_cons]
  have hd : ∀ x ∈ l.drop y, B3.lt b x := by
    intro x hx
    obtain ⟨j, hj, rfl⟩ := List.getElem_of_mem hx
    rw [List.length_drop] at hj
    rw [List.getElem_drop]
    exact h1 (y + j) (by omega) (by omega)
  have ht : ∀ x ∈ l.take y, leB x b := by
    intro x hx
    obtain ⟨j, hj, rfl⟩ := List.getElem_of_mem hx
    rw [List.length_take] at hj
    rw [List.getElem_take]
    have h3 := h2 (by omega)
    by_cases e : j = y - 1
    · subst e; exact h3
    · exact leB_trans (hp j (y - 1) (by omega) (by omega) (by omega)) h3
  refine ⟨hs.sublist (List.take_sublist _ _), ⟨fun x hx => leB_of (hd x hx), hs.sublist (List.drop_sublist _ _)⟩, fun x hx z hz => ?_⟩
  rcases List.mem_cons.1 hz with rfl | hz
  · exact ht x hx
  · exact leB_trans (ht x hx) (leB_of (hd z hz))
theorem srtB_unique : ∀ {l m : List B3}, SrtB l → SrtB m → l.Perm m → l = m := by
  intro l
  induction l with
  | nil => intro m _ _ h; exact (List.Perm.nil_eq h)
  | cons a l ih =>
    intro m h1 h2 h
    cases m with
    | nil => exact absurd h.length_eq (by simp)
    | cons b m =>
      obtain ⟨ha, hl⟩ := List.pairwise_cons.1 h1
      obtain ⟨hb, hm⟩ := List.pairwise_cons.1 h2
      have e : a = b := by
        rcases List.mem_cons.1 (h.mem_iff.1 (List.mem_cons_self ..)) with e | e
        · exact e
        · rcases List.mem_cons.1 (h.mem_iff.2 (List.mem_cons_self ..)) with e' | e'
          · exact e'.symm
          · exact leB_anti (ha b e') (hb a e)
      subst e
      rw [ih hl hm (List.Perm.cons_inv h)]
theorem srtB_lt {l : List B3} (h : l.Pairwise B3.lt) : SrtB l := h.imp leB_of
end Go.Vc
