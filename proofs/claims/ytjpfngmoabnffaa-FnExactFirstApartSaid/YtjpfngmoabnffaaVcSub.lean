/-
  The calculus, part 11: slices of slices; clear; rows that lose some.
-/
import Derived.Test.YtjpfngmoabnffaaVcFun
set_option linter.unusedVariables false
set_option linter.unusedSimpArgs false
namespace Go.Vc
open Go Go.RowKit
section
variable {P : Program} {w0 w : World} {H H' : List Assn} {α : Type} {Q : Exit → Act → World → Prop} {σ : Sig} {o : Oper} {T e : TypeId} {C : Cod α}

theorem elem_of {T e : TypeId} (hT : P.underlying T = some (.slice e)) : P.underlying T = some (.slice (P.elem T)) ∧ P.elem T = e := by
  have : P.elem T = e := by simp [Program.elem, hT]
  exact ⟨this ▸ hT, this⟩
theorem map_add_zero (A : Option Addr) : A.map (·.add 0) = A := by
  cases A with
  | none => rfl
  | some q =>
    simp only [Option.map_some, Option.some.injEq]
    unfold Addr.add
    split <;> simp_all
/-- x[:h]. -/
theorem Pu.sliceH {x y : Operand} {A : Option Addr} {n c s : Nat} {K : IntKind} {i : Int} (k : Nat) (ho : o.op = .slice T x none (some y) none) (hT : P.underlying T = some (.slice e)) (hs : Sz P e s) (hx : ev σ x = some (.slice A n c)) (hy : ev σ y = some (.int K i)) (hi : i = (k : Int)) (hk : k ≤ c) :
    Pu P w0 o σ H (.slice A k c) := by
  intro w hw a ha
  have h1 := ha x (by simp [ho, Op.operands]) _ hx
  have h2 := ha y (by simp [ho, Op.operands]) _ hy
  subst hi
  obtain ⟨e1, e2⟩ := elem_of hT
  have e3 : Value.slice (if c = 0 then A else A.map (·.add 0)) k c = .slice A k c := by rw [map_add_zero]; simp
  have hr := run_slice_h (w := w) T A n c e1 K (k : Int) (by omega) (by omega)
  rw [e2, run_sz hs] at hr
  simp only [Result.andThen_ok, sliced, Int.toNat_natCast, Nat.zero_mul, Nat.sub_zero, e3] at hr
  simp [execOp, ho, h1, h2, run_sliceAt_slice (h := e1), hr]
/-- x[l:]. -/
theorem Pu.sliceL {x y : Operand} {A : Option Addr} {n c s : Nat} {K : IntKind} {i : Int} (k : Nat) (ho : o.op = .slice T x (some y) none none) (hT : P.underlying T = some (.slice e)) (hs : Sz P e s) (hx : ev σ x = some (.slice A n c)) (hy : ev σ y = some (.int K i)) (hi : i = (k : Int)) (hk : k ≤ n) :
    Pu P w0 o σ H (.slice (if c = k then A else A.map (·.add (k * s))) (n - k) (c - k)) := by
  intro w hw a ha
  have h1 := ha x (by simp [ho, Op.operands]) _ hx
  have h2 := ha y (by simp [ho, Op.operands]) _ hy
  subst hi
  obtain ⟨e1, e2⟩ := elem_of hT
  have hr := run_slice_l (w := w) T A n c e1 K (k : Int) (by omega) (by omega)
  rw [e2, run_sz hs] at hr
  simp only [Result.andThen_ok, sliced, Int.toNat_natCast] at hr
  simp [execOp, ho, h1, h2, run_sliceAt_slice (h := e1), hr]
theorem Rd.drop {A : Option Addr} {xs : List α} {c k s : Nat} (h : Rd C w A xs) (hs : s = C.sz) (hc : xs.length ≤ c) : Rd C w (if c = k then A else A.map (·.add (k * s))) (xs.drop k) := by
  intro i hi
  rw [List.length_drop] at hi
  obtain ⟨q, hq, hr⟩ := h (k + i) (by omega)
  rw [if_neg (by omega), hq]
  refine ⟨_, rfl, fun j u hj => ?_⟩
  rw [List.getElem_drop] at hj
  have := hr j u hj
  rw [Addr.add_add', hs]
  rw [show k * C.sz + (i * C.sz + j) = (k + i) * C.sz + j by rw [Nat.add_mul]; omega]
  exact this
theorem Rd.take {A : Option Addr} {xs : List α} (h : Rd C w A xs) (k : Nat) : Rd C w A (xs.take k) := by
  intro i hi
  rw [List.length_take] at hi
  obtain ⟨q, hq, hr⟩ := h i (by omega)
  exact ⟨q, hq, fun j u hj => hr j u (by rw [List.getElem_take] at hj; exact hj)⟩
theorem Own.cap {c i : Nat} {A : Option Addr} {xs : List α} (hw : St w0 H w) (hp : pull i H = Option.some (Own T C A c xs, H')) : xs.length ≤ c := by
  obtain ⟨F, ho, hF⟩ := hw.get i hp
  rcases ho.2 with ⟨h1, h2⟩ | ⟨g, cap, cur, hvv, hbase, hh, hle, hmax, hcs, htake⟩
  · omega
  · have hcap : c = cap := by injection hvv
    omega
/-- A row that is owned, and looked at in part. -/
theorem Own.takeP {A : Option Addr} {c : Nat} {xs : List α} (k : Nat) : ∀ w F, (Own T C A c xs).P w F → (Own T C A c (xs.take k)).P w F := by
  rintro w F ⟨h, hF⟩
  have hfl : (xs.take k).flatMap C.enc = (xs.flatMap C.enc).take ((xs.take k).length * C.sz) := by
    have h1 : xs.flatMap C.enc = (xs.take k).flatMap C.enc ++ (xs.drop k).flatMap C.enc := by rw [← List.flatMap_append, List.take_append_drop]
    have h2 : ((xs.take k).flatMap C.enc).length = (xs.take k).length * C.sz := length_flatMap_enc C _
    rw [h1, ← h2, List.take_append_of_le_length (Nat.le_refl _), List.take_length]
  refine ⟨⟨by rw [length_flatMap_enc], ?_⟩, fun j => ?_⟩
  · rcases h.2 with ⟨h1, h2⟩ | ⟨g, cap, cur, hv, hg, hh, hle, hmax, hcs, htake⟩
    · have hx0 : xs = [] := List.eq_nil_of_length_eq_zero (by omega)
      subst hx0
      exact .inl ⟨by simpa using h1, by simp⟩
    · refine .inr ⟨g, cap, cur, ?_, hg, hh, ?_, hmax, hcs, ?_⟩
      · injection hv with h1 h2 h3
        rw [h1, h3]
      · rw [List.length_take]; omega
      · have h3 : (xs.take k).length * C.sz ≤ xs.length * C.sz := Nat.mul_le_mul_right _ (by rw [List.length_take]; omega)
        rw [hfl, ← htake, List.take_take, Nat.min_eq_left h3]
  · rw [hF j]
    cases A <;> simp [Value.ownBlock]
/-- clear of a part at the end. -/
theorem Ef.clearTail {x : Operand} {sz bytes c c2 n : Nat} {z : Value} {A : Option Addr} {xs : List α} {y : α} (i : Nat) (k : Nat) (ho : o.op = .call { callee := .builtin .clear, args := #[x], argTypes := #[T] }) (hT : P.underlying T = some (.slice e)) (hi : Inf P e sz bytes z) (hs : sz = C.sz) (hz : z.cells.toList = C.enc y)
    (hx : ev σ x = some (.slice (if c = k then A else A.map (·.add (k * sz))) (n - k) c2)) (hp : pull i H = some (Own e C A c xs, H')) (hn : n = xs.length) (hk : k ≤ xs.length) :
    Ef P w0 o σ H Q (fun v H'' => v = .tuple #[] ∧ H'' = repl i H (Own e C A c (xs.take k ++ List.replicate (xs.length - k) y))) := by
  subst hn
  intro w hw a ha
  have h1 := ha x (by simp [ho, Op.operands, Call.operands]) _ hx
  obtain ⟨i0, hi1, hi2, hi3, hi4⟩ := hi.parts
  subst hs
  by_cases hk0 : xs.length - k = 0
  · have hkk : k = xs.length := by omega
    have hr : (execOp a.eval o).run P w = .ok (.value (.tuple #[])) w := by
      rw [hk0] at h1
      cases hA : (if c = k then A else A.map (·.add (k * C.sz))) <;> rw [hA] at h1 <;> simp [execOp, ho, resolve, invoke, builtin, h1, Builtin.clear_, run_underlying hT]
    refine upon_ok hr ⟨_, _, rfl, hw.perm ?_, rfl, rfl⟩
    subst hkk
    rw [List.take_length, Nat.sub_self, List.replicate_zero, List.append_nil]
    exact (pull_perm hp).trans (repl_perm hp)
  · obtain ⟨F, ho', hF⟩ := hw.get i hp
    rcases ho'.2 with ⟨h3, h4⟩ | ⟨g, cap, cur, hvv, hbase, hh, hle, hmax, hcs, htake⟩
    · omega
    · have hA : A = some ⟨g, 0, none⟩ := by injection hvv
      have hcap : c = cap := by injection hvv
      subst hA
      have hck : ¬ c = k := by omega
      rw [if_neg hck] at h1
      have hcells : (Builtin.zeroCells z.cells (xs.length - k)).toList = (List.replicate (xs.length - k) y).flatMap C.enc := by
        have : Builtin.zeroCells z.cells (xs.length - k) = madeCells z.cells ((xs.length - k) * C.sz) := by
          have hsz : z.cells.size = C.sz := by rw [← Array.length_toList, hz, C.len]
          unfold Builtin.zeroCells madeCells
          rw [hsz]
        rw [this, made_eq C y z (xs.length - k) hz]
      have hlen : ((List.replicate (xs.length - k) y).flatMap C.enc).length = (xs.length - k) * C.sz := by rw [length_flatMap_enc, List.length_replicate]
      have hkc : k * C.sz + (xs.length - k) * C.sz ≤ cur.size := by
        rw [hcs, ← Nat.add_mul]
        exact Nat.mul_le_mul_right _ (by omega)
      have hst := run_storeCells_at P g (k * C.sz) e ((List.replicate (xs.length - k) y).flatMap C.enc) 0 cur w hh (by rw [hlen]; omega) (fun u hu => by obtain ⟨y', _, hy'⟩ := List.mem_flatMap.1 hu; exact C.one y' u hy')
      simp only [Nat.add_zero, hlen] at hst
      have hzr : (zeroValue e).run P w = .ok z w := by simp [zeroValue, typeInfo, hi1, hi2]
      obtain ⟨m, hm⟩ : ∃ m, xs.length - k = m + 1 := ⟨xs.length - k - 1, by omega⟩
      have hr : (execOp a.eval o).run P w = .ok (.value (.tuple #[])) (w.setRow g (cur.toList.take (k * C.sz) ++ (List.replicate (xs.length - k) y).flatMap C.enc ++ cur.toList.drop (k * C.sz + (xs.length - k) * C.sz)).toArray) := by
        simp only [Option.map_some, add_mk, Nat.zero_add] at h1
        have hb : (Builtin.clear_ #[T] o.type #[.slice (some ⟨g, k * C.sz, none⟩) (xs.length - k) c2]).run P w = .ok (.tuple #[]) (w.setRow g (cur.toList.take (k * C.sz) ++ (List.replicate (xs.length - k) y).flatMap C.enc ++ cur.toList.drop (k * C.sz + (xs.length - k) * C.sz)).toArray) := by
          have hst' := hst
          rw [← hcells] at hst' ⊢
          rw [hm] at hst' ⊢
          simp [Builtin.clear_, run_underlying hT, hzr, hst']
        simp [execOp, ho, resolve, invoke, builtin, h1, hb]
      refine upon_ok hr ⟨_, _, rfl, ?_, rfl, rfl⟩
      refine St.perm ?_ (repl_perm hp)
      refine (hw.perm (pull_perm hp)).upd (B := Own e C (some ⟨g, 0, none⟩) c (xs.take k ++ List.replicate (xs.length - k) y)) ?_
      rintro F2 ⟨ho2, hF2⟩ hb
      have hl : (xs.take k ++ List.replicate (xs.length - k) y).length = xs.length := by simp; omega
      refine ⟨⟨rfl, rfl, rfl, by simp [World.setRow], fun m' _ hm' => setRow_other w g m' _ (fun e1 => hm' ((hF2 m').2 (by subst e1; rfl))), Nat.le_refl _⟩, F2, ⟨⟨by rw [length_flatMap_enc], .inr ⟨g, cap, _, by rw [hl, hcap], Nat.zero_le _, setRow_heap w g cur _ e _ hh, by rw [hl]; omega, hmax, ?_, ?_⟩⟩, ?_⟩, ?_⟩
      · simp only [List.size_toArray, List.length_append, List.length_take, List.length_drop, Array.length_toList, hlen]
        omega
      · rw [hl, List.flatMap_append]
        have hfl : (xs.take k).flatMap C.enc = cur.toList.take (k * C.sz) := by
          have hk2 : k * C.sz ≤ xs.length * C.sz := Nat.mul_le_mul_right _ hk
          have e5 : cur.toList.take (k * C.sz) = (xs.flatMap C.enc).take (k * C.sz) := by rw [← htake, List.take_take, Nat.min_eq_left hk2]
          have h1 : xs.flatMap C.enc = (xs.take k).flatMap C.enc ++ (xs.drop k).flatMap C.enc := by rw [← List.flatMap_append, List.take_append_drop]
          have h2 : ((xs.take k).flatMap C.enc).length = k * C.sz := by rw [length_flatMap_enc, List.length_take, Nat.min_eq_left hk]
          rw [e5, h1, List.take_append_of_le_length (by rw [h2]; exact Nat.le_refl _)]
          exact (List.take_of_length_le (by rw [h2]; exact Nat.le_refl _)).symm
        rw [hfl]
        have hlt : (cur.toList.take (k * C.sz)).length = k * C.sz := by rw [List.length_take, Array.length_toList]; omega
        rw [List.toList_toArray]
        rw [List.take_append_of_le_length (by rw [List.length_append, hlt, hlen, ← Nat.add_mul]; exact Nat.mul_le_mul_right _ (by omega))]
        rw [List.take_of_length_le (by rw [List.length_append, hlt, hlen, ← Nat.add_mul]; exact Nat.mul_le_mul_right _ (by omega))]
      · intro m'
        rw [hF2 m', hl]
      · intro m' hm'
        exact ⟨.inl hm', by have := (hb m' hm').2; simpa [World.setRow] using this⟩
theorem Pu.cast {u v : Value} (e : u = v) (h : Pu P w0 o σ H u) : Pu P w0 o σ H v := e ▸ h
/-- Some rows are dropped. -/
theorem RowsA.sublist {ps qs : List (Sl × List α)} (h : qs.Sublist ps) : St w0 (RowsA T C ps :: H) w → St w0 (RowsA T C qs :: H) w := by
  induction h generalizing H with
  | slnil => exact id
  | cons p _ ih =>
    intro hw
    exact ih (RowsA.uncons (s := p.1) (xs := p.2) hw).2.tail
  | cons_cons p _ ih =>
    intro hw
    obtain ⟨h1, h2⟩ := RowsA.uncons (s := p.1) (xs := p.2) hw
    have h3 := ih (h2.perm (List.Perm.swap _ _ _))
    have h4 := RowsA.cons (h3.perm (List.Perm.swap _ _ _))
    have e : (⟨p.1.A, p.2.length, p.1.c⟩ : Sl) = p.1 := by rw [← h1]
    rw [e] at h4
    exact h4
theorem Sl.eta {s : Sl} {xs : List α} (h : s.n = xs.length) : (⟨s.A, xs.length, s.c⟩ : Sl) = s := by rw [← h]
end
/-! ### Arrays of three numbers, compared -/
section
variable {P : Program} {w0 w : World} {H : List Assn} {σ : Sig} {o : Oper}
theorem run_part_int {T : TypeId} (hT : P.underlying T = some (.int .i64)) (cs : Array Value) (j : Nat) (v : Value) (h : cs[j]? = some v) : (part T cs j).run P w = .ok v w := by
  have hp : plainT P T = true := by simp [plainT, hT]
  simp [part, run_isAgg_f hp, h]
theorem run_eq3 {T E : TypeId} (hT : P.underlying T = some (.array 3 E)) (hE : P.underlying E = some (.int .i64)) (hs : Sz P E 1) (a b : B3) (d : Nat) (w : World) : (Op.equalIn (d + 1 + 1) T (B3.v a) (B3.v b)).run P w = .ok (decide (a = b)) w := by
  obtain ⟨i, hi, hsz⟩ := Option.map_eq_some_iff.1 hs
  have hc : P.cellsOf E = 1 := by simp [Program.cellsOf, hi, hsz]
  unfold B3.v
  rw [run_equalIn_array w (d + 1) _ _ hT hi, hc]
  have r : List.range 3 = [0, 1, 2] := rfl
  have e0 : ∀ x y z : Value, (part E #[x, y, z] 0).run P w = .ok x w := fun x y z => run_part_int hE _ _ _ rfl
  have e1 : ∀ x y z : Value, (part E #[x, y, z] 1).run P w = .ok y w := fun x y z => run_part_int hE _ _ _ rfl
  have e2 : ∀ x y z : Value, (part E #[x, y, z] 2).run P w = .ok z w := fun x y z => run_part_int hE _ _ _ rfl
  have q : ∀ x y : Int, (Op.equalIn (d + 1) E (.int .i64 x) (.int .i64 y)).run P w = .ok (x == y) w := fun x y => run_equalIn_int w d E .i64 .i64 x y hE
  obtain ⟨a1, a2, a3⟩ := a
  obtain ⟨b1, b2, b3⟩ := b
  rw [r]
  simp only [Op.eqItems, Sem.run_bind, Nat.zero_mul, Nat.one_mul, Nat.mul_one, e0, e1, e2, q, Result.andThen_ok]
  by_cases h1 : a1 = b1
  · subst h1
    by_cases h2 : a2 = b2
    · subst h2
      by_cases h3 : a3 = b3
      · subst h3; simp [e0, e1, e2, q]
      · simp [h3, e0, e1, e2, q]
    · simp [h2, e0, e1, e2, q]
  · simp [h1, e0, e1, e2, q]
theorem guard3 {T : TypeId} {op : BinOp} {x y : Operand} {a b : B3} (hg : P.eqGuardType P.depth T = false) : (eqGuard op T x y (B3.v a) (B3.v b)).run P w = .ok () w := by
  unfold B3.v
  exact run_eqGuard_agg w op T x y _ _ hg
theorem Pu.eqlB3 {T T2 E : TypeId} {x y : Operand} {a b : B3} (hT : P.underlying T = some (.array 3 E)) (hE : P.underlying E = some (.int .i64)) (hs : Sz P E 1) (hg : P.eqGuardType P.depth T = false) (ho : o.op = .binOp .eql T x y T2) (hx : ev σ x = some (B3.v a)) (hy : ev σ y = some (B3.v b)) : Pu P w0 o σ H (.bool (decide (a = b))) := by
  intro w hw ac ha
  have h1 := ha x (by simp [ho, Op.operands]) _ hx
  have h2 := ha y (by simp [ho, Op.operands]) _ hy
  have hb : (Go.binOp .eql T (B3.v a) (B3.v b)).run P w = .ok (.bool (decide (a = b))) w := by
    have := run_eq3 hT hE hs a b 9998 w
    unfold B3.v at *
    rw [run_eql_struct, show (10000 : Nat) = 9998 + 1 + 1 from rfl, this]
    rfl
  simp only [execOp, ho, h1, h2, Sem.run_bind, guard3 hg, hb, Result.andThen_ok, Sem.run_pure]
theorem Pu.neqB3 {T T2 E : TypeId} {x y : Operand} {a b : B3} (hT : P.underlying T = some (.array 3 E)) (hE : P.underlying E = some (.int .i64)) (hs : Sz P E 1) (hg : P.eqGuardType P.depth T = false) (ho : o.op = .binOp .neq T x y T2) (hx : ev σ x = some (B3.v a)) (hy : ev σ y = some (B3.v b)) : Pu P w0 o σ H (.bool (!decide (a = b))) := by
  intro w hw ac ha
  have h1 := ha x (by simp [ho, Op.operands]) _ hx
  have h2 := ha y (by simp [ho, Op.operands]) _ hy
  have hb : (Go.binOp .neq T (B3.v a) (B3.v b)).run P w = .ok (.bool (!decide (a = b))) w := by
    have := run_eq3 hT hE hs a b 9998 w
    unfold B3.v at *
    rw [run_neq_struct, show (10000 : Nat) = 9998 + 1 + 1 from rfl, this]
    rfl
  simp only [execOp, ho, h1, h2, Sem.run_bind, guard3 hg, hb, Result.andThen_ok, Sem.run_pure]
end
theorem idxP_at {β : Type} {p : β → Prop} [DecidablePred p] {xs : List β} (h : ¬ idxP p xs = -1) : ∃ k, ∃ hk : k < xs.length, idxP p xs = (k : Int) ∧ p xs[k] ∧ ∀ j (hj : j < xs.length), j < k → ¬ p xs[j] := by
  by_cases hc : ∃ k, ∃ hk : k < xs.length, p xs[k]
  · obtain ⟨k, hk, h1⟩ := hc
    have key : ∀ n k (hk : k < xs.length), k ≤ n → p xs[k] → ∃ k, ∃ hk : k < xs.length, p xs[k] ∧ ∀ j (hj : j < xs.length), j < k → ¬ p xs[j] := by
      intro n
      induction n with
      | zero => intro k hk h0 h1; exact ⟨k, hk, h1, fun j hj h => by omega⟩
      | succ n ih =>
        intro k hk h0 h1
        by_cases h2 : ∃ j, ∃ hj : j < xs.length, j < k ∧ p xs[j]
        · obtain ⟨j, hj, h3, h4⟩ := h2
          exact ih j hj (by omega) h4
        · exact ⟨k, hk, h1, fun j hj h3 h4 => h2 ⟨j, hj, h3, h4⟩⟩
    obtain ⟨k, hk, h1, h2⟩ := key k k hk (Nat.le_refl _) h1
    exact ⟨k, hk, idxP_found hk h1 h2, h1, h2⟩
  · exact absurd (idxP_none (fun j hj hh => hc ⟨j, hj, hh⟩)) h
theorem idxP_not {β : Type} {p : β → Prop} [DecidablePred p] {xs : List β} (h : idxP p xs = -1) : ∀ j (hj : j < xs.length), ¬ p xs[j] := fun j hj hh => by
  have := (idxP_nonneg (p := p) (xs := xs)).2 ⟨_, List.getElem_mem hj, hh⟩
  omega
/-! ### What is kept -/
section
variable {β : Type} {p : β → Prop} [DecidablePred p] {ps : List β} {j : Nat}
def keptL (p : β → Prop) [DecidablePred p] (ps : List β) (j : Nat) : List β := (ps.take j).filter fun x => !decide (p x)
theorem keptL_le : (keptL p ps j).length ≤ j := Nat.le_trans (List.length_filter_le _ _) (by rw [List.length_take]; omega)
theorem keptL_yes (hj : j < ps.length) (h : p ps[j]) : keptL p ps (j + 1) = keptL p ps j := by
  unfold keptL
  rw [take_snoc hj, List.filter_append]
  simp [h]
theorem keptL_no (hj : j < ps.length) (h : ¬ p ps[j]) : keptL p ps (j + 1) = keptL p ps j ++ [ps[j]] := by
  unfold keptL
  rw [take_snoc hj, List.filter_append]
  simp [h]
theorem keptL_all (h : ∀ k (hk : k < ps.length), k < j → ¬ p ps[k]) (hj : j ≤ ps.length) : keptL p ps j = ps.take j := by
  induction j with
  | zero => simp [keptL]
  | succ j ih =>
    rw [keptL_no (by omega) (h j (by omega) (by omega)), ih (fun k hk hkj => h k hk (by omega)) (by omega), take_snoc (by omega)]
theorem keptL_end (hj : ps.length ≤ j) : keptL p ps j = ps.filter fun x => !decide (p x) := by unfold keptL; rw [List.take_of_length_le hj]
/-- The row while it is being moved together. -/
def movL (p : β → Prop) [DecidablePred p] (ps : List β) (j : Nat) : List β := keptL p ps j ++ ps.drop (keptL p ps j).length
theorem movL_len : (movL p ps j).length = ps.length := by
  have h1 : (keptL p ps j).length ≤ ps.length := Nat.le_trans (List.length_filter_le _ _) (by rw [List.length_take]; omega)
  unfold movL
  rw [List.length_append, List.length_drop]
  omega
theorem movL_get (hj : j < ps.length) (h2 : j < (movL p ps j).length) : (movL p ps j)[j] = ps[j] := by
  have := keptL_le (p := p) (ps := ps) (j := j)
  apply Option.some.inj
  rw [← List.getElem?_eq_getElem h2]
  unfold movL
  rw [List.getElem?_append_right this, List.getElem?_drop, show (keptL p ps j).length + (j - (keptL p ps j).length) = j by omega, List.getElem?_eq_getElem hj]
theorem movL_no (hj : j < ps.length) (h : ¬ p ps[j]) : (movL p ps j).set (keptL p ps j).length ps[j] = movL p ps (j + 1) := by
  have h1 := keptL_le (p := p) (ps := ps) (j := j)
  unfold movL
  rw [keptL_no hj h, List.set_append_right _ _ (Nat.le_refl _), Nat.sub_self, List.length_append, List.length_singleton, drop_cons (show (keptL p ps j).length < ps.length by omega), List.set_cons_zero, List.append_assoc]
  rfl
theorem movL_yes (hj : j < ps.length) (h : p ps[j]) : movL p ps j = movL p ps (j + 1) := by
  unfold movL
  rw [keptL_yes hj h]
theorem movL_start (h : ∀ k (hk : k < ps.length), k < j → ¬ p ps[k]) (hj : j < ps.length) (hp : p ps[j]) : ps = movL p ps (j + 1) ∧ (keptL p ps (j + 1)).length = j := by
  have e : keptL p ps (j + 1) = ps.take j := by rw [keptL_yes hj hp, keptL_all h (by omega)]
  unfold movL
  rw [e]
  rw [List.length_take, Nat.min_eq_left (by omega), List.take_append_drop]
  exact ⟨rfl, rfl⟩
theorem movL_take : (movL p ps j).take (keptL p ps j).length = keptL p ps j := by unfold movL; rw [List.take_append_of_le_length (Nat.le_refl _), List.take_length]
theorem keep_none (h : ∀ k (hk : k < ps.length), ¬ p ps[k]) : (ps.filter fun x => !decide (p x)) = ps := by
  refine List.filter_eq_self.2 fun x hx => ?_
  obtain ⟨k, hk, rfl⟩ := List.getElem_of_mem hx
  simp [h k hk]
end
end Go.Vc
