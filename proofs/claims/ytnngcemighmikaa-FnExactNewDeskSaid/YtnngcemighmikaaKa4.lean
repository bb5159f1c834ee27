/-
  The calculus and plain words, part 4.
-/
import Derived.Test.YtnngcemighmikaaKa3
import Derived.Shelf.SlSortCmp.NoneTotal
import Derived.Shelf.SortM.Plain
import Derived.Shelf.SortM.SortNone
set_option linter.unusedVariables false
set_option linter.unusedSimpArgs false
/-
  The calculus, part 15: arrays and structs that are built.
-/
namespace Go.Vc
open Go Go.RowKit
section
variable {P : Program} {N : Nat} {w0 : World} {Q : Exit → Act → World → Prop} {σ σ' : Sig} {H H' : List Assn} {ops : Array Oper} {o : Oper}
theorem parts_eval {a : Act} {parts : Array (Nat × Operand)} {vs : List Value} (h2 : (parts.toList.map (·.2)).map a.eval = vs) : (parts.map fun (i, x) => (i, a.eval x)).toList = (parts.toList.map (·.1)).zip vs := by
  rw [← h2, Array.toList_map]
  generalize parts.toList = l
  induction l with
  | nil => rfl
  | cons p l ih => simp [ih]
theorem Pu.buildA {T e n sz : Nat} {parts : Array (Nat × Operand)} {vs cs : List Value} {z v : Value} (hv : v = .agg cs.toArray) (ho : o.op = .build T parts) (hT : P.underlying T = some (.array n e)) (hz : Zr P T z) (hs : Sz P e sz)
    (hx : evs σ (parts.toList.map (·.2)) = some vs) (hf : Instr.fill (fun i => some (i * sz, sz)) z.cells ((parts.toList.map (·.1)).zip vs) = some cs.toArray) : Pu P w0 o σ H v := by
  subst hv
  intro w hw a ha
  have h2 := evs_map (a := a) (fun x hx v hv => ha x (by simpa [ho, Op.operands] using hx) v hv) hx
  have hp := parts_eval h2
  simp only [execOp, ho, Instr.build, Sem.run_bind, run_zr hz, Result.andThen_ok, run_underlying hT, run_sz hs, hp, hf, Sem.run_pure]
def szOf (P : Program) (t : Nat) : Nat := ((P.info? t).map (·.size)).getD 0
def placesOf (P : Program) (fs : List Field) : List (Nat × Nat) := fs.map fun f => (f.offset, szOf P f.type)
def knownB (P : Program) (fs : List Field) : Bool := fs.all fun f => (P.info? f.type).isSome
theorem run_mapM {α β : Type} {f : α → Sem β} {g : α → β} {w : World} (l : Array α) (h : ∀ x, x ∈ l → (f x).run P w = .ok (g x) w) : (l.mapM f).run P w = .ok (l.toList.map g).toArray w := by
  obtain ⟨l⟩ := l
  rw [List.mapM_toArray, map_eq_pure_bind]
  have key : ∀ l : List α, (∀ x, x ∈ l → (f x).run P w = .ok (g x) w) → (l.mapM f).run P w = .ok (l.map g) w := by
    intro l
    induction l with
    | nil => intro _; rfl
    | cons x l ih =>
      intro h
      rw [List.mapM_cons]
      simp only [Sem.run_bind, h x (by simp), Result.andThen_ok, ih (fun y hy => h y (by simp [hy])), Sem.run_pure, List.map_cons]
  simp only [Sem.run_bind, key l (fun x hx => h x (by simpa using hx)), Result.andThen_ok, Sem.run_pure]
theorem Pu.buildS {T : Nat} {fields : Array Field} {parts : Array (Nat × Operand)} {vs cs : List Value} {z v : Value} (hv : v = .agg cs.toArray) (ho : o.op = .build T parts) (hT : P.underlying T = some (.struct fields)) (hz : Zr P T z) (hk : knownB P fields.toList = true)
    (hx : evs σ (parts.toList.map (·.2)) = some vs) (hf : Instr.fill (fun i => (placesOf P fields.toList).toArray[i]?) z.cells ((parts.toList.map (·.1)).zip vs) = some cs.toArray) : Pu P w0 o σ H v := by
  subst hv
  intro w hw a ha
  have h2 := evs_map (a := a) (fun x hx v hv => ha x (by simpa [ho, Op.operands] using hx) v hv) hx
  have hp := parts_eval h2
  have hm := run_mapM (P := P) (w := w) (f := fun f : Field => (do pure (f.offset, ← sizeOf f.type) : Sem (Nat × Nat))) (g := fun f => (f.offset, szOf P f.type)) fields (fun x hx => by
    have h3 := List.all_eq_true.1 hk x (by simpa using hx)
    obtain ⟨i, hi⟩ := Option.isSome_iff_exists.1 h3
    have hs : Sz P x.type (szOf P x.type) := by unfold Sz szOf; rw [hi]; rfl
    simp only [Sem.run_bind, run_sz hs, Result.andThen_ok, Sem.run_pure])
  have hm' : (fields.mapM fun f => (do pure (f.offset, ← sizeOf f.type) : Sem (Nat × Nat))).run P w = .ok (placesOf P fields.toList).toArray w := hm
  simp only [execOp, ho, Instr.build, Sem.run_bind, run_zr hz, Result.andThen_ok, run_underlying hT, hm', hp, hf, Sem.run_pure]
end
end Go.Vc
/-
  The calculus, part 16: lists of systems with one number of points.
-/
namespace Go.Vc
open Go Go.RowKit
/-- A system with v points: the number and the slice of its blocks. -/
def SyC (v : Int) : Cod Sl := ⟨2, fun s => [.int .i64 v, s.v], by decide, fun _ => rfl, fun _ u hu => by simp at hu; rcases hu with rfl | rfl <;> rfl⟩
section
variable {P : Program} {N : Nat} {w0 w : World} {Q : Exit → Act → World → Prop} {σ : Sig} {H H' : List Assn} {ops : Array Oper} {rest : List Oper} {T : TypeId} {v : Int}
theorem Ld.rowY {A : Option Addr} {ps : List (Sl × List B3)} (hr : ∀ w, St w0 H w → Rd (SyC v) w A (tops ps)) (hn : LenOk ps) {k s : Nat} (hk : k < ps.length) (hs : s = 2) :
    ∀ w, St w0 H w → ∃ q, A.map (·.add (k * s)) = some q ∧ ∀ m u, ([.int .i64 v, .slice (ps[k]).1.A (ps[k]).2.length (ps[k]).1.c] : List Value)[m]? = some u → w.cell? (q.add m) = some u := by
  have hk' : k < (tops ps).length := by rw [tops_len]; exact hk
  intro w hw
  obtain ⟨q, h1, h2⟩ := Ld.rds (C := SyC v) hr hk' (s := s) hs w hw
  refine ⟨q, h1, fun m u hm => h2 m u ?_⟩
  have e : (tops ps)[k] = (ps[k]).1 := List.getElem_map ..
  rw [e]
  have h3 := (hn _ (List.getElem_mem hk)).1
  simp only [SyC, Sl.v, h3]
  exact hm
/-- A list of systems that is read. -/
structure RdY (v : Int) (w : World) (A : Option Addr) (ps : List (Sl × List B3)) : Prop where
  top : Rd (SyC v) w A (tops ps)
  len : LenOk ps
  row : ∀ k (hk : k < ps.length), Rd B3C w (ps[k]).1.A (ps[k]).2
theorem Ld.yy {T2 c : Nat} {A : Option Addr} {ps : List (Sl × List B3)} {H2 : List Assn} (i j : Nat) (hp : pull i H = some (Own T2 (SyC v) A c (tops ps), H')) (hq : pull j H = some (RowsA T B3C ps, H2)) : ∀ w, St w0 H w → RdY v w A ps :=
  fun w hw => ⟨Own.rd hw hp, RowsA.len j hq w hw, fun k hk => Ld.rows j hq hk w hw⟩
theorem RdY.st {A : Option Addr} {ps : List (Sl × List B3)} (h : RdY v w0 A ps) (hw : St w0 H w) : RdY v w A ps := ⟨h.top.st hw, h.len, fun k hk => (h.row k hk).st hw⟩
theorem RdY.below {A : Option Addr} {ps : List (Sl × List B3)} (h : RdY v w0 A ps) (hb : Bel w0.heap.size w0 w) : RdY v w A ps := ⟨h.top.below hb, h.len, fun k hk => (h.row k hk).below hb⟩
/-- A box with a list of systems, and a box with their number of points: what has come so far, l. -/
def SysE (sT bT lT iT : TypeId) (v : Int) (b0 b1 : Nat) (l : List (List B3)) : Assn :=
  .exi fun q : (Option Addr × Nat) × List (Sl × List B3) => .sep (.pur (conts q.2 = l)) (.sep (Blk b0 [.slice q.1.1 (tops q.2).length q.1.2] lT) (.sep (Blk b1 [.int .i64 v] iT) (.sep (Own sT (SyC v) q.1.1 q.1.2 (tops q.2)) (RowsA bT B3C q.2))))
variable {sT bT lT iT : TypeId} {b0 b1 : Nat} {l : List (List B3)}
theorem SysE.elim (hw : St w0 (SysE sT bT lT iT v b0 b1 l :: H) w) : ∃ A k ps, conts ps = l ∧ St w0 (Blk b0 [.slice A (tops ps).length k] lT :: Blk b1 [.int .i64 v] iT :: Own sT (SyC v) A k (tops ps) :: RowsA bT B3C ps :: H) w := by
  obtain ⟨q, hw⟩ := hw.exi
  have h1 := hw.sep.pur
  refine ⟨q.1.1, q.1.2, q.2, h1.1, ?_⟩
  have h2 := h1.2.sep
  have h3 := (h2.perm (List.Perm.swap _ _ _)).sep
  have h5 := (h3.perm (List.Perm.swap _ _ _)).sep
  exact (h5.sub (Sub.keep 3 rfl (Sub.keep 2 rfl (Sub.keep 0 rfl (Sub.keep 0 rfl (Sub.refl _))))))
theorem V.sysE {c : Code} (h : ∀ A k ps, conts ps = l → V P N w0 c Q σ (Blk b0 [.slice A (tops ps).length k] lT :: Blk b1 [.int .i64 v] iT :: Own sT (SyC v) A k (tops ps) :: RowsA bT B3C ps :: H)) : V P N w0 c Q σ (SysE sT bT lT iT v b0 b1 l :: H) := by
  intro w hw
  obtain ⟨A, k, ps, h1, h2⟩ := SysE.elim hw
  exact h A k ps h1 w h2
theorem O.sysE (h : ∀ A k ps, conts ps = l → O P N w0 ops Q rest σ (Blk b0 [.slice A (tops ps).length k] lT :: Blk b1 [.int .i64 v] iT :: Own sT (SyC v) A k (tops ps) :: RowsA bT B3C ps :: H)) : O P N w0 ops Q rest σ (SysE sT bT lT iT v b0 b1 l :: H) := by
  intro w hw
  obtain ⟨A, k, ps, h1, h2⟩ := SysE.elim hw
  exact h A k ps h1 w h2
theorem SysE.mk {A : Option Addr} {k : Nat} {ps : List (Sl × List B3)} (hl : conts ps = l) (hw : St w0 (Blk b0 [.slice A (tops ps).length k] lT :: Blk b1 [.int .i64 v] iT :: Own sT (SyC v) A k (tops ps) :: RowsA bT B3C ps :: H) w) : St w0 (SysE sT bT lT iT v b0 b1 l :: H) w := by
  refine St.mkExi ((A, k), ps) (St.unsep (St.addPur hl ?_))
  have h1 : St w0 (Own sT (SyC v) A k (tops ps) :: RowsA bT B3C ps :: Blk b1 [.int .i64 v] iT :: Blk b0 [.slice A (tops ps).length k] lT :: H) w := hw.sub (Sub.keep 2 rfl (Sub.keep 2 rfl (Sub.keep 1 rfl (Sub.keep 0 rfl (Sub.refl _)))))
  have h2 := (St.unsep h1).perm (List.Perm.swap _ _ _)
  have h3 := (St.unsep h2).perm (List.Perm.swap _ _ _)
  exact St.unsep h3
end
end Go.Vc
/-
  Plain words: completions are in order, and none lacks.
-/
namespace Go.Vc
theorem lt_trans3 {a b c : B3} (h1 : B3.lt a b) (h2 : B3.lt b c) : B3.lt a c := by unfold B3.lt at *; omega
theorem lt_asymm3 {a b : B3} (h1 : B3.lt a b) (h2 : B3.lt b a) : False := lt_irrefl a (lt_trans3 h1 h2)
section
variable {v m a b c n : Nat}
theorem next_cases (v m : Nat) : (∀ x y, x < y → y < v → usd m x y = true) ∨ ∃ a b, IsNext v m a b := by
  have key : ∀ k, k ≤ v → (∀ x y, x < k → x < y → y < v → usd m x y = true) ∨ ∃ a b, IsNext v m a b := by
    intro k
    induction k with
    | zero => intro _; exact .inl (fun x y h => by omega)
    | succ k ih =>
      intro hk
      rcases ih (by omega) with h | h
      · have key2 : ∀ j, j ≤ v → (∀ y, k < y → y < j → usd m k y = true) ∨ ∃ a b, IsNext v m a b := by
          intro j
          induction j with
          | zero => intro _; exact .inl (fun y _ h => by omega)
          | succ j ihj =>
            intro hj
            rcases ihj (by omega) with h1 | h1
            · by_cases hkj : k < j
              · cases hu : usd m k j with
                | true => exact .inl (fun y h2 h3 => by by_cases e : y = j; (· subst e; exact hu); (· exact h1 y h2 (by omega)))
                | false => exact .inr ⟨k, j, hkj, by omega, hu, h1, fun x y h2 h3 h4 => h x y h2 h3 h4⟩
              · exact .inl (fun y h2 h3 => by omega)
            · exact .inr h1
        rcases key2 v (Nat.le_refl _) with h1 | h1
        · exact .inl (fun x y h2 h3 h4 => by by_cases e : x = k; (· subst e; exact h1 y h3 h4); (· exact h x y (by omega) h3 h4))
        · exact .inr h1
      · exact .inr h
  rcases key v (Nat.le_refl _) with h | h
  · exact .inl (fun x y h1 h2 => h x y (by omega) h1 h2)
  · exact .inr h
theorem next_spec (h : nextM v m = some (a, b)) : IsNext v m a b := by
  rcases next_cases v m with h1 | ⟨x, y, h1⟩
  · rw [nextM_none h1] at h; cases h
  · rw [nextM_some h1] at h
    obtain ⟨rfl, rfl⟩ := Prod.mk.inj (Option.some.inj h)
    exact h1
theorem next_none (h : nextM v m = none) : ∀ x y, x < y → y < v → usd m x y = true := by
  rcases next_cases v m with h1 | ⟨x, y, h1⟩
  · exact h1
  · rw [nextM_some h1] at h; cases h
theorem may_spec (h : may m a b c = true) : b < c ∧ usd m a c = false ∧ usd m b c = false := by
  unfold may at h
  simp only [Bool.and_eq_true, Nat.blt_eq, Bool.not_eq_true'] at h
  exact ⟨h.1.1, h.1.2, h.2⟩
/-- A member is either the empty one, or begins with a block. -/
theorem mem_comp {q : List B3} (h : q ∈ compM n v m) : (q = [] ∧ nextM v m = none) ∨ ∃ k a b c r, n = k + 1 ∧ nextM v m = some (a, b) ∧ c < v ∧ may m a b c = true ∧ r ∈ compM k v (putM m a b c) ∧ q = b3N a b c :: r := by
  cases n with
  | zero =>
    unfold compM at h
    split at h
    · rename_i e; simp at h; exact .inl ⟨h, e⟩
    · simp at h
  | succ n =>
    unfold compM at h
    split at h
    · rename_i e; simp at h; exact .inl ⟨h, e⟩
    · rename_i a b e
      obtain ⟨c, hc, h1⟩ := List.mem_flatMap.1 h
      split at h1
      · rename_i hm
        obtain ⟨r, hr, rfl⟩ := List.mem_map.1 h1
        exact .inr ⟨n, a, b, c, r, rfl, e, List.mem_range.1 hc, hm, hr, rfl⟩
      · simp at h1
/-- A block whose first pair is left. -/
def Free (v m : Nat) (d : B3) : Prop := ∃ x y z : Nat, d = b3N x y z ∧ x < y ∧ y < z ∧ z < v ∧ usd m x y = false
theorem comp_free : ∀ n v m (q : List B3), v ≤ 15 → q ∈ compM n v m → ∀ d ∈ q, Free v m d := by
  intro n
  induction n with
  | zero =>
    intro v m q hv hq d hd
    rcases mem_comp hq with ⟨rfl, _⟩ | ⟨k, a, b, c, r, hk, _⟩
    · simp at hd
    · omega
  | succ n ih =>
    intro v m q hv hq d hd
    rcases mem_comp hq with ⟨rfl, _⟩ | ⟨k, a, b, c, r, hk, hn, hc, hm, hr, rfl⟩
    · simp at hd
    · obtain rfl : n = k := by omega
      have hI := next_spec hn
      obtain ⟨h1, h2, h3⟩ := may_spec hm
      rcases List.mem_cons.1 hd with rfl | hd
      · exact ⟨a, b, c, rfl, hI.ab, h1, hc, hI.left⟩
      · obtain ⟨x, y, z, e, hx, hy, hz, hu⟩ := ih _ _ _ hv hr d hd
        refine ⟨x, y, z, e, hx, hy, hz, ?_⟩
        cases hh : usd m x y with
        | false => rfl
        | true =>
          have := (usd_put (m := m) (a := a) (b := b) (c := c) (by have := hI.ab; have := hI.bv; omega) (by have := hI.bv; omega) (by omega) (x := x) (y := y) (by omega) (by omega)).2 (.inl hh)
          rw [this] at hu
          cases hu
theorem b3N_lt {x y z a b c : Nat} (h : a < x ∨ (a = x ∧ b < y)) : B3.lt (b3N a b c) (b3N x y z) := by unfold B3.lt b3N; simp only; omega
theorem comp_sorted : ∀ n v m (q : List B3), v ≤ 15 → q ∈ compM n v m → q.Pairwise B3.lt := by
  intro n
  induction n with
  | zero =>
    intro v m q hv hq
    rcases mem_comp hq with ⟨rfl, _⟩ | ⟨k, a, b, c, r, hk, _⟩
    · exact List.Pairwise.nil
    · omega
  | succ n ih =>
    intro v m q hv hq
    rcases mem_comp hq with ⟨rfl, _⟩ | ⟨k, a, b, c, r, hk, hn, hc, hm, hr, rfl⟩
    · exact List.Pairwise.nil
    · obtain rfl : n = k := by omega
      have hI := next_spec hn
      obtain ⟨h1, h2, h3⟩ := may_spec hm
      have hab := hI.ab
      have hbv := hI.bv
      refine List.pairwise_cons.2 ⟨fun d hd => ?_, ih _ _ _ hv hr⟩
      obtain ⟨x, y, z, rfl, hx, hy, hz, hu⟩ := comp_free _ _ _ _ hv hr d hd
      have hup := usd_put (m := m) (a := a) (b := b) (c := c) (by omega) (by omega) (by omega) (x := x) (y := y) (by omega) (by omega)
      refine b3N_lt ?_
      apply Decidable.byContradiction
      intro hc'
      have : usd (putM m a b c) x y = true := by
        rw [hup]
        by_cases e : x = a ∧ y = b
        · exact .inr (.inl (.inl e))
        · refine .inl ?_
          by_cases e1 : x < a
          · exact hI.rows x y e1 hx (by omega)
          · obtain rfl : x = a := by omega
            exact hI.row y hx (by omega)
      rw [this] at hu
      cases hu
/-- One list of blocks comes ahead of another one: at the first place where they differ. -/
def befB : List B3 → List B3 → Prop
  | x :: a, y :: b => if x = y then befB a b else B3.lt x y
  | _, _ => False
noncomputable instance (a b : List B3) : Decidable (befB a b) := Classical.propDecidable _
theorem befB_asymm : ∀ {a b : List B3}, befB a b → befB b a → False := by
  intro a
  induction a with
  | nil => intro b h; cases b <;> simp [befB] at h
  | cons x a ih =>
    intro b h1 h2
    cases b with
    | nil => simp [befB] at h1
    | cons y b =>
      unfold befB at h1 h2
      by_cases e : x = y
      · rw [if_pos e] at h1; rw [if_pos e.symm] at h2; exact ih h1 h2
      · rw [if_neg e] at h1; rw [if_neg (fun h => e h.symm)] at h2; exact lt_asymm3 h1 h2
theorem comp_ascending : ∀ n v m, v ≤ 15 → (compM n v m).Pairwise befB := by
  intro n
  induction n with
  | zero => intro v m hv; unfold compM; split <;> simp
  | succ n ih =>
    intro v m hv
    unfold compM
    split
    · simp
    · rename_i a b e
      rw [List.pairwise_flatMap]
      refine ⟨fun c hc => ?_, ?_⟩
      · split
        · rw [List.pairwise_map]
          exact (ih v _ hv).imp (fun h => by unfold befB; rw [if_pos rfl]; exact h)
        · simp
      · refine List.Pairwise.imp ?_ (List.pairwise_lt_range (n := v))
        intro c d hcd q hq r hr
        split at hq
        · split at hr
          · obtain ⟨q', _, rfl⟩ := List.mem_map.1 hq
            obtain ⟨r', _, rfl⟩ := List.mem_map.1 hr
            unfold befB
            rw [if_neg (by unfold b3N; intro h; simp at h; omega)]
            exact .inr ⟨rfl, .inr ⟨rfl, by show (c : Int) < d; omega⟩⟩
          · simp at hr
        · simp at hq
/-! ### How many blocks -/
theorem usd_put_self (ha : a < b) (hb : b < c) (hc : c < 16) : usd (putM m a b c) a b = true ∧ usd (putM m a b c) a c = true ∧ usd (putM m a b c) b c = true := by
  refine ⟨?_, ?_, ?_⟩ <;> rw [usd_put (by omega) (by omega) (by omega) (by omega) (by omega)]
  · exact .inr (.inl (.inl ⟨rfl, rfl⟩))
  · exact .inr (.inr (.inl (.inl ⟨rfl, rfl⟩)))
  · exact .inr (.inr (.inr (.inl ⟨rfl, rfl⟩)))
theorem filter_but {α : Type} [DecidableEq α] {l : List α} (hd : l.Nodup) {p : α → Bool} {x : α} (hx : x ∈ l) (hp : p x = true) : (l.filter fun y => p y && !decide (y = x)).length + 1 = (l.filter p).length := by
  induction l with
  | nil => simp at hx
  | cons y l ih =>
    obtain ⟨h1, h2⟩ := List.nodup_cons.1 hd
    by_cases e : y = x
    · subst e
      have h3 : (l.filter fun z => p z && !decide (z = y)) = l.filter p := by
        refine List.filter_congr fun z hz => ?_
        have : z ≠ y := fun e => h1 (e ▸ hz)
        simp [this]
      simp [List.filter_cons, hp, h3]
    · have hx' : x ∈ l := by
        rcases List.mem_cons.1 hx with h | h
        · exact absurd h.symm e
        · exact h
      have := ih h2 hx'
      simp only [List.filter_cons, e, decide_false, Bool.not_false, Bool.and_true]
      split
      · simp only [List.length_cons]; omega
      · exact this
theorem prs_nodup (v : Nat) : (prs v).Nodup := by
  unfold prs
  rw [List.nodup_iff_pairwise_ne, List.pairwise_flatMap]
  refine ⟨fun a _ => ?_, ?_⟩
  · rw [List.pairwise_map]
    exact (List.pairwise_lt_range (n := v)).imp (fun h e => by cases e; omega)
  · refine List.Pairwise.imp ?_ (List.pairwise_lt_range (n := v))
    intro x y hxy p hp q hq
    obtain ⟨i, _, rfl⟩ := List.mem_map.1 hp
    obtain ⟨j, _, rfl⟩ := List.mem_map.1 hq
    intro e
    cases e
    omega
theorem leftN_put3 (ha : a < b) (hb : b < c) (hc : c < v) (hv : v ≤ 15) (h1 : usd m a b = false) (h2 : usd m a c = false) (h3 : usd m b c = false) : leftN v (putM m a b c) + 3 = leftN v m := by
  have e1 := filter_but (prs_nodup v) (p := fun p => Nat.blt p.1 p.2 && !usd m p.1 p.2) (x := (a, b)) (mem_prs.2 ⟨by simp; omega, by simp; omega⟩) (by simp [ha, h1])
  have e2 := filter_but (prs_nodup v) (p := fun y => (Nat.blt y.1 y.2 && !usd m y.1 y.2) && !decide (y = (a, b))) (x := (a, c)) (mem_prs.2 ⟨by simp; omega, by simp; omega⟩) (by
    have : Nat.blt a c = true := by rw [Nat.blt_eq]; omega
    simp [h2, this]; omega)
  have e3 := filter_but (prs_nodup v) (p := fun y => ((Nat.blt y.1 y.2 && !usd m y.1 y.2) && !decide (y = (a, b))) && !decide (y = (a, c))) (x := (b, c)) (mem_prs.2 ⟨by simp; omega, by simp; omega⟩) (by
    simp [h3, hb]; omega)
  have e4 : leftN v (putM m a b c) = ((prs v).filter fun y => (((Nat.blt y.1 y.2 && !usd m y.1 y.2) && !decide (y = (a, b))) && !decide (y = (a, c))) && !decide (y = (b, c))).length := by
    unfold leftN
    congr 1
    refine List.filter_congr fun p hp => ?_
    obtain ⟨x, y⟩ := p
    obtain ⟨hx, hy⟩ := mem_prs.1 hp
    simp only at hx hy
    by_cases hxy : x < y
    · have hxb : Nat.blt x y = true := by rw [Nat.blt_eq]; exact hxy
      have hup := usd_put (m := m) (a := a) (b := b) (c := c) (by omega) (by omega) (by omega) (x := x) (y := y) (by omega) (by omega)
      simp only [hxb, Bool.true_and, Prod.mk.injEq]
      cases hm : usd m x y with
      | true =>
        have : usd (putM m a b c) x y = true := hup.2 (.inl hm)
        simp [this]
      | false =>
        by_cases h : (x = a ∧ y = b) ∨ (x = a ∧ y = c) ∨ (x = b ∧ y = c)
        · have : usd (putM m a b c) x y = true := hup.2 (.inr (by omega))
          rw [this]
          rcases h with h | h | h <;> simp [h]
        · have : usd (putM m a b c) x y = false := by
            cases hh : usd (putM m a b c) x y with
            | false => rfl
            | true =>
              have h5 := hup.1 hh
              rw [hm] at h5
              rcases h5 with h5 | h5
              · cases h5
              · omega
          rw [this]
          have q1 : ¬ (x = a ∧ y = b) := fun e => h (.inl e)
          have q2 : ¬ (x = a ∧ y = c) := fun e => h (.inr (.inl e))
          have q3 : ¬ (x = b ∧ y = c) := fun e => h (.inr (.inr e))
          simp [q1, q2, q3]
    · have hxb : Nat.blt x y = false := blt_no hxy
      simp [hxb]
  unfold leftN at *
  omega
theorem comp_count : ∀ n v m (q : List B3), v ≤ 15 → q ∈ compM n v m → 3 * q.length = leftN v m := by
  intro n
  induction n with
  | zero =>
    intro v m q hv hq
    rcases mem_comp hq with ⟨rfl, hn⟩ | ⟨k, a, b, c, r, hk, _⟩
    · have h := next_none hn
      have : leftN v m = 0 := by
        unfold leftN
        rw [List.length_eq_zero_iff, List.filter_eq_nil_iff]
        rintro ⟨x, y⟩ hp
        obtain ⟨hx, hy⟩ := mem_prs.1 hp
        simp only [Bool.and_eq_true, Nat.blt_eq, Bool.not_eq_true', not_and, Bool.not_eq_false]
        exact fun hxy => h x y hxy hy
      rw [this]; rfl
    · omega
  | succ n ih =>
    intro v m q hv hq
    rcases mem_comp hq with ⟨rfl, hn⟩ | ⟨k, a, b, c, r, hk, hn, hc, hm, hr, rfl⟩
    · have h := next_none hn
      have : leftN v m = 0 := by
        unfold leftN
        rw [List.length_eq_zero_iff, List.filter_eq_nil_iff]
        rintro ⟨x, y⟩ hp
        obtain ⟨hx, hy⟩ := mem_prs.1 hp
        simp only [Bool.and_eq_true, Nat.blt_eq, Bool.not_eq_true', not_and, Bool.not_eq_false]
        exact fun hxy => h x y hxy hy
      rw [this]; rfl
    · obtain rfl : n = k := by omega
      have hI := next_spec hn
      obtain ⟨h1, h2, h3⟩ := may_spec hm
      have := ih _ _ _ hv hr
      have h4 := leftN_put3 hI.ab h1 hc hv hI.left h2 h3
      simp only [List.length_cons]
      omega
end
end Go.Vc
/-
  Plain words: each full system is a completion of the empty one.
-/
namespace Go.Vc
section
variable {v m n : Nat}
/-- A block whose pairs are left. -/
def Opn (m : Nat) (d : B3) : Prop := ∃ x y z : Nat, d = b3N x y z ∧ x < y ∧ y < z ∧ usd m x y = false ∧ usd m x z = false ∧ usd m y z = false
def inB (v : Nat) (d : B3) : Prop := ∃ x y z : Nat, d = b3N x y z ∧ x < y ∧ y < z ∧ z < v
theorem good.inB {d : B3} (h : good v d) : inB v d := by
  obtain ⟨a, b, c⟩ := d
  unfold good at h
  simp only at h
  refine ⟨a.toNat, b.toNat, c.toNat, ?_, by omega, by omega, by omega⟩
  unfold b3N
  rw [Int.toNat_of_nonneg (by omega), Int.toNat_of_nonneg (by omega), Int.toNat_of_nonneg (by omega)]
/-- What is asked of the blocks that are yet to come. -/
structure Rest (v m : Nat) (B : List B3) : Prop where
  ok : ∀ d ∈ B, inB v d
  opn : ∀ d ∈ B, Opn m d
  lt : B.Pairwise B3.lt
  fit : B.Pairwise fun d e => common e d ≤ 1
theorem b3N_inj {x y z a b c : Nat} (h : b3N x y z = b3N a b c) : x = a ∧ y = b ∧ z = c := by
  unfold b3N at h
  simp only [Prod.mk.injEq] at h
  omega
theorem Rest.tail {x y z : Nat} {B : List B3} (hv : v ≤ 15) (h : Rest v m (b3N x y z :: B)) (hx : x < y) (hy : y < z) (hz : z < v) : Rest v (putM m x y z) B := by
  obtain ⟨h1, h2⟩ := List.pairwise_cons.1 h.lt
  obtain ⟨h3, h4⟩ := List.pairwise_cons.1 h.fit
  refine ⟨fun d hd => h.ok d (by simp [hd]), fun d hd => ?_, h2, h4⟩
  obtain ⟨a, b, c, rfl, ha, hb, u1, u2, u3⟩ := h.opn d (by simp [hd])
  obtain ⟨a', b', c', e, _, _, hc⟩ := h.ok _ (List.mem_cons_of_mem _ hd)
  obtain ⟨rfl, rfl, rfl⟩ := b3N_inj e
  have hc3 := h3 _ hd
  rw [common_le (b3N_three hx hy)] at hc3
  have k1 : ∀ p q : Nat, p < q → q < v → usd m p q = false → ¬ (has (b3N x y z) p ∧ has (b3N x y z) q) → usd (putM m x y z) p q = false := fun p q h1 h2 h3 h4 => (usd_putN hx hy (by omega) (by omega) (by omega) (by omega)).2 ⟨h3, h4⟩
  exact ⟨a, b, c, rfl, ha, hb, k1 a b (by omega) (by omega) u1 hc3.1, k1 a c (by omega) (by omega) u2 hc3.2.1, k1 b c (by omega) (by omega) u3 hc3.2.2⟩
theorem comp_all : ∀ (B : List B3) (m n : Nat), v ≤ 15 → Rest v m B → (∀ x y, x < y → y < v → usd m x y = true ∨ ∃ d ∈ B, has d x ∧ has d y) → B.length ≤ n → B ∈ compM n v m := by
  intro B
  induction B with
  | nil =>
    intro m n hv h hf hn
    rw [compM_none (nextM_none fun x y h1 h2 => by rcases hf x y h1 h2 with h3 | ⟨d, hd, _⟩; (· exact h3); (· simp at hd))]
    simp
  | cons b B ih =>
    intro m n hv h hf hn
    obtain ⟨n, rfl⟩ : ∃ k, n = k + 1 := ⟨n - 1, by simp only [List.length_cons] at hn; omega⟩
    obtain ⟨x, y, z, rfl, hx, hy, hz⟩ := h.ok b (by simp)
    obtain ⟨x', y', z', e, _, _, u1, u2, u3⟩ := h.opn _ (List.mem_cons_self ..)
    obtain ⟨rfl, rfl, rfl⟩ := b3N_inj e
    rcases next_cases v m with hall | ⟨p, q, hI⟩
    · rw [hall x y hx (by omega)] at u1; cases u1
    have hpq := hI.ab
    have hqv := hI.bv
    have low : ∀ s t : Nat, s < t → t < v → usd m s t = false → p ≤ s ∧ (p = s → q ≤ t) := by
      intro s t h1 h2 h3
      refine ⟨?_, fun e => ?_⟩
      · apply Decidable.byContradiction
        intro h4
        rw [hI.rows s t (by omega) h1 h2] at h3
        cases h3
      · apply Decidable.byContradiction
        intro h4
        subst e
        rw [hI.row t h1 (by omega)] at h3
        cases h3
    have hb := low x y hx (by omega) u1
    have hd : ∃ d ∈ b3N x y z :: B, has d p ∧ has d q := by
      rcases hf p q hpq hqv with h1 | h1
      · rw [hI.left] at h1; cases h1
      · exact h1
    obtain ⟨d, hd, hdp, hdq⟩ := hd
    obtain ⟨s, t, r, rfl, hs, ht, hr⟩ := h.ok d hd
    obtain ⟨s', t', r', e, _, _, w1, w2, w3⟩ := h.opn _ hd
    obtain ⟨rfl, rfl, rfl⟩ := b3N_inj e
    rw [has_b3N] at hdp hdq
    have hd1 := low s t hs (by omega) w1
    have hps : p = s := by omega
    have hqt : q = t := by
      have := hd1.2 hps
      omega
    have hle : x ≤ s ∧ (x = s → y ≤ t) := by
      rcases List.mem_cons.1 hd with e | e
      · obtain ⟨rfl, rfl, rfl⟩ := b3N_inj e; omega
      · have h1 := (List.pairwise_cons.1 h.lt).1 _ e
        unfold B3.lt b3N at h1
        simp only at h1
        omega
    have hxp : p = x := by omega
    have hyq : q = y := by have := hb.2 hxp; have := hle.2 (by omega); omega
    subst hxp hyq
    have hm : may m p q z = true := by
      unfold may
      have : Nat.blt q z = true := by rw [Nat.blt_eq]; exact hy
      simp [this, u2, u3]
    have hmem := ih (putM m p q z) n hv (h.tail hv hx hy hz) (fun i j h1 h2 => by
      have hup := usd_putN (m := m) (x := i) (y := j) hx hy (by omega : z < 16) (by omega) (by omega) (by omega)
      cases hu : usd (putM m p q z) i j with
      | true => exact .inl rfl
      | false =>
        refine .inr ?_
        obtain ⟨g1, g2⟩ := hup.1 hu
        rcases hf i j h1 h2 with g3 | ⟨d, hd, g3⟩
        · rw [g1] at g3; cases g3
        · rcases List.mem_cons.1 hd with rfl | hd
          · exact absurd g3 g2
          · exact ⟨d, hd, g3⟩) (by simp only [List.length_cons] at hn; omega)
    unfold compM
    rw [nextM_some hI]
    simp only
    refine List.mem_flatMap.2 ⟨z, List.mem_range.2 hz, ?_⟩
    rw [if_pos hm]
    exact List.mem_map.2 ⟨B, hmem, rfl⟩
/-! ### The pairs of blocks -/
def putB (m : Nat) (d : B3) : Nat := putM m d.1.toNat d.2.1.toNat d.2.2.toNat
def maskB (m : Nat) (bs : List B3) : Nat := bs.foldl putB m
theorem putB_b3N {x y z : Nat} : putB m (b3N x y z) = putM m x y z := by unfold putB b3N; simp
theorem mask_left : ∀ (B : List B3) (m : Nat), v ≤ 15 → Rest v m B → leftN v (maskB m B) + 3 * B.length = leftN v m := by
  intro B
  induction B with
  | nil => intro m _ _; rfl
  | cons b B ih =>
    intro m hv h
    obtain ⟨x, y, z, rfl, hx, hy, hz⟩ := h.ok b (by simp)
    obtain ⟨x', y', z', e, _, _, u1, u2, u3⟩ := h.opn _ (List.mem_cons_self ..)
    obtain ⟨rfl, rfl, rfl⟩ := b3N_inj e
    have h1 := ih (putM m x y z) hv (h.tail hv hx hy hz)
    have h2 := leftN_put3 hx hy hz hv u1 u2 u3
    have e : maskB m (b3N x y z :: B) = maskB (putM m x y z) B := by unfold maskB; rw [List.foldl_cons, putB_b3N]
    rw [e, List.length_cons]
    omega
theorem usd_mask : ∀ (B : List B3) (m : Nat), v ≤ 15 → (∀ d ∈ B, inB v d) → ∀ x y, x < y → y < v → (usd (maskB m B) x y = true ↔ usd m x y = true ∨ ∃ d ∈ B, has d x ∧ has d y) := by
  intro B
  induction B with
  | nil => intro m _ _ x y _ _; simp [maskB]
  | cons b B ih =>
    intro m hv h x y hx hy
    obtain ⟨a, b', c, rfl, h1, h2, h3⟩ := h b (by simp)
    have e : maskB m (b3N a b' c :: B) = maskB (putM m a b' c) B := by unfold maskB; rw [List.foldl_cons, putB_b3N]
    rw [e, ih _ hv (fun d hd => h d (by simp [hd])) x y hx hy]
    have hup := usd_putN (m := m) (x := x) (y := y) h1 h2 (by omega : c < 16) (by omega) (by omega) (by omega)
    constructor
    · rintro (g | ⟨d, hd, g⟩)
      · cases hu : usd m x y with
        | true => exact .inl rfl
        | false =>
          refine .inr ⟨b3N a b' c, by simp, ?_⟩
          apply Decidable.byContradiction
          intro g2
          rw [hup.2 ⟨hu, g2⟩] at g
          cases g
      · exact .inr ⟨d, by simp [hd], g⟩
    · rintro (g | ⟨d, hd, g⟩)
      · refine .inl ?_
        cases hu : usd (putM m a b' c) x y with
        | true => rfl
        | false => rw [(hup.1 hu).1] at g; cases g
      · rcases List.mem_cons.1 hd with rfl | hd
        · refine .inl ?_
          cases hu : usd (putM m a b' c) x y with
          | true => rfl
          | false => exact absurd g (hup.1 hu).2
        · exact .inr ⟨d, hd, g⟩
theorem usd_zero (x y : Nat) : usd 0 x y = false := by simp [usd]
theorem sts_lt {v : Int} {bs : List B3} (h : STS v bs) : bs.Pairwise B3.lt := by
  have key : ∀ i j (hi : i < bs.length) (hj : j < bs.length), i < j → B3.lt bs[i] bs[j] := by
    intro i j
    induction j with
    | zero => intro _ _ h; omega
    | succ j ih =>
      intro hi hj hij
      have h1 := (h.ord (j + 1) hj hj).2 j (by omega) rfl
      by_cases e : i = j
      · subst e; exact h1
      · exact lt_trans3 (ih hi (by omega) (by omega)) h1
  rw [List.pairwise_iff_getElem]
  exact fun i j hi hj hij => key i j hi hj hij
theorem sts_rest {bs : List B3} (h : STS (v : Int) bs) : Rest v 0 bs := by
  have hg : ∀ d ∈ bs, inB v d := fun d hd => (h.good d hd).inB
  refine ⟨hg, fun d hd => ?_, sts_lt h, ?_⟩
  · obtain ⟨x, y, z, rfl, h1, h2, h3⟩ := hg d hd
    exact ⟨x, y, z, rfl, h1, h2, usd_zero _ _, usd_zero _ _, usd_zero _ _⟩
  · rw [List.pairwise_iff_getElem]
    exact fun i j hi hj hij => h.fits j hj hj i hi hij
/-- A full system is among the completions of the empty one. -/
theorem sts_mem {bs : List B3} (h : STS (v : Int) bs) (hf : 3 * bs.length = leftN v 0) (hn : bs.length ≤ n) : bs ∈ compM n v 0 := by
  have hv : v ≤ 15 := by have := h.hi; omega
  have hr := sts_rest h
  have h1 := mask_left bs 0 hv hr
  have h0 : leftN v (maskB 0 bs) = 0 := by omega
  refine comp_all bs 0 n hv hr (fun x y hx hy => ?_) hn
  exact (usd_mask bs 0 hv hr.ok x y hx hy).1 (leftN_zero h0 x y hx hy)
end
theorem left3 : leftN 3 0 = 3 := by decide
theorem left7 : leftN 7 0 = 21 := by decide
theorem left9 : leftN 9 0 = 36 := by decide
end Go.Vc
/-
  How many systems of 3, 7 and 9 points there are, counted by the kernel.
-/
namespace Go.Vc
set_option maxRecDepth 100000 in
theorem cnt9 : cntM 40 9 0 = 840 := by decide +kernel
set_option maxRecDepth 100000 in
theorem cnt7 : cntM 40 7 0 = 30 := by decide +kernel
set_option maxRecDepth 100000 in
theorem cnt3 : cntM 40 3 0 = 1 := by decide +kernel
end Go.Vc
/-
  Plain words: the number of a system; what is common.
-/
namespace Go.Vc
def few9 (v : Int) : Prop := v = 3 ∨ v = 7 ∨ v = 9
instance (v : Int) : Decidable (few9 v) := inferInstanceAs (Decidable (_ ∨ _))
/-- Full, with few points. -/
def Few (v : Int) (bs : List B3) : Prop := few9 v ∧ 6 * (bs.length : Int) = v * (v - 1)
instance (v : Int) (bs : List B3) : Decidable (Few v bs) := inferInstanceAs (Decidable (_ ∧ _))
/-- All systems of few points. -/
noncomputable def allN (v : Int) : List (List B3) := compM 40 v.toNat 0
theorem few_len {v : Int} (h : few9 v) : (compM 40 v.toNat 0).length ≤ 1000 ∧ leftN v.toNat 0 ≤ 40 ∧ v.toNat ≤ 15 ∧ 0 ≤ v := by
  rcases h with rfl | rfl | rfl
  · exact ⟨by rw [cntM_eq]; show cntM 40 3 0 ≤ 1000; rw [cnt3]; decide, by show leftN 3 0 ≤ 40; rw [left3]; decide, by decide, by decide⟩
  · exact ⟨by rw [cntM_eq]; show cntM 40 7 0 ≤ 1000; rw [cnt7]; decide, by show leftN 7 0 ≤ 40; rw [left7]; decide, by decide, by decide⟩
  · exact ⟨by rw [cntM_eq]; show cntM 40 9 0 ≤ 1000; rw [cnt9]; decide, by show leftN 9 0 ≤ 40; rw [left9]; decide, by decide, by decide⟩
theorem sts_mul {v : Int} {bs : List B3} (h : STS v bs) : 0 ≤ v * (v - 1) ∧ v * (v - 1) ≤ 1000000 := by
  have h1 := h.lo
  have h2 := h.hi
  refine ⟨Int.mul_nonneg (by omega) (by omega), ?_⟩
  have := Int.mul_le_mul h2 (show v - 1 ≤ 15 by omega) (by omega) (by omega)
  omega
theorem few_left {v : Int} {bs : List B3} (h : Few v bs) : 3 * bs.length = leftN v.toNat 0 := by
  obtain ⟨h1, h2⟩ := h
  rcases h1 with rfl | rfl | rfl
  · show 3 * bs.length = leftN 3 0; rw [left3]; omega
  · show 3 * bs.length = leftN 7 0; rw [left7]; omega
  · show 3 * bs.length = leftN 9 0; rw [left9]; omega
theorem few_mem {v : Int} {bs : List B3} (h : STS v bs) (hf : Few v bs) : bs ∈ allN v := by
  have h0 := (few_len hf.1)
  have h1 := few_left hf
  obtain ⟨vn, rfl⟩ := Int.eq_ofNat_of_zero_le h0.2.2.2
  exact sts_mem h h1 (by have := h.few; omega)
theorem idxP_conts {α : Type} {p : List α → Prop} [DecidablePred p] {ps : List (Sl × List α)} : idxP (fun x : Sl × List α => p x.2) ps = idxP p (conts ps) := by
  have hl := conts_len ps
  by_cases h : ∃ k, ∃ hk : k < ps.length, p (ps[k]).2
  · have h0 : ¬ idxP (fun x : Sl × List α => p x.2) ps = -1 := fun e => by obtain ⟨k, hk, h1⟩ := h; exact idxP_not e k hk h1
    obtain ⟨i, hi, q1, q2, q3⟩ := idxP_at h0
    rw [q1]
    have e : ∀ j (hj : j < ps.length) (hj' : j < (conts ps).length), (conts ps)[j] = (ps[j]).2 := fun j hj hj' => List.getElem_map ..
    exact (idxP_found (by omega) (by rw [e i hi]; exact q2) (fun j hj hji => by rw [e j (by omega)]; exact q3 j (by omega) hji)).symm
  · rw [idxP_none (fun j hj hh => h ⟨j, hj, hh⟩), idxP_none]
    intro j hj hh
    have e : (conts ps)[j] = (ps[j]'(by omega)).2 := List.getElem_map ..
    rw [e] at hh
    exact h ⟨j, by omega, hh⟩
/-- The number of a system, and the code. -/
def NOS (v : Int) (bs : List B3) (r code : Int) : Prop := (¬ STS v bs → r = 0 ∧ code = 1) ∧ (STS v bs → ¬ Few v bs → r = 0 ∧ code = 5) ∧ (STS v bs → Few v bs → r = idxP (fun q => bs = q) (allN v) ∧ code = 0)
theorem NOS.unique {v : Int} {bs : List B3} {r c s d : Int} (h : NOS v bs r c) (g : NOS v bs s d) : r = s ∧ c = d := by
  by_cases hS : STS v bs
  · by_cases hf : Few v bs
    · have := h.2.2 hS hf; have := g.2.2 hS hf; omega
    · have := h.2.1 hS hf; have := g.2.1 hS hf; omega
  · have := h.1 hS; have := g.1 hS; omega
theorem befB_at : ∀ {a b : List B3} {i : Nat} (h1 : i < a.length) (h2 : i < b.length), a.take i = b.take i → ¬ a[i] = b[i] → (B3.lt a[i] b[i] ↔ befB a b) := by
  intro a
  induction a with
  | nil => intro b i h1; simp at h1
  | cons x a ih =>
    intro b i h1 h2 he hne
    cases b with
    | nil => simp at h2
    | cons y b =>
      cases i with
      | zero =>
        simp only [List.getElem_cons_zero] at hne ⊢
        unfold befB
        rw [if_neg hne]
      | succ i =>
        simp only [List.take_succ_cons, List.cons.injEq] at he
        simp only [List.getElem_cons_succ] at hne ⊢
        unfold befB
        rw [if_pos he.1]
        exact ih (by simp only [List.length_cons] at h1; omega) (by simp only [List.length_cons] at h2; omega) he.2 hne
theorem befB_pre {b : List B3} : ∀ {a : List B3} {n : Nat}, a = b.take n → ¬ befB a b := by
  induction b with
  | nil => intro a n h; subst h; simp [befB]
  | cons y b ih =>
    intro a n h
    cases n with
    | zero => subst h; simp [befB]
    | succ n =>
      subst h
      simp only [List.take_succ_cons]
      unfold befB
      rw [if_pos rfl]
      exact ih rfl
end Go.Vc
/-
  The calculus, part 17: the least and the greatest of integers.
-/
namespace Go.Vc
open Go Go.RowKit
section
variable {P : Program} {w0 w : World} {Q : Exit → Act → World → Prop} {σ : Sig} {H : List Assn} {o : Oper} {ts : Array TypeId}
theorem run_min2 (a b : Int) : (Builtin.min2 (.int .i64 a) (.int .i64 b)).run P w = .ok (.int .i64 (if b < a then b else a)) w := by
  unfold Builtin.min2
  by_cases h : b < a <;> simp [h]
theorem run_max2 (a b : Int) : (Builtin.max2 (.int .i64 a) (.int .i64 b)).run P w = .ok (.int .i64 (if a < b then b else a)) w := by
  unfold Builtin.max2
  by_cases h : a < b <;> simp [h]
theorem Pu.min2 {x y : Operand} {a b r : Int} (hr : r = if b < a then b else a) (ho : o.op = .call { callee := .builtin .min, args := #[x, y], argTypes := ts }) (hx : ev σ x = some (.int .i64 a)) (hy : ev σ y = some (.int .i64 b)) : Pu P w0 o σ H (.int .i64 r) := by
  subst hr
  intro w hw c ha
  have h1 := ha x (by simp [ho, Op.operands, Call.operands]) _ hx
  have h2 := ha y (by simp [ho, Op.operands, Call.operands]) _ hy
  simp [execOp, ho, h1, h2, resolve, invoke, builtin, Builtin.min_, run_min2]
theorem Pu.max2 {x y : Operand} {a b r : Int} (hr : r = if a < b then b else a) (ho : o.op = .call { callee := .builtin .max, args := #[x, y], argTypes := ts }) (hx : ev σ x = some (.int .i64 a)) (hy : ev σ y = some (.int .i64 b)) : Pu P w0 o σ H (.int .i64 r) := by
  subst hr
  intro w hw c ha
  have h1 := ha x (by simp [ho, Op.operands, Call.operands]) _ hx
  have h2 := ha y (by simp [ho, Op.operands, Call.operands]) _ hy
  simp [execOp, ho, h1, h2, resolve, invoke, builtin, Builtin.max_, run_max2]
theorem Pu.min3 {x y z : Operand} {a b d r : Int} (hr : r = if d < (if b < a then b else a) then d else (if b < a then b else a)) (ho : o.op = .call { callee := .builtin .min, args := #[x, y, z], argTypes := ts }) (hx : ev σ x = some (.int .i64 a)) (hy : ev σ y = some (.int .i64 b)) (hz : ev σ z = some (.int .i64 d)) : Pu P w0 o σ H (.int .i64 r) := by
  subst hr
  intro w hw c ha
  have h1 := ha x (by simp [ho, Op.operands, Call.operands]) _ hx
  have h2 := ha y (by simp [ho, Op.operands, Call.operands]) _ hy
  have h3 := ha z (by simp [ho, Op.operands, Call.operands]) _ hz
  simp [execOp, ho, h1, h2, h3, resolve, invoke, builtin, Builtin.min_, run_min2]
theorem Pu.max3 {x y z : Operand} {a b d r : Int} (hr : r = if (if a < b then b else a) < d then d else (if a < b then b else a)) (ho : o.op = .call { callee := .builtin .max, args := #[x, y, z], argTypes := ts }) (hx : ev σ x = some (.int .i64 a)) (hy : ev σ y = some (.int .i64 b)) (hz : ev σ z = some (.int .i64 d)) : Pu P w0 o σ H (.int .i64 r) := by
  subst hr
  intro w hw c ha
  have h1 := ha x (by simp [ho, Op.operands, Call.operands]) _ hx
  have h2 := ha y (by simp [ho, Op.operands, Call.operands]) _ hy
  have h3 := ha z (by simp [ho, Op.operands, Call.operands]) _ hz
  simp [execOp, ho, h1, h2, h3, resolve, invoke, builtin, Builtin.max_, run_max2]
end
end Go.Vc
/-
  Plain words: blocks in order, by insertion.
-/
namespace Go.Vc
def leB (a b : B3) : Prop := ¬ B3.lt b a
theorem leB_trans {a b c : B3} (h1 : leB a b) (h2 : leB b c) : leB a c := by unfold leB B3.lt at *; omega
theorem leB_of {a b : B3} (h : B3.lt a b) : leB a b := by unfold leB B3.lt at *; omega
theorem leB_anti {a b : B3} (h1 : leB a b) (h2 : leB b a) : a = b := by
  obtain ⟨a1, a2, a3⟩ := a
  obtain ⟨b1, b2, b3⟩ := b
  unfold leB B3.lt at *
  simp only at *
  have e1 : a1 = b1 := by omega
  have e2 : a2 = b2 := by omega
  have e3 : a3 = b3 := by omega
  rw [e1, e2, e3]
def SrtB (l : List B3) : Prop := l.Pairwise leB
theorem ins_perm {l : List B3} {b : B3} {y : Nat} : (l.take y ++ b :: l.drop y).Perm (l ++ [b]) := by
  refine List.perm_middle.trans ?_
  rw [List.take_append_drop]
  exact (List.perm_append_comm (l₁ := [b])).trans (List.Perm.refl _)
theorem ins_sorted {l : List B3} {b : B3} {y : Nat} (hs : SrtB l) (hy : y ≤ l.length) (h1 : ∀ j (hj : j < l.length), y ≤ j → B3.lt b l[j]) (h2 : ∀ (h0 : 0 < y), ¬ B3.lt b (l[y - 1]'(by omega))) : SrtB (l.take y ++ b :: l.drop y) := by
  have hp := List.pairwise_iff_getElem.1 hs
  unfold SrtB
  rw [List.pairwise_append, List.pairwise_cons]
  have hd : ∀ x ∈ l.drop y, B3.lt b x := by
    intro x hx
    obtain ⟨j, hj, rfl⟩ := List.getElem_of_mem hx
    rw [List.length_drop] at hj
    rw [List.getElem_drop]
    exact h1 (y + j) (by omega) (by omega)
  have ht : ∀ x ∈ l.take y, leB x b := by
    intro x hx
    obtain ⟨j, hj, rfl⟩ := List.getElem_of_mem hx
    rw [List.length_take] at hj
    rw [List.getElem_take]
    have h3 := h2 (by omega)
    by_cases e : j = y - 1
    · subst e; exact h3
    · exact leB_trans (hp j (y - 1) (by omega) (by omega) (by omega)) h3
  refine ⟨hs.sublist (List.take_sublist _ _), ⟨fun x hx => leB_of (hd x hx), hs.sublist (List.drop_sublist _ _)⟩, fun x hx z hz => ?_⟩
  rcases List.mem_cons.1 hz with rfl | hz
  · exact ht x hx
  · exact leB_trans (ht x hx) (leB_of (hd z hz))
theorem srtB_unique : ∀ {l m : List B3}, SrtB l → SrtB m → l.Perm m → l = m := by
  intro l
  induction l with
  | nil => intro m _ _ h; exact (List.Perm.nil_eq h)
  | cons a l ih =>
    intro m h1 h2 h
    cases m with
    | nil => exact absurd h.length_eq (by simp)
    | cons b m =>
      obtain ⟨ha, hl⟩ := List.pairwise_cons.1 h1
      obtain ⟨hb, hm⟩ := List.pairwise_cons.1 h2
      have e : a = b := by
        rcases List.mem_cons.1 (h.mem_iff.1 (List.mem_cons_self ..)) with e | e
        · exact e
        · rcases List.mem_cons.1 (h.mem_iff.2 (List.mem_cons_self ..)) with e' | e'
          · exact e'.symm
          · exact leB_anti (ha b e') (hb a e)
      subst e
      rw [ih hl hm (List.Perm.cons_inv h)]
theorem srtB_lt {l : List B3} (h : l.Pairwise B3.lt) : SrtB l := h.imp leB_of
end Go.Vc
/-
  Plain words: the first system that is apart; how many blocks are common.
-/
namespace Go.Vc
/-- No block in common. -/
def ApartB (bs q : List B3) : Prop := ∀ b ∈ bs, b ∉ q
instance (bs q : List B3) : Decidable (ApartB bs q) := inferInstanceAs (Decidable (∀ b ∈ bs, b ∉ q))
theorem apart_I {bs q : List B3} : (bs.filter fun b => decide (b ∈ q)).length = 0 ↔ ApartB bs q := by
  rw [List.length_eq_zero_iff, List.filter_eq_nil_iff]
  unfold ApartB
  simp
theorem apart_S {bs q : List B3} : (q.filter fun b => decide (b ∈ bs)).length = 0 ↔ ApartB bs q := by
  rw [List.length_eq_zero_iff, List.filter_eq_nil_iff]
  unfold ApartB
  simp only [decide_eq_true_eq]
  exact ⟨fun h b h1 h2 => h b h2 h1, fun h b h1 h2 => h b h2 h1⟩
/-- The first of all systems that is apart. -/
noncomputable def firstA (v : Int) (bs : List B3) : Option (List B3) := (allN v).find? fun q => decide (ApartB bs q)
theorem firstA_at {v : Int} {bs : List B3} {ps : List (Sl × List B3)} (h : conts ps = allN v) {i : Nat} (hi : i < ps.length) (h1 : ApartB bs (ps[i]).2) (h2 : ∀ j (hj : j < ps.length), j < i → ¬ ApartB bs (ps[j]).2) : firstA v bs = some (ps[i]).2 := by
  have hl := conts_len ps
  unfold firstA
  rw [← h, List.find?_eq_some_iff_getElem]
  refine ⟨decide_eq_true h1, i, by omega, conts_get ps (by omega), fun j hj => ?_⟩
  rw [conts_get ps (by omega), decide_eq_false (h2 j (by omega) hj)]
  rfl
theorem firstA_no {v : Int} {bs : List B3} {ps : List (Sl × List B3)} (h : conts ps = allN v) (h2 : ∀ j (hj : j < ps.length), ¬ ApartB bs (ps[j]).2) : firstA v bs = none := by
  unfold firstA
  rw [← h, List.find?_eq_none]
  intro q hq
  obtain ⟨x, hx, rfl⟩ := List.mem_map.1 hq
  obtain ⟨j, hj, rfl⟩ := List.getElem_of_mem hx
  simpa using h2 j hj
/-- What both FirstApart return. -/
noncomputable def apR (v : Int) (bs : List B3) : Int × List B3 × Int :=
  if STS v bs then if Few v bs then match firstA v bs with | some q => (v, q, 0) | none => (0, [], 4) else (0, [], 5) else (0, [], 1)
theorem apR_1 {v : Int} {bs : List B3} (h : ¬ STS v bs) : apR v bs = (0, [], 1) := by unfold apR; rw [if_neg h]
theorem apR_5 {v : Int} {bs : List B3} (h : STS v bs) (h2 : ¬ Few v bs) : apR v bs = (0, [], 5) := by unfold apR; rw [if_pos h, if_neg h2]
theorem apR_4 {v : Int} {bs : List B3} (h : STS v bs) (h2 : Few v bs) (h3 : firstA v bs = none) : apR v bs = (0, [], 4) := by unfold apR; rw [if_pos h, if_pos h2, h3]
theorem apR_0 {v : Int} {bs q : List B3} (h : STS v bs) (h2 : Few v bs) (h3 : firstA v bs = some q) : apR v bs = (v, q, 0) := by unfold apR; rw [if_pos h, if_pos h2, h3]
theorem apR_no {v : Int} {bs : List B3} {c : Int} (hc : (if STS v bs then if Few v bs then (0 : Int) else 5 else 1) = c) (h : ¬ c = 0) : apR v bs = (0, [], c) := by
  subst hc
  by_cases h1 : STS v bs
  · by_cases h2 : Few v bs
    · rw [if_pos h1, if_pos h2] at h; exact absurd rfl h
    · rw [if_pos h1, if_neg h2]; exact apR_5 h1 h2
  · rw [if_neg h1]; exact apR_1 h1
theorem apR_len {v : Int} {bs : List B3} : (apR v bs).2.1.length ≤ 40 := by
  unfold apR
  split
  · split
    · rename_i hS hF
      split
      · rename_i q hq
        have h := List.mem_of_find?_eq_some hq
        exact compM_len 40 _ _ _ h
      · simp
    · simp
  · simp
/-- How many of the first i lists have q blocks of bs, for each q. -/
def cntC (bs : List B3) (ls : List (List B3)) (n i : Nat) : List Int := (List.range n).map fun q => (((ls.take i).filter fun y => decide ((bs.filter fun b => decide (b ∈ y)).length = q)).length : Int)
section
variable {bs : List B3} {ls : List (List B3)} {n i : Nat}
theorem cntC_len : (cntC bs ls n i).length = n := by simp [cntC]
theorem cntC_start : cntC bs ls n 0 = List.replicate n 0 := by
  apply List.ext_getElem
  · simp [cntC_len]
  · intro j h1 h2
    simp [cntC]
theorem cntC_bd {q : Nat} (hq : q < (cntC bs ls n i).length) : 0 ≤ (cntC bs ls n i)[q] ∧ (cntC bs ls n i)[q] ≤ i := by
  simp only [cntC, List.getElem_map, List.getElem_range]
  have h1 := List.length_filter_le (fun y : List B3 => decide ((bs.filter fun b => decide (b ∈ y)).length = q)) (ls.take i)
  have h2 := List.length_take_le i ls
  omega
theorem cntC_step (hi : i < ls.length) {q : Nat} (e : (bs.filter fun b => decide (b ∈ ls[i])).length = q) (hq : q < (cntC bs ls n i).length) : (cntC bs ls n i).set q ((cntC bs ls n i)[q] + 1) = cntC bs ls n (i + 1) := by
  apply List.ext_getElem
  · rw [List.length_set, cntC_len, cntC_len]
  · intro j h1 h2
    rw [List.getElem_set]
    have hs : ∀ z, (((ls.take (i + 1)).filter fun y => decide ((bs.filter fun b => decide (b ∈ y)).length = z)).length : Int) = ((ls.take i).filter fun y => decide ((bs.filter fun b => decide (b ∈ y)).length = z)).length + (if q = z then 1 else 0) := by
      intro z
      rw [take_snoc hi, List.filter_append, List.length_append]
      by_cases hz : q = z
      · subst hz
        simp [e]
      · simp [e, hz]
    by_cases ej : q = j
    · subst ej
      rw [if_pos rfl]
      simp only [cntC, List.getElem_map, List.getElem_range]
      rw [hs, if_pos rfl]
    · rw [if_neg ej]
      simp only [cntC, List.getElem_map, List.getElem_range]
      rw [hs, if_neg ej]
      simp
end
theorem cmn_le {bs q : List B3} : (bs.filter fun b => decide (b ∈ q)).length ≤ bs.length := List.length_filter_le _ _
/-- Whichever list is gone through. -/
theorem cmn_comm {bs q : List B3} (h1 : bs.Pairwise B3.lt) (h2 : q.Pairwise B3.lt) : (q.filter fun b => decide (b ∈ bs)).length = (bs.filter fun b => decide (b ∈ q)).length := by
  have n1 : bs.Nodup := h1.imp fun h => by rintro rfl; exact lt_irrefl _ h
  have n2 : q.Nodup := h2.imp fun h => by rintro rfl; exact lt_irrefl _ h
  refine ((List.perm_ext_iff_of_nodup (n2.filter _) (n1.filter _)).2 fun b => ?_).length_eq
  simp only [List.mem_filter, decide_eq_true_eq]
  exact And.comm
/-- What both CommonNumbers return. -/
noncomputable def cmR (v : Int) (bs : List B3) : List Int × Int :=
  if STS v bs then if Few v bs then (cntC bs (allN v) (bs.length + 1) (allN v).length, 0) else ([], 5) else ([], 1)
theorem cmR_no {v : Int} {bs : List B3} {c : Int} (hc : (if STS v bs then if Few v bs then (0 : Int) else 5 else 1) = c) (h : ¬ c = 0) : cmR v bs = ([], c) := by
  subst hc
  unfold cmR
  by_cases h1 : STS v bs
  · by_cases h2 : Few v bs
    · rw [if_pos h1, if_pos h2] at h; exact absurd rfl h
    · rw [if_pos h1, if_neg h2, if_pos h1, if_neg h2]
  · rw [if_neg h1, if_neg h1]
theorem cmR_0 {v : Int} {bs : List B3} (h : STS v bs) (h2 : Few v bs) : cmR v bs = (cntC bs (allN v) (bs.length + 1) (allN v).length, 0) := by unfold cmR; rw [if_pos h, if_pos h2]
theorem cmR_len {v : Int} {bs : List B3} : (cmR v bs).1.length ≤ bs.length + 1 := by
  unfold cmR
  split
  · split
    · rw [cntC_len]; omega
    · simp
  · simp
section
variable {w0 w : World} {H : List Assn} {α : Type} {T : TypeId} {C : Cod α}
/-- One row is kept. -/
theorem RowsA.out {ps : List (Sl × List α)} {k : Nat} (hk : k < ps.length) (hw : St w0 (RowsA T C ps :: H) w) : St w0 (Own T C (ps[k]).1.A (ps[k]).1.c (ps[k]).2 :: H) w := by
  have e : ps = ps.take k ++ ps[k] :: ps.drop (k + 1) := by
    rw [← List.drop_eq_getElem_cons hk, List.take_append_drop]
  have hp : ps.Perm (ps[k] :: (ps.take k ++ ps.drop (k + 1))) := by
    conv => lhs; rw [e]
    exact List.perm_middle
  have h1 := RowsA.perm hp hw
  exact ((RowsA.uncons (s := (ps[k]).1) (xs := (ps[k]).2) h1).2).sub (Sub.keep 0 rfl (Sub.drop (Sub.refl _)))
end
end Go.Vc
/-
  The calculus, part 19: two results, the first of which lies in memory; the marks of blocks.
-/
namespace Go.Vc
open Go Go.RowKit
section
variable {P : Program} {N : Nat} {w0 w : World} {Q : Exit → Act → World → Prop} {σ : Sig} {H H' : List Assn}
theorem St.mapR {R : List Assn} (h : ∀ w, St w0 H w → St w0 H' w) (k : ∀ w, St w0 H' w → St w0 R w) : ∀ w, St w0 H w → St w0 R w := fun w hw => k w (h w hw)
theorem X.retCell2 {fn : Func} {t s n : Nat} {T : TypeId} {p : Option Addr} {cs : List Value} {u : Value} {R : Value → List Assn} (hr : fn.results = #[.cell t T, .tmp s]) (hT : aggT P T = true) (hz : Sz P T n) (hl : cs.length = n) (ht : look σ t = some (.pointer p)) (hs' : look σ s = some u)
    (hc : ∀ w, St w0 H w → ∃ q, p = some q ∧ ∀ j u, cs[j]? = some u → w.cell? (q.add j) = some u) (hs : ∀ w, St w0 H w → St w0 (R (.tuple #[.agg cs.toArray, u])) w) :
    X N w0 (bodyPost P fn (fun e w' => ∃ v, e = .returned v ∧ St w0 (R v) w')) .ret σ H := by
  intro w hw a ha
  refine ⟨ha.defers, .tuple #[.agg cs.toArray, u], ?_, _, rfl, hs w hw⟩
  have h1 := ha.look_ t _ ht
  have h2 := ha.look_ s _ hs'
  obtain ⟨q, rfl, hq⟩ := hc w hw
  subst hl
  have hrn := run_loadCells_list (P := P) (w := w) q cs hq
  simp [results, hr, h1, h2, asAddr, loadVar, run_isAgg_t hT, run_sz hz, hrn]
end
section
variable {w0 : World} {H : List Assn}
theorem Ld.part {A : Option Addr} {xs : List B3} {k s j : Nat} {u : Value} (hr : ∀ w, St w0 H w → Rd B3C w A xs) (hk : k < xs.length) (hs : s = 3) (hu : (B3.cs xs[k])[j]? = some u) : ∀ w, St w0 H w → ∃ q, (A.map (·.add (k * s))).map (·.add j) = some q ∧ w.cell? q = some u := by
  intro w hw
  obtain ⟨q, h1, h2⟩ := Ld.rds hr hk (s := s) hs w hw
  exact ⟨q.add j, by rw [h1]; rfl, h2 j u hu⟩
/-- A field of a struct that is a value: one cell. -/
theorem Pu.field {P : Program} {σ : Sig} {o : Oper} {T : TypeId} {x : Operand} {f : Nat} {fs : Array Field} {fd : Field} {cs : Array Value} {u : Value} (ho : o.op = .field T x f) (hT : P.underlying T = some (.struct fs)) (hf : fs[f]? = some fd) (hp : plainT P fd.type = true) (hx : ev σ x = some (.agg cs)) (hu : cs[fd.offset]? = some u) : Pu P w0 o σ H u := by
  intro w hw a ha
  have h1 := ha x (by simp [ho, Op.operands]) _ hx
  simp [execOp, ho, h1, Instr.field, run_underlying hT, hf, asAgg, part, run_isAgg_f hp, hu]
end
/-- Two strings are equal, or not. -/
theorem Pu.eqlStr {P : Program} {w0 : World} {H : List Assn} {σ : Sig} {o : Oper} {T T2 : TypeId} {x y : Operand} {s t : ByteArray} {b : Bool} (hb : (s.toList == t.toList) = b) (ho : o.op = .binOp .eql T x y T2) (hx : ev σ x = some (.string s)) (hy : ev σ y = some (.string t)) : Pu P w0 o σ H (.bool b) := by
  subst hb
  intro w hw a ha
  have h1 := ha x (by simp [ho, Op.operands]) _ hx
  have h2 := ha y (by simp [ho, Op.operands]) _ hy
  have he : (eqGuard .eql T x y (.string s) (.string t)).run P w = .ok () w := by
    unfold eqGuard
    simp
  simp [execOp, ho, h1, h2, he, Go.binOp, Op.stringOp]
/-- The marks of n blocks. -/
def marksB (m : Int) (n : Nat) : List B3 := (List.range n).map fun i : Nat => (m + 3 * (i : Int), m + 3 * (i : Int) + 1, m + 3 * (i : Int) + 2)
theorem marksB_len (m : Int) (n : Nat) : (marksB m n).length = n := by simp [marksB]
theorem marksB_get (m : Int) (n : Nat) {k : Nat} (hk : k < (marksB m n).length) : (marksB m n)[k] = (m + 3 * (k : Int), m + 3 * (k : Int) + 1, m + 3 * (k : Int) + 2) := by simp [marksB]
def markBAt (xs : List B3) (m : Int) (k : Nat) : List B3 := marksB m k ++ xs.drop k
theorem markBAt_zero (xs : List B3) (m : Int) : markBAt xs m 0 = xs := by simp [markBAt, marksB]
theorem markBAt_len {xs : List B3} {m : Int} {k : Nat} (h : k ≤ xs.length) : (markBAt xs m k).length = xs.length := by simp [markBAt, marksB_len]; omega
theorem markBAt_set {xs : List B3} {m : Int} {k : Nat} (h : k < xs.length) : (markBAt xs m k).set k (m + 3 * (k : Int), m + 3 * (k : Int) + 1, m + 3 * (k : Int) + 2) = markBAt xs m (k + 1) := by
  unfold markBAt
  rw [List.set_append_right _ _ (by rw [marksB_len]; exact Nat.le_refl _), marksB_len, Nat.sub_self, drop_cons h, List.set_cons_zero]
  unfold marksB
  rw [List.range_succ, List.map_append, List.append_assoc]
  rfl
theorem markBAt_all {xs : List B3} {m : Int} {k : Nat} (h : k = xs.length) : markBAt xs m k = marksB m xs.length := by
  subst h
  simp [markBAt]
theorem set3 {l : List B3} {k : Nat} (hk : k < l.length) {a b c a2 b2 : B3} : ((l.set k a).set k b).set k c = l.set k c := by rw [List.set_set, List.set_set]
end Go.Vc
/-
  The calculus, part 20: Go's own sorting of an owned row.
-/
namespace Go.Vc
open Go Go.RowKit
open Go.Proofs (sortWorldK CmpLays ltOf)
open Go.Sort (flatK HoldsK putRowK get_flatK size_flatK putCells putRow mapBlock onCells PermIn SortedIn SWO)
section
variable {P : Program} {α : Type} {w0 w w' : World} {H : List Assn} {T c g : Nat} {A : Option Addr} {C : Cod α} {xs ys : List α}
theorem flatK_flat [Inhabited α] (C : Cod α) (xs : List α) : flatK C.enc C.sz xs.toArray = (xs.flatMap C.enc).toArray := by
  have hl := length_flatMap_enc C xs
  apply Array.ext
  · rw [size_flatK]; simp only [List.size_toArray]; omega
  · intro i h1 h2
    have hlt : i < xs.length * C.sz := by simpa [size_flatK] using h1
    have hp := C.pos
    have hq : i / C.sz < xs.length := Nat.div_lt_of_lt_mul (by rw [Nat.mul_comm]; exact hlt)
    have hme : i / C.sz * C.sz + i % C.sz = i := by rw [Nat.mul_comm]; exact Nat.div_add_mod i C.sz
    have hg := getElem?_flatMap_enc C xs (i / C.sz) (i % C.sz) hq (Nat.mod_lt _ hp)
    rw [hme] at hg
    have e1 := get_flatK C.enc C.sz xs.toArray i (by simpa using hlt)
    rw [getElem!_pos _ i h1] at e1
    rw [e1]
    have e2 : xs.toArray[i / C.sz]! = xs[i / C.sz] := by rw [getElem!_pos _ _ (by simpa using hq)]; simp
    rw [e2]
    have h3 : i % C.sz < (C.enc xs[i / C.sz]).length := by rw [C.len]; exact Nat.mod_lt _ hp
    rw [getElem!_pos (C.enc xs[i / C.sz]) _ h3]
    have h4 : (xs.flatMap C.enc)[i]? = some (C.enc xs[i / C.sz])[i % C.sz] := by rw [hg, List.getElem?_eq_getElem h3]
    have h5 : i < (xs.flatMap C.enc).length := by rw [hl]; exact hlt
    rw [List.getElem?_eq_getElem h5] at h4
    simpa using (Option.some.inj h4).symm
theorem own_cases (hw : St w0 (Own T C A c xs :: H) w) : (A = none ∧ c = 0 ∧ xs = []) ∨ ∃ g, A = some ⟨g, 0, none⟩ := by
  obtain ⟨F, ho, hF⟩ := hw.get 0 rfl
  rcases ho.2 with ⟨h1, h2⟩ | ⟨g, cap, cur, hvv, _⟩
  · injection h1 with e1 e2 e3
    exact .inl ⟨e1, e3, List.eq_nil_of_length_eq_zero h2⟩
  · injection hvv with e1
    exact .inr ⟨g, e1⟩
theorem own_holdsK [Inhabited α] (hw : St w0 (Own T C (some ⟨g, 0, none⟩) c xs :: H) w) : HoldsK C.enc C.sz w g 0 xs.toArray ∧ g < w.heap.size := by
  obtain ⟨F, ho, hF⟩ := hw.get 0 rfl
  rcases ho.2 with ⟨h1, h2⟩ | ⟨g', cap, cur, hvv, hbase, hh, hle, hmax, hcs, htake⟩
  · injection h1 with e1; cases e1
  · injection hvv with e1 e2 e3
    cases e1
    subst e3
    refine ⟨fun j hj => ?_, (Array.getElem?_eq_some_iff.1 hh).1⟩
    rw [flatK_flat] at hj ⊢
    have hl := length_flatMap_enc C xs
    have hj' : j < (xs.flatMap C.enc).length := by simpa using hj
    have e : cur[j]? = some (xs.flatMap C.enc)[j] := by
      have h1 : (cur.toList.take (xs.length * C.sz))[j]? = cur.toList[j]? := by rw [List.getElem?_take, if_pos (by omega)]
      rw [htake, List.getElem?_eq_getElem hj'] at h1
      rw [← Array.getElem?_toList, ← h1]
    constructor
    · rw [getElem!_pos _ j (by simpa using hj')]
      simp only [World.cell?, hh, Nat.zero_add, e, id]
      simp
    · simp [World.frozen?, hh]
theorem putCells_toList [Inhabited α] {cur : Array Value} (hn : xs.length * C.sz ≤ cur.size) : (putCells id 0 (flatK C.enc C.sz xs.toArray) cur).toList.take (xs.length * C.sz) = xs.flatMap C.enc := by
  have hl := length_flatMap_enc C xs
  rw [flatK_flat]
  apply List.ext_getElem
  · simp [putCells, hl]; omega
  · intro j h1 h2
    simp only [List.getElem_take, Array.getElem_toList, putCells, Array.getElem_mapIdx]
    rw [if_pos ⟨Nat.zero_le _, by simpa using h2⟩, Nat.sub_zero, getElem!_pos _ j (by simpa using h2)]
    simp
theorem St.sortedK [Inhabited α] (hw : St w0 (Own T C (some ⟨g, 0, none⟩) c xs :: H) w) (hl : ys.length = xs.length) (n : Nat) (os : Array Obj) :
    St w0 (Own T C (some ⟨g, 0, none⟩) c ys :: H) (sortWorldK C.enc C.sz w g 0 n ys.toArray os) := by
  refine hw.upd ?_
  rintro F ⟨ho, hF⟩ hb
  rcases ho.2 with ⟨h1, h2⟩ | ⟨g', cap, cur, hvv, hbase, hh, hle, hmax, hcs, htake⟩
  · injection h1 with e1; cases e1
  · injection hvv with e1 e2 e3
    cases e1
    subst e3
    have hgs : g < w.heap.size := (Array.getElem?_eq_some_iff.1 hh).1
    have hn : xs.length * C.sz ≤ cur.size := by rw [hcs]; exact Nat.mul_le_mul_right _ hle
    have heap : ∀ k, k < w.heap.size → (sortWorldK C.enc C.sz w g 0 n ys.toArray os).heap[k]? = if g = k then (w.heap[k]?).map (onCells (putCells id 0 (flatK C.enc C.sz ys.toArray))) else w.heap[k]? := by
      intro k hk
      unfold sortWorldK Go.Sort.grow putRowK putRow mapBlock Go.Sort.ahead
      simp only
      rw [Array.getElem?_append_left (by simpa using hk), Array.getElem?_modify]
    have hsize : (sortWorldK C.enc C.sz w g 0 n ys.toArray os).heap.size = w.heap.size + os.size := by
      unfold sortWorldK Go.Sort.grow putRowK putRow mapBlock Go.Sort.ahead
      simp
    refine ⟨⟨rfl, rfl, rfl, by omega, fun k hk hk' => ?_, Nat.le_add_right _ _⟩, F, ⟨⟨?_, .inr ⟨g, c, putCells id 0 (flatK C.enc C.sz ys.toArray) cur, by rw [hl], Nat.zero_le _, ?_, by omega, hmax, ?_, ?_⟩⟩, ?_⟩, ?_⟩
    · rw [heap k hk, if_neg (fun e => hk' ((hF k).2 (by subst e; rfl)))]
    · rw [length_flatMap_enc]
    · rw [heap g hgs, if_pos rfl, hh]; rfl
    · simp [putCells, hcs]
    · exact putCells_toList (by rw [hl]; exact hn)
    · intro k
      rw [hF k]
      simp [Value.ownBlock]
    · intro k hk
      exact ⟨.inl hk, by have := (hb k hk).2; omega⟩
/-- A world that has only grown. -/
theorem Bel.grown (h : Bel w.heap.size w w') : ∃ q os', w' = Go.Sort.grow (w.drewN q) os' := by
  refine ⟨w'.drawn - w.drawn, w'.heap.extract w.heap.size w'.heap.size, ?_⟩
  have hd := h.drawn
  have hs := h.size
  have e : w'.heap = w.heap ++ w'.heap.extract w.heap.size w'.heap.size := by
    apply Array.ext_getElem?
    intro k
    by_cases hk : k < w.heap.size
    · rw [Array.getElem?_append_left hk, h.block k hk]
    · rw [Array.getElem?_append_right (by omega), Array.getElem?_extract]
      by_cases h2 : k < w'.heap.size
      · rw [if_pos (by omega)]
        congr 1
        omega
      · rw [Array.getElem?_eq_none (by omega), if_neg (by omega)]
  cases w'
  cases w
  simp only [Go.Sort.grow, World.drewN] at *
  have h1 := h.os
  have h2 := h.tape
  have h3 := h.output
  simp only at h1 h2 h3 hd
  subst h1 h2 h3
  rw [← e]
  congr 1
  omega
/-- What a comparison hands back. -/
def CmpD (P : Program) (f : Nat) (cb : Array Value) (enc : α → Value) (cf : α → α → Int) (W : World) : Prop :=
  ∀ x y : α, Does P f ([enc x, enc y] ++ cb.toList) W [] (fun v => [.pur (v = .int .i64 (cf x y))])
theorem sorted_pair [Inhabited α] {lt : α → α → Bool} {d : Array α} (h : SortedIn lt 0 d.size d) : d.toList.Pairwise fun x y => lt y x = false := by
  rw [List.pairwise_iff_getElem]
  intro i j hi hj hij
  have h1 := h i j (Nat.zero_le _) hij (by simpa using hj)
  rw [getElem!_pos d i (by simpa using hi), getElem!_pos d j (by simpa using hj)] at h1
  simpa using h1
theorem permIn_perm [Inhabited α] {d d' : Array α} (h : PermIn 0 d.size d d') : d'.toList.Perm d.toList := by
  obtain ⟨h1, _, h3⟩ := h
  have e1 : d.extract 0 d.size = d := by simp
  have e2 : d'.extract 0 d.size = d' := by rw [← h1]; simp
  rwa [e1, e2] at h3
/-- slices.SortFunc at elements of several cells. -/
theorem sortK_does [Inhabited α] {ρ : Go.Shelf.Ren} (L : Go.Proofs.SlLaysF0.n6 P ρ) (aE : ∀ w, (isAgg (ρ.t 24)).run P w = .ok true w) (zE : ∀ w, (Go.sizeOf (ρ.t 24)).run P w = .ok C.sz w) (cf : α → α → Int) (hO : SWO (ltOf cf)) {f : Nat} {cb : Array Value} (hok : CallOk P f)
    (hcmp : ∀ zs W, St w0 (Own T C A c zs :: H) W → CmpD P f cb (fun x => .agg (C.enc x).toArray) cf W) (hlen : xs.length < 4611686018427387904) :
    Does P (ρ.f 6) [.slice A xs.length c, .func (.func f) #[] cb] w0 (Own T C A c xs :: H) (fun v => [.exi fun ys : List α => .sep (.pur (v = .tuple #[] ∧ ys.Perm xs ∧ ys.Pairwise fun x y => ¬ cf y x < 0)) (Own T C A c ys)] ++ H) := by
  intro w hw
  rcases own_cases hw with ⟨rfl, rfl, rfl⟩ | ⟨g, rfl⟩
  · refine (Go.Proofs.AnyF.slices_SortFunc_none L none 0 _ w).mono ?_
    rintro e w' ⟨rfl, rfl⟩
    exact ⟨_, rfl, St.mkExi [] (St.unsep (St.addPur ⟨rfl, List.Perm.refl _, List.Pairwise.nil⟩ hw))⟩
  · obtain ⟨hH, hg⟩ := own_holdsK hw
    have eg : ∀ args w, (callFunc f args).run P w = .ok (.enter f args) w := fun args w => run_callFunc hok args w
    have hC : CmpLays P f cb C.enc C.sz cf g 0 xs.toArray.size w := by
      intro m os dk hs x y
      have hs' : dk.toList.length = xs.length := by simpa using hs
      have h1 := St.sortedK hw hs' m os
      have h2 := hcmp _ _ h1 x y _ (St.start _)
      have e : ([Value.agg (C.enc x).toArray, Value.agg (C.enc y).toArray] ++ cb.toList).toArray = #[.agg (C.enc x).toArray, .agg (C.enc y).toArray] ++ cb := by
        apply Array.ext'
        simp
      rw [e] at h2
      refine h2.mono ?_
      rintro e w' ⟨v, rfl, hs3⟩
      exact ⟨by rw [hs3.pur.1], hs3.below.grown⟩
    have h := Go.Proofs.AnyQ.slices_SortFunc L C.sz aE zE C.enc C.len C.one cf hO f cb g 0 c xs.toArray w eg hC hH hg (by simpa using hlen)
    have e0 : xs.toArray.size = xs.length := by simp
    rw [e0] at h
    refine h.mono ?_
    rintro e w' ⟨rfl, d', n, os, hp, hs, rfl⟩
    rw [← e0] at hp hs
    have hsz : d'.size = xs.toArray.size := hp.1
    have hp' := permIn_perm hp
    rw [← hsz] at hs
    have hs' := sorted_pair hs
    refine ⟨_, rfl, St.mkExi d'.toList (St.unsep (St.addPur ⟨rfl, by simpa using hp', hs'.imp fun h => ?_⟩ (St.sortedK hw (by simpa using hsz) n os)))⟩
    simpa [ltOf] using h
end
end Go.Vc
/-
  The calculus, part 21: Go's own sorting of an owned row of one cell an element, and of an array of numbers.
-/
namespace Go.Vc
open Go Go.RowKit
open Go.Proofs (sortWorld CmpLays1 ltOf)
open Go.Sort (putCells putRow mapBlock onCells PermIn SortedIn SWO Holds)
section
variable {P : Program} {α : Type} {w0 w w' : World} {H : List Assn} {T c g : Nat} {A : Option Addr} {C : Cod α} {xs ys : List α} {enc : α → Value}
theorem flat1 (hC : ∀ x, C.enc x = [enc x]) : ∀ xs : List α, xs.flatMap C.enc = xs.map enc := by
  intro xs
  induction xs with
  | nil => rfl
  | cons x xs ih => rw [List.flatMap_cons, List.map_cons, hC, ih]; rfl
theorem own_holds1 [Inhabited α] (hC : ∀ x, C.enc x = [enc x]) (hz : C.sz = 1) (hw : St w0 (Own T C (some ⟨g, 0, none⟩) c xs :: H) w) : Holds enc w g 0 xs.toArray ∧ g < w.heap.size := by
  obtain ⟨F, ho, hF⟩ := hw.get 0 rfl
  rcases ho.2 with ⟨h1, h2⟩ | ⟨g', cap, cur, hvv, hbase, hh, hle, hmax, hcs, htake⟩
  · injection h1 with e1; cases e1
  · injection hvv with e1 e2 e3
    cases e1
    subst e3
    refine ⟨fun j hj => ?_, (Array.getElem?_eq_some_iff.1 hh).1⟩
    have hj' : j < xs.length := by simpa using hj
    rw [flat1 hC, hz, Nat.mul_one] at htake
    have e : cur[j]? = some (enc xs[j]) := by
      have h1 : (cur.toList.take xs.length)[j]? = cur.toList[j]? := by rw [List.getElem?_take, if_pos (by omega)]
      rw [htake, List.getElem?_map, List.getElem?_eq_getElem hj'] at h1
      rw [← Array.getElem?_toList, ← h1]
      rfl
    constructor
    · rw [getElem!_pos _ j hj]
      simp only [World.cell?, hh, Nat.zero_add, e]
      simp
    · simp [World.frozen?, hh]
theorem putCells1 [Inhabited α] {cur : Array Value} (hn : xs.length ≤ cur.size) : (putCells enc 0 xs.toArray cur).toList.take xs.length = xs.map enc := by
  apply List.ext_getElem
  · simp [putCells]; omega
  · intro j h1 h2
    simp only [List.getElem_take, Array.getElem_toList, putCells, Array.getElem_mapIdx]
    rw [if_pos ⟨Nat.zero_le _, by simpa using h2⟩, Nat.sub_zero, getElem!_pos _ j (by simpa using h2)]
    simp
theorem sort_heap [Inhabited α] {enc : α → Value} {n : Nat} {d : Array α} {os : Array Obj} {k : Nat} (hk : k < w.heap.size) : (Go.Sort.grow (putRow enc (Go.Sort.ahead w n) g 0 d) os).heap[k]? = if g = k then (w.heap[k]?).map (onCells (putCells enc 0 d)) else w.heap[k]? := by
  unfold Go.Sort.grow putRow mapBlock Go.Sort.ahead
  simp only
  rw [Array.getElem?_append_left (by simpa using hk), Array.getElem?_modify]
theorem sort_size [Inhabited α] {enc : α → Value} {n : Nat} {d : Array α} {os : Array Obj} : (Go.Sort.grow (putRow enc (Go.Sort.ahead w n) g 0 d) os).heap.size = w.heap.size + os.size := by
  unfold Go.Sort.grow putRow mapBlock Go.Sort.ahead
  simp
theorem St.sorted1 [Inhabited α] (hC : ∀ x, C.enc x = [enc x]) (hz : C.sz = 1) (hw : St w0 (Own T C (some ⟨g, 0, none⟩) c xs :: H) w) (hl : ys.length = xs.length) (n : Nat) (os : Array Obj) :
    St w0 (Own T C (some ⟨g, 0, none⟩) c ys :: H) (Go.Sort.grow (putRow enc (Go.Sort.ahead w n) g 0 ys.toArray) os) := by
  refine hw.upd ?_
  rintro F ⟨ho, hF⟩ hb
  rcases ho.2 with ⟨h1, h2⟩ | ⟨g', cap, cur, hvv, hbase, hh, hle, hmax, hcs, htake⟩
  · injection h1 with e1; cases e1
  · injection hvv with e1 e2 e3
    cases e1
    subst e3
    have hgs : g < w.heap.size := (Array.getElem?_eq_some_iff.1 hh).1
    rw [hz, Nat.mul_one] at hcs
    refine ⟨⟨rfl, rfl, rfl, by rw [sort_size]; omega, fun k hk hk' => ?_, Nat.le_add_right _ _⟩, F, ⟨⟨?_, .inr ⟨g, c, putCells enc 0 ys.toArray cur, by rw [hl], Nat.zero_le _, ?_, by omega, hmax, ?_, ?_⟩⟩, ?_⟩, ?_⟩
    · rw [sort_heap hk, if_neg (fun e => hk' ((hF k).2 (by subst e; rfl)))]
    · rw [length_flatMap_enc]
    · rw [sort_heap hgs, if_pos rfl, hh]; rfl
    · simp [putCells, hcs, hz]
    · rw [hz, Nat.mul_one, flat1 hC]
      exact putCells1 (by omega)
    · intro k
      rw [hF k]
      simp [Value.ownBlock]
    · intro k hk
      exact ⟨.inl hk, by have := (hb k hk).2; rw [sort_size]; omega⟩
/-- slices.SortFunc at elements of one cell, of which only some can be told apart by the comparison: those with p. -/
theorem sort1_does {ρ : Go.Shelf.Ren} (L : Go.Proofs.SlLaysF.n6 P ρ) (hC : ∀ x, C.enc x = [enc x]) (hz : C.sz = 1) (h1 : ∀ x, (enc x).oneCell' = true) (p : α → Prop) (hp : ∀ x ∈ xs, p x) (cf : {x // p x} → {x // p x} → Int) (hO : SWO (ltOf cf)) {f : Nat} {cb : Array Value} (hok : CallOk P f)
    (hcmp : ∀ zs W, (∀ x ∈ zs, p x) → St w0 (Own T C A c zs :: H) W → CmpD P f cb (fun x : {x // p x} => enc x.1) cf W) (hlen : xs.length < 4611686018427387904) :
    Does P (ρ.f 6) [.slice A xs.length c, .func (.func f) #[] cb] w0 (Own T C A c xs :: H) (fun v => [.exi fun ys : List α => .sep (.pur (v = .tuple #[] ∧ ys.Perm xs ∧ ys.Pairwise fun x y => ∀ hx : p x, ∀ hy : p y, ¬ cf ⟨y, hy⟩ ⟨x, hx⟩ < 0)) (Own T C A c ys)] ++ H) := by
  intro w hw
  have L0 : Go.Proofs.SlLaysF0.n6 P ρ := { L with }
  rcases own_cases hw with ⟨rfl, rfl, rfl⟩ | ⟨g, rfl⟩
  · refine (Go.Proofs.AnyF.slices_SortFunc_none L0 none 0 _ w).mono ?_
    rintro e w' ⟨rfl, rfl⟩
    exact ⟨_, rfl, St.mkExi [] (St.unsep (St.addPur ⟨rfl, List.Perm.refl _, List.Pairwise.nil⟩ hw))⟩
  · cases xs with
    | nil =>
      refine (Go.Proofs.AnyF.slices_SortFunc_none L0 (some ⟨g, 0, none⟩) c _ w).mono ?_
      rintro e w' ⟨rfl, rfl⟩
      exact ⟨_, rfl, St.mkExi [] (St.unsep (St.addPur ⟨rfl, List.Perm.refl _, List.Pairwise.nil⟩ hw))⟩
    | cons x0 xs0 =>
      generalize hxs : x0 :: xs0 = xs at *
      let _ : Inhabited α := ⟨x0⟩
      let _ : Inhabited {x // p x} := ⟨⟨x0, hp x0 (by rw [← hxs]; exact List.mem_cons_self ..)⟩⟩
      obtain ⟨ex, hex⟩ : ∃ ex : List {x // p x}, ex.map (·.1) = xs := ⟨xs.attach.map fun y => ⟨y.1, hp y.1 y.2⟩, by simp⟩
      have hexl : ex.length = xs.length := by rw [← hex]; simp
      obtain ⟨hH, hg⟩ := own_holds1 hC hz hw
      have hH' : Holds (fun x : {x // p x} => enc x.1) w g 0 ex.toArray := by
        intro j hj
        have hj1 : j < ex.length := by simpa using hj
        have hj2 : j < xs.length := by omega
        have h2 := hH j (by simpa using hj2)
        rw [getElem!_pos _ j (by simpa using hj2)] at h2
        rw [getElem!_pos _ j hj]
        have e : (ex[j]).1 = xs[j] := by subst hex; simp
        simpa [e] using h2
      have eg : ∀ args w, (callFunc f args).run P w = .ok (.enter f args) w := fun args w => run_callFunc hok args w
      have key : ∀ (m : Nat) (os : Array Obj) (dk : Array {x // p x}), putRow (fun x : {x // p x} => enc x.1) (Go.Sort.ahead w m) g 0 dk = putRow enc (Go.Sort.ahead w m) g 0 (dk.toList.map (·.1)).toArray := by
        intro m os dk
        unfold putRow
        congr 1
        funext cur
        unfold putCells
        congr 1
        funext k x
        by_cases hk : 0 ≤ k ∧ k < 0 + dk.size
        · rw [if_pos hk, if_pos (by simpa using hk)]
          rw [getElem!_pos _ _ (by simpa using hk.2), getElem!_pos _ _ (by simpa using hk.2)]
          simp
        · rw [if_neg hk, if_neg (by simpa using hk)]
      have hCL : CmpLays1 P f cb (fun x : {x // p x} => enc x.1) cf g 0 ex.toArray.size w := by
        intro m os dk hs x y
        have hs' : (dk.toList.map (·.1)).length = xs.length := by simpa [hexl] using hs
        have h1 := St.sorted1 hC hz hw hs' m os
        have e0 : sortWorld (fun x : {x // p x} => enc x.1) w g 0 m dk os = Go.Sort.grow (putRow enc (Go.Sort.ahead w m) g 0 (dk.toList.map (·.1)).toArray) os := by
          unfold sortWorld
          rw [key m os dk]
        rw [← e0] at h1
        have h2 := hcmp _ _ (fun z hz' => by obtain ⟨u, _, rfl⟩ := List.mem_map.1 hz'; exact u.2) h1 x y _ (St.start _)
        have e : ([enc x.1, enc y.1] ++ cb.toList).toArray = #[enc x.1, enc y.1] ++ cb := by
          apply Array.ext'
          simp
        rw [e] at h2
        refine h2.mono ?_
        rintro e w' ⟨v, rfl, hs3⟩
        exact ⟨by rw [hs3.pur.1], hs3.below.grown⟩
      have h := Go.Proofs.Any.slices_SortFunc L (fun x : {x // p x} => enc x.1) (fun x => h1 x.1) cf hO f cb g 0 c ex.toArray w eg hCL hH' hg (by simpa [hexl] using hlen)
      have e0 : ex.toArray.size = xs.length := by simp [hexl]
      rw [e0] at h
      refine h.mono ?_
      rintro e w' ⟨rfl, d', n, os, hpm, hs, rfl⟩
      rw [← e0] at hpm hs
      have hsz : d'.size = ex.toArray.size := hpm.1
      have hp' := permIn_perm hpm
      rw [← hsz] at hs
      have hs' := sorted_pair hs
      have e1 : sortWorld (fun x : {x // p x} => enc x.1) w g 0 n d' os = Go.Sort.grow (putRow enc (Go.Sort.ahead w n) g 0 (d'.toList.map (·.1)).toArray) os := by
        unfold sortWorld
        rw [key n os d']
      rw [e1]
      have hfin := St.sorted1 (ys := d'.toList.map (·.1)) hC hz hw (by simpa [hexl] using hsz) n os
      have hperm : (d'.toList.map (·.1)).Perm xs := by
        have := hp'.map (·.1)
        rw [show (ex.toArray).toList = ex from rfl, hex] at this
        exact this
      have hsrt : (d'.toList.map (·.1)).Pairwise fun x y => ∀ hx : p x, ∀ hy : p y, ¬ cf ⟨y, hy⟩ ⟨x, hx⟩ < 0 := by
        rw [List.pairwise_map]
        refine hs'.imp fun {a b} h hx hy => ?_
        simpa [ltOf] using h
      generalize d'.toList.map (·.1) = ys at hfin hperm hsrt
      generalize Go.Sort.grow (putRow enc (Go.Sort.ahead w n) g 0 ys.toArray) os = w2 at hfin
      exact ⟨_, rfl, St.mkExi ys (St.unsep (St.addPur ⟨rfl, hperm, hsrt⟩ hfin))⟩
/-- Numbers in order. -/
def sortI (xs : List Int) : List Int := xs.mergeSort fun x y => decide (x ≤ y)
theorem sortI_len (xs : List Int) : (sortI xs).length = xs.length := by unfold sortI; exact List.length_mergeSort _
theorem sortI_perm (xs : List Int) : (sortI xs).Perm xs := List.mergeSort_perm _ _
theorem sortI_sorted (xs : List Int) : (sortI xs).Pairwise (· ≤ ·) := by
  have h := List.pairwise_mergeSort (le := fun x y : Int => decide (x ≤ y)) (by intro a b c; simp; omega) (by intro a b; simp; omega) xs
  exact h.imp (by intro a b h; simpa using h)
theorem sortI_unique {xs ys : List Int} (hp : ys.Perm xs) (hs : ys.Pairwise (· ≤ ·)) : ys = sortI xs :=
  (hp.trans (sortI_perm xs).symm).eq_of_pairwise (fun a b _ _ h1 h2 => by omega) hs (sortI_sorted xs)
/-- slices.Sort. -/
theorem sortI_does {ρ : Go.Shelf.Ren} (L : Go.Proofs.SlLaysM.n5 P ρ) {xs : List Int} (hlen : xs.length < 4611686018427387904) :
    Does P (ρ.f 5) [.slice A xs.length c] w0 (Own T I64 A c xs :: H) (fun v => [.sep (.pur (v = .tuple #[])) (Own T I64 A c (sortI xs))] ++ H) := by
  intro w hw
  rcases own_cases hw with ⟨rfl, rfl, rfl⟩ | ⟨g, rfl⟩
  · refine (Go.Proofs.AnyM.slices_Sort_int_none L none 0 w).mono ?_
    rintro e w' ⟨rfl, rfl⟩
    have e : sortI [] = [] := by simp [sortI]
    rw [e]
    exact ⟨_, rfl, St.unsep (St.addPur rfl hw)⟩
  · obtain ⟨hH, hg⟩ := own_holds1 (enc := Value.int .i64) (fun _ => rfl) rfl hw
    refine (Go.Proofs.AnyM.slices_Sort_int L g 0 c xs w hH hg hlen).mono ?_
    rintro e w' ⟨rfl, n, os, rfl⟩
    exact ⟨_, rfl, St.unsep (St.addPur rfl (St.sorted1 (enc := Value.int .i64) (fun _ => rfl) rfl hw (sortI_len xs) n os))⟩
/-- .. of an array. -/
theorem sortI_blk {ρ : Go.Shelf.Ren} (L : Go.Proofs.SlLaysM.n5 P ρ) {xs : List Int} (hlen : xs.length < 4611686018427387904) :
    Does P (ρ.f 5) [.slice (some ⟨g, 0, none⟩) xs.length c] w0 (Blk g (xs.map (Value.int .i64)) T :: H) (fun v => [.sep (.pur (v = .tuple #[])) (Blk g ((sortI xs).map (Value.int .i64)) T)] ++ H) := by
  intro w hw
  have hh := Blk.heap hw (i := 0) rfl
  have hg : g < w.heap.size := (Array.getElem?_eq_some_iff.1 hh).1
  have hH : Holds (Value.int .i64) w g 0 xs.toArray := by
    intro j hj
    have hj' : j < xs.length := by simpa using hj
    rw [getElem!_pos _ j hj]
    constructor
    · simp [World.cell?, hh, hj']
    · simp [World.frozen?, hh]
  refine (Go.Proofs.AnyM.slices_Sort_int L g 0 c xs w hH hg hlen).mono ?_
  rintro e w' ⟨rfl, n, os, rfl⟩
  refine ⟨_, rfl, St.unsep (St.addPur rfl (hw.upd ?_))⟩
  rintro F ⟨h0, hF⟩ hb
  have hl := sortI_len xs
  refine ⟨⟨rfl, rfl, rfl, by rw [sort_size]; omega, fun k hk hk' => ?_, Nat.le_add_right _ _⟩, F, ⟨?_, hF⟩, ?_⟩
  · rw [sort_heap hk, if_neg (fun e => hk' ((hF k).2 e.symm))]
  · show (Go.Sort.grow _ os).heap[g]? = _
    rw [sort_heap hg, if_pos rfl, hh]
    show some (Obj.cells _ _ _) = _
    congr 2
    have := putCells1 (xs := sortI xs) (enc := Value.int .i64) (cur := (xs.map (Value.int .i64)).toArray) (by simp [hl])
    rw [List.take_of_length_le (by simp [putCells, hl])] at this
    exact Array.ext' (by rw [← this]; rfl)
  · intro k hk
    exact ⟨.inl hk, by have := (hb k hk).2; rw [sort_size]; omega⟩
end
end Go.Vc
/-
  Plain words: three numbers in order; systems that are turned.
-/
namespace Go.Vc
open Go Go.RowKit
def lo3 (a b c : Int) : Int := min (min a b) c
def hi3 (a b c : Int) : Int := max (max a b) c
def mi3 (a b c : Int) : Int := a + b + c - lo3 a b c - hi3 a b c
/-- The block of three points. -/
def bk3 (a b c : Int) : B3 := (lo3 a b c, mi3 a b c, hi3 a b c)
theorem three_eq {a b c x y z : Int} (h1 : a = x) (h2 : b = y) (h3 : c = z) : [a, b, c] = [x, y, z] := by rw [h1, h2, h3]
theorem sortI_three (a b c : Int) : sortI [a, b, c] = [lo3 a b c, mi3 a b c, hi3 a b c] := by
  symm
  apply sortI_unique
  · unfold mi3 lo3 hi3
    by_cases h1 : a ≤ b <;> by_cases h2 : b ≤ c <;> by_cases h3 : a ≤ c
    · have e : [min (min a b) c, a + b + c - min (min a b) c - max (max a b) c, max (max a b) c] = [a, b, c] := three_eq (by omega) (by omega) (by omega)
      rw [e]
    · exfalso; omega
    · have e : [min (min a b) c, a + b + c - min (min a b) c - max (max a b) c, max (max a b) c] = [a, c, b] := three_eq (by omega) (by omega) (by omega)
      rw [e]
      exact (List.Perm.swap _ _ _).cons _
    · have e : [min (min a b) c, a + b + c - min (min a b) c - max (max a b) c, max (max a b) c] = [c, a, b] := three_eq (by omega) (by omega) (by omega)
      rw [e]
      exact (List.Perm.swap _ _ _).trans ((List.Perm.swap _ _ _).cons _)
    · have e : [min (min a b) c, a + b + c - min (min a b) c - max (max a b) c, max (max a b) c] = [b, a, c] := three_eq (by omega) (by omega) (by omega)
      rw [e]
      exact List.Perm.swap _ _ _
    · have e : [min (min a b) c, a + b + c - min (min a b) c - max (max a b) c, max (max a b) c] = [b, c, a] := three_eq (by omega) (by omega) (by omega)
      rw [e]
      exact ((List.Perm.swap _ _ _).cons _).trans (List.Perm.swap _ _ _)
    · exfalso; omega
    · have e : [min (min a b) c, a + b + c - min (min a b) c - max (max a b) c, max (max a b) c] = [c, b, a] := three_eq (by omega) (by omega) (by omega)
      rw [e]
      exact (List.Perm.swap _ _ _).trans (((List.Perm.swap _ _ _).cons _).trans (List.Perm.swap _ _ _))
  · simp only [List.pairwise_cons, List.mem_cons, List.not_mem_nil, or_false, forall_eq_or_imp, forall_eq, List.Pairwise.nil, and_true]
    unfold mi3 lo3 hi3
    refine ⟨⟨?_, ?_⟩, ?_, ?_⟩ <;> first | omega | (intro _ h; cases h)
section
variable {P : Program} {w0 w : World} {H : List Assn} {T c g : Nat}
theorem sort3_blk {ρ : Go.Shelf.Ren} (L : Go.Proofs.SlLaysM.n5 P ρ) (x y z : Int) :
    Does P (ρ.f 5) [.slice (some ⟨g, 0, none⟩) 3 c] w0 (Blk g [.int .i64 x, .int .i64 y, .int .i64 z] T :: H) (fun v => [.sep (.pur (v = .tuple #[])) (Blk g [.int .i64 (lo3 x y z), .int .i64 (mi3 x y z), .int .i64 (hi3 x y z)] T)] ++ H) := by
  have h := sortI_blk (w0 := w0) (H := H) (T := T) (c := c) (g := g) L (xs := [x, y, z]) (by simp)
  rw [sortI_three] at h
  exact h
end
theorem swoB : Go.Sort.SWO (Go.Proofs.ltOf fun x y : B3 => cmpL (bl x) (bl y)) := by
  have e : ∀ x y : B3, Go.Proofs.ltOf (fun x y : B3 => cmpL (bl x) (bl y)) x y = decide (B3.lt x y) := fun x y => by
    unfold Go.Proofs.ltOf
    exact decide_eq_decide.2 (cmpL_bl x y)
  refine ⟨fun x => ?_, fun x y z h1 h2 => ?_, fun x y z h1 h2 => ?_⟩
  · rw [e]; exact decide_eq_false (lt_irrefl x)
  · rw [e] at *
    simp only [decide_eq_true_eq] at *
    unfold B3.lt at *
    omega
  · rw [e] at *
    simp only [decide_eq_false_iff_not] at *
    unfold B3.lt at *
    omega
theorem srt_of {ys : List B3} (h : ys.Pairwise fun x y => ¬ cmpL (bl y) (bl x) < 0) : SrtB ys := h.imp fun {a b} h => by
  unfold leB
  rwa [cmpL_bl] at h
/-- A block, renumbered. -/
def renB (p : List Int) (b : B3) : B3 := bk3 (p.getD b.1.toNat 0) (p.getD b.2.1.toNat 0) (p.getD b.2.2.toNat 0)
theorem getD_at {p : List Int} {i : Nat} (h : i < p.length) : p.getD i 0 = p[i] := by simp [List.getD, h]
/-- The points, turned. -/
def turnL (v k : Int) (n : Nat) : List Int := (List.range n).map fun a : Nat => ((a : Int) + k) % v
theorem turnL_len (v k : Int) (n : Nat) : (turnL v k n).length = n := by simp [turnL]
theorem turnL_snoc (v k : Int) (n : Nat) : turnL v k (n + 1) = turnL v k n ++ [((n : Int) + k) % v] := by simp [turnL, List.range_succ]
theorem turnL_mem {v k : Int} {n : Nat} (hv : 0 < v) {q : Int} (h : q ∈ turnL v k n) : 0 ≤ q ∧ q < v := by
  obtain ⟨a, _, rfl⟩ := List.mem_map.1 h
  exact ⟨Int.emod_nonneg _ (by omega), Int.emod_lt_of_pos _ hv⟩
/-- The blocks, turned, in some order. -/
def turnB (v k : Int) (bs : List B3) : List B3 := bs.map (renB (turnL v k v.toNat))
theorem good_len {v : Int} {bs : List B3} {k : Int} (h : STS v bs) : ∀ b ∈ bs, good ((turnL v k v.toNat).length : Int) b := fun b hb => by
  rw [turnL_len]
  have := h.good b hb
  have h1 := h.lo
  rwa [Int.toNat_of_nonneg (by omega)]
/-- What both TurnSystem return. -/
def TSR (v : Int) (bs : List B3) (k : Int) (r : List B3) : Prop := if STS v bs ∧ 0 ≤ k ∧ k ≤ v - 1 then r.Perm (turnB v k bs) ∧ SrtB r else r = []
theorem TSR.unique {v : Int} {bs : List B3} {k : Int} {r s : List B3} (h : TSR v bs k r) (g : TSR v bs k s) : r = s := by
  unfold TSR at *
  split at h
  · rename_i hc
    rw [if_pos hc] at g
    exact srtB_unique h.2 g.2 (h.1.trans g.1.symm)
  · rename_i hc
    rw [if_neg hc] at g
    rw [h, g]
theorem TSR.len {v : Int} {bs : List B3} {k : Int} {r : List B3} (h : TSR v bs k r) : r.length ≤ bs.length := by
  unfold TSR at h
  split at h
  · rw [h.1.length_eq]; simp [turnB]
  · simp [h]
/-- No block is in common with the turned ones. -/
def apT (v : Int) (bs : List B3) (k : Int) : Prop := ∀ b ∈ bs, b ∉ turnB v k bs
instance (v : Int) (bs : List B3) (k : Int) : Decidable (apT v bs k) := inferInstanceAs (Decidable (∀ b ∈ bs, b ∉ turnB v k bs))
theorem apT_iff {v : Int} {bs : List B3} {k : Int} {r : List B3} (h : r.Perm (turnB v k bs)) : (bs.filter fun b => decide (b ∈ r)).length = 0 ↔ apT v bs k := by
  rw [List.length_eq_zero_iff, List.filter_eq_nil_iff]
  unfold apT
  simp only [decide_eq_true_eq, h.mem_iff]
/-- The least turn that is apart, and the code: what both MateByTurning return. -/
def MTR (v : Int) (bs : List B3) (r code : Int) : Prop :=
  (¬ STS v bs → r = 0 ∧ code = 1) ∧ (STS v bs → (1 ≤ r ∧ r < v ∧ apT v bs r ∧ (∀ j, 1 ≤ j → j < r → ¬ apT v bs j) ∧ code = 0) ∨ ((∀ j, 1 ≤ j → j < v → ¬ apT v bs j) ∧ r = 0 ∧ code = 4))
theorem MTR.unique {v : Int} {bs : List B3} {r c s d : Int} (h : MTR v bs r c) (g : MTR v bs s d) : r = s ∧ c = d := by
  by_cases hS : STS v bs
  · rcases h.2 hS with ⟨a1, a2, a3, a4, a5⟩ | ⟨a1, a2, a3⟩ <;> rcases g.2 hS with ⟨b1, b2, b3, b4, b5⟩ | ⟨b1, b2, b3⟩
    · have e : r = s := by
        by_cases h1 : r < s
        · exact absurd a3 (b4 r a1 h1)
        · by_cases h2 : s < r
          · exact absurd b3 (a4 s b1 h2)
          · omega
      exact ⟨e, by omega⟩
    · exact absurd a3 (b1 r a1 a2)
    · exact absurd b3 (a1 s b1 b2)
    · omega
  · have := h.1 hS; have := g.1 hS; omega
end Go.Vc
/-
  Plain words: blocks that are turned around; the two systems of a new desk.
-/
namespace Go.Vc
open Go Go.RowKit
def bkT (v : Int) (b : B3) (i : Nat) : B3 := bk3 ((b.1 + i) % v) ((b.2.1 + i) % v) ((b.2.2 + i) % v)
def addT (v : Int) (b : B3) (l : List B3) (i : Nat) : List B3 := if bkT v b i ∈ l then l else l ++ [bkT v b i]
/-- The first n turns of a block, put behind a list, without equal ones. -/
def rowT (v : Int) (l : List B3) (b : B3) (n : Nat) : List B3 := (List.range n).foldl (addT v b) l
def tblT (v : Int) (bs : List B3) : List B3 := bs.foldl (fun l b => rowT v l b v.toNat) []
section
variable {v : Int} {l bs : List B3} {b : B3} {n i : Nat}
theorem rowT_succ : rowT v l b (n + 1) = addT v b (rowT v l b n) n := by
  unfold rowT
  rw [List.range_succ, List.foldl_append]
  rfl
theorem rowT_yes (h : bkT v b n ∈ rowT v l b n) : rowT v l b (n + 1) = rowT v l b n := by
  rw [rowT_succ]
  unfold addT
  rw [if_pos h]
theorem rowT_no (h : ¬ bkT v b n ∈ rowT v l b n) : rowT v l b (n + 1) = rowT v l b n ++ [bkT v b n] := by
  rw [rowT_succ]
  unfold addT
  rw [if_neg h]
theorem rowT_zero : rowT v l b 0 = l := rfl
theorem rowT_len : ∀ n, (rowT v l b n).length ≤ l.length + n := by
  intro n
  induction n with
  | zero => simp [rowT_zero]
  | succ n ih =>
    by_cases h : bkT v b n ∈ rowT v l b n
    · rw [rowT_yes h]; omega
    · rw [rowT_no h, List.length_append]; simp; omega
theorem tblT_snoc (h : i < bs.length) : tblT v (bs.take (i + 1)) = rowT v (tblT v (bs.take i)) bs[i] v.toNat := by
  unfold tblT
  rw [take_snoc h, List.foldl_append]
  rfl
theorem tblT_len : ∀ bs : List B3, (tblT v bs).length ≤ bs.length * v.toNat := by
  intro bs
  suffices h : ∀ (bs l : List B3), (bs.foldl (fun l b => rowT v l b v.toNat) l).length ≤ l.length + bs.length * v.toNat by
    have := h bs []
    simpa [tblT] using this
  intro bs
  induction bs with
  | nil => intro l; simp
  | cons b bs ih =>
    intro l
    simp only [List.foldl_cons, List.length_cons]
    have h1 := ih (rowT v l b v.toNat)
    have h2 := rowT_len (v := v) (l := l) (b := b) v.toNat
    rw [Nat.add_mul]
    omega
end
/-- What both make of the Fano plane. -/
def FanoR (r : List B3) : Prop := r.Perm (rowT 7 [] (0, 1, 3) 7) ∧ SrtB r
theorem FanoR.unique {r s : List B3} (h : FanoR r) (g : FanoR s) : r = s := srtB_unique h.2 g.2 (h.1.trans g.1.symm)
theorem FanoR.len {r : List B3} (h : FanoR r) : r.length ≤ 7 := by
  rw [h.1.length_eq]
  exact rowT_len 7
end Go.Vc
