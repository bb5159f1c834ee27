/-
  The calculus and plain words, part 5.
-/
import Derived.Test.YtjpfngmoabnffaaKa4
import Derived.Shelf.SlSortCmp.NoneTotal
set_option linter.unusedVariables false
set_option linter.unusedSimpArgs false
/-
  The calculus, part 14: a search for completions that hands them on.
-/
namespace Go.Vc
open Go Go.RowKit
section
variable {P : Program} {N : Nat} {w0 : World} {Q : Exit → Act → World → Prop} {σ : Sig} {H H' : List Assn} {ops : Array Oper} {rest : List Oper}
/-- A search: the completer's cells, its grid, its list; what has been handed on, l. -/
def CompK (T eT gT : TypeId) (cb gb v : Nat) (f : Value) (E : List (List B3) → Assn) (m : Nat) (xs : List B3) (l : List (List B3)) : Assn :=
  .exi fun q : (Option Addr × Nat) × (Int → Int → Int) => .sep (.pur (Rel v q.2 m)) (.sep (Blk cb [.int .i64 (v : Int), .pointer (some ⟨gb, 0, none⟩), .slice q.1.1 xs.length q.1.2, f] T) (.sep (Grid gb q.2 gT) (.sep (Own eT B3C q.1.1 q.1.2 xs) (E l))))
variable {T eT gT : TypeId} {cb gb v m : Nat} {f : Value} {E : List (List B3) → Assn} {xs : List B3} {l : List (List B3)}
theorem V.compK {c : Code} (h : ∀ A k G, Rel v G m → V P N w0 c Q σ (Blk cb [.int .i64 (v : Int), .pointer (some ⟨gb, 0, none⟩), .slice A xs.length k, f] T :: Grid gb G gT :: Own eT B3C A k xs :: E l :: H)) : V P N w0 c Q σ (CompK T eT gT cb gb v f E m xs l :: H) := by
  intro w hw
  obtain ⟨q, hw⟩ := hw.exi
  have h1 := hw.sep.pur
  exact h _ _ _ h1.1 w (by
    have h2 := h1.2.sep
    have h3 := (h2.perm (List.Perm.swap _ _ _)).sep
    have h4 := (h3.sub (Sub.keep 1 rfl (Sub.keep 0 rfl (Sub.refl _)))).perm (List.Perm.refl _)
    have h5 := (h3.perm (List.Perm.swap _ _ _)).sep
    exact (h5.sub (Sub.keep 3 rfl (Sub.keep 2 rfl (Sub.keep 0 rfl (Sub.keep 0 rfl (Sub.refl _)))))))
theorem X.compK {e : Exit} (h : ∀ A k G, Rel v G m → X N w0 Q e σ (Blk cb [.int .i64 (v : Int), .pointer (some ⟨gb, 0, none⟩), .slice A xs.length k, f] T :: Grid gb G gT :: Own eT B3C A k xs :: E l :: H)) : X N w0 Q e σ (CompK T eT gT cb gb v f E m xs l :: H) := by
  intro w hw
  obtain ⟨q, hw⟩ := hw.exi
  have h1 := hw.sep.pur
  exact h _ _ _ h1.1 w (by
    have h2 := h1.2.sep
    have h3 := (h2.perm (List.Perm.swap _ _ _)).sep
    have h5 := (h3.perm (List.Perm.swap _ _ _)).sep
    exact (h5.sub (Sub.keep 3 rfl (Sub.keep 2 rfl (Sub.keep 0 rfl (Sub.keep 0 rfl (Sub.refl _)))))))
theorem CompK.mk {A : Option Addr} {k : Nat} {G : Int → Int → Int} (hr : Rel v G m) {w : World} (hw : St w0 (Blk cb [.int .i64 (v : Int), .pointer (some ⟨gb, 0, none⟩), .slice A xs.length k, f] T :: Grid gb G gT :: Own eT B3C A k xs :: E l :: H) w) : St w0 (CompK T eT gT cb gb v f E m xs l :: H) w := by
  refine St.mkExi ((A, k), G) (St.unsep (St.addPur hr ?_))
  have h1 : St w0 (Own eT B3C A k xs :: E l :: Grid gb G gT :: Blk cb [.int .i64 (v : Int), .pointer (some ⟨gb, 0, none⟩), .slice A xs.length k, f] T :: H) w := hw.sub (Sub.keep 2 rfl (Sub.keep 2 rfl (Sub.keep 1 rfl (Sub.keep 0 rfl (Sub.refl _)))))
  have h2 := (St.unsep h1).perm (List.Perm.swap _ _ _)
  have h3 := (St.unsep h2).perm (List.Perm.swap _ _ _)
  exact St.unsep h3
theorem CompK.mk' {A : Option Addr} {k n : Nat} {b : B3} {G : Int → Int → Int} (hr : Rel v G m) (hn : n = xs.length) {w : World} (hw : St w0 (Blk cb [.int .i64 (v : Int), .pointer (some ⟨gb, 0, none⟩), .slice A n k, f] T :: Grid gb G gT :: Own eT B3C A k (xs ++ [b]) :: E l :: H) w) : St w0 (CompK T eT gT cb gb v f E m xs l :: H) w := by
  subst hn
  refine CompK.mk hr (hw.sub (Sub.keep 0 rfl (Sub.keep 0 rfl (Sub.cons 0 rfl (fun w F h => ?_) (Sub.refl _)))))
  have := Own.takeP xs.length w F h
  rwa [List.take_left'] at this
  rfl
/-- What a search calls with each completion. -/
def CallB (P : Program) (w0 : World) (eT : TypeId) (gf : Nat) (caps : Array Value) (E : List (List B3) → Assn) (cont : Nat → Bool) (okL : List B3 → Prop) (M : Nat) : Prop :=
  ∀ (l : List (List B3)) (xs : List B3) (A : Option Addr) (k : Nat) (H : List Assn), l.length < M → okL xs → Does P gf ([.slice A xs.length k] ++ caps.toList) w0 (Own eT B3C A k xs :: E l :: H) (fun r => [.sep (.pur (r = .bool (cont (l.length + 1)))) (.sep (Own eT B3C A k xs) (E (l ++ [xs])))] ++ H)
end
section
variable {v m a b c n p k M : Nat} {cont : Nat → Bool} {xs : List B3} {l : List (List B3)} {okL : List B3 → Prop}
theorem comp_some' (h : nextM v m = some (a, b)) (hn : 0 < n) : compM n v m = compJ (n - 1) v m a b v := by
  obtain ⟨k, rfl⟩ : ∃ k, n = k + 1 := ⟨n - 1, by omega⟩
  exact compM_some h
theorem left_pos (h : IsNext v m a b) (hn : leftN v m ≤ n) : 0 < n := by
  apply Decidable.byContradiction
  intro h0
  have h1 := leftN_zero (v := v) (m := m) (by omega) a b h.ab h.bv
  rw [h.left] at h1
  cases h1
theorem compM_len : ∀ n v m (q : List B3), q ∈ compM n v m → q.length ≤ n := by
  intro n
  induction n with
  | zero =>
    intro v m q hq
    unfold compM at hq
    split at hq
    · simp at hq; subst hq; simp
    · simp at hq
  | succ n ih =>
    intro v m q hq
    unfold compM at hq
    split at hq
    · simp at hq; subst hq; simp
    · obtain ⟨c, hc, h1⟩ := List.mem_flatMap.1 hq
      split at h1
      · obtain ⟨r, hr, rfl⟩ := List.mem_map.1 h1
        have := ih _ _ _ hr
        simp only [List.length_cons]
        omega
      · simp at h1
theorem leaf_nil_len {q : List B3} (h : q ∈ leaf [] (compM n v m)) : q.length ≤ n := by
  have : q ∈ compM n v m := by simpa [leaf] using h
  exact compM_len n v m q this
theorem fitsAt_nil : fitsAt ([] : List B3) ([] : List B3).length := fitsAt_zero []
theorem leaf_none (h : nextM v m = none) : leaf xs (compM n v m) = [xs] := by rw [compM_none h]; simp [leaf]
theorem runC_one {α : Type} {x : α} : runC cont k [x] = [x] := by unfold runC; split <;> rfl
theorem goesC_one {α : Type} {x : α} : goesC cont k [x] = cont (k + 1) := by simp [goesC]
theorem runC_pre {α : Type} {l r : List α} : (runC cont k l).length ≤ (runC cont k (l ++ r)).length := by
  cases h : goesC cont k l with
  | true => rw [runC_append h, runC_all h, List.length_append]; omega
  | false => rw [runC_stop h]; omega
theorem leaf_step (hm : may m a b p = true) : leaf xs (compJ n v m a b (p + 1)) = leaf xs (compJ n v m a b p) ++ leaf (xs ++ [b3N a b p]) (compM n v (putM m a b p)) := by
  rw [compJ_yes hm, leaf_append, leaf_cons]
theorem leaf_pre {i : Nat} (h : i ≤ c) : ∃ r, leaf xs (compJ n v m a b c) = leaf xs (compJ n v m a b i) ++ r := by
  obtain ⟨r, hr⟩ := compJ_prefix (n := n) (v := v) (m := m) (a := a) (b := b) h
  exact ⟨leaf xs r, by rw [← leaf_append, hr]⟩
theorem step_M (hgo : goesC cont k (leaf xs (compJ n v m a b p)) = true) (hm : may m a b p = true) (hp : p < v) (hM : k + (runC cont k (leaf xs (compJ n v m a b v))).length ≤ M) :
    (l ++ leaf xs (compJ n v m a b p)).length + (runC cont (k + (leaf xs (compJ n v m a b p)).length) (leaf (xs ++ [b3N a b p]) (compM n v (putM m a b p)))).length ≤ M + l.length - k ∨ l.length < k := by
  by_cases hk : l.length < k
  · exact .inr hk
  · refine .inl ?_
    obtain ⟨r, hr⟩ := leaf_pre (xs := xs) (n := n) (v := v) (m := m) (a := a) (b := b) (i := p + 1) (c := v) (by omega)
    have h1 := runC_pre (cont := cont) (k := k) (l := leaf xs (compJ n v m a b (p + 1))) (r := r)
    rw [← hr] at h1
    rw [leaf_step hm, runC_append hgo, List.length_append] at h1
    rw [List.length_append]
    omega
theorem step_M2 {l2 : List (List B3)} (hgo : goesC cont l.length (leaf xs (compJ n v m a b p)) = true) (hm : may m a b p = true) (hp : p < v) (hM : l.length + (runC cont l.length (leaf xs (compJ n v m a b v))).length ≤ M) (hl : l2 = l ++ leaf xs (compJ n v m a b p)) :
    l2.length + (runC cont l2.length (leaf (xs ++ [b3N a b p]) (compM n v (putM m a b p)))).length ≤ M := by
  have h := step_M (l := l) (M := M) hgo hm hp hM
  rw [hl, List.length_append] at *
  rcases h with h | h <;> omega
theorem step_go (hgo : goesC cont k (leaf xs (compJ n v m a b p)) = true) (hm : may m a b p = true) (h : goesC cont (k + (leaf xs (compJ n v m a b p)).length) (leaf (xs ++ [b3N a b p]) (compM n v (putM m a b p))) = true) :
    goesC cont k (leaf xs (compJ n v m a b (p + 1))) = true := by
  rw [leaf_step hm, goesC_append, hgo, h]; rfl
theorem step_stop (hgo : goesC cont k (leaf xs (compJ n v m a b p)) = true) (hm : may m a b p = true) (hp : p < v) (h : ¬ goesC cont (k + (leaf xs (compJ n v m a b p)).length) (leaf (xs ++ [b3N a b p]) (compM n v (putM m a b p))) = true) :
    goesC cont k (leaf xs (compJ n v m a b v)) = false ∧ runC cont k (leaf xs (compJ n v m a b v)) = leaf xs (compJ n v m a b p) ++ runC cont (k + (leaf xs (compJ n v m a b p)).length) (leaf (xs ++ [b3N a b p]) (compM n v (putM m a b p))) := by
  obtain ⟨r, hr⟩ := leaf_pre (xs := xs) (n := n) (v := v) (m := m) (a := a) (b := b) (i := p + 1) (c := v) (by omega)
  have h1 : goesC cont k (leaf xs (compJ n v m a b (p + 1))) = false := by
    rw [leaf_step hm, goesC_append, hgo, Bool.true_and]
    cases hh : goesC cont (k + (leaf xs (compJ n v m a b p)).length) (leaf (xs ++ [b3N a b p]) (compM n v (putM m a b p))) with
    | true => exact absurd hh h
    | false => rfl
  rw [hr]
  refine ⟨goesC_stop h1, ?_⟩
  rw [runC_stop h1, leaf_step hm, runC_append hgo]
theorem step_ok (hm : may m a b p = true) (hp : p < v) (h : ∀ q ∈ leaf xs (compJ n v m a b v), okL q) : ∀ q ∈ leaf (xs ++ [b3N a b p]) (compM n v (putM m a b p)), okL q := by
  intro q hq
  obtain ⟨r, hr⟩ := leaf_pre (xs := xs) (n := n) (v := v) (m := m) (a := a) (b := b) (i := p + 1) (c := v) (by omega)
  refine h q ?_
  rw [hr, leaf_step hm]
  simp [hq]
end
end Go.Vc
/-
  The calculus, part 15: arrays and structs that are built.
-/
namespace Go.Vc
open Go Go.RowKit
section
variable {P : Program} {N : Nat} {w0 : World} {Q : Exit → Act → World → Prop} {σ σ' : Sig} {H H' : List Assn} {ops : Array Oper} {o : Oper}
theorem parts_eval {a : Act} {parts : Array (Nat × Operand)} {vs : List Value} (h2 : (parts.toList.map (·.2)).map a.eval = vs) : (parts.map fun (i, x) => (i, a.eval x)).toList = (parts.toList.map (·.1)).zip vs := by
  rw [← h2, Array.toList_map]
  generalize parts.toList = l
  induction l with
  | nil => rfl
  | cons p l ih => simp [ih]
theorem Pu.buildA {T e n sz : Nat} {parts : Array (Nat × Operand)} {vs cs : List Value} {z v : Value} (hv : v = .agg cs.toArray) (ho : o.op = .build T parts) (hT : P.underlying T = some (.array n e)) (hz : Zr P T z) (hs : Sz P e sz)
    (hx : evs σ (parts.toList.map (·.2)) = some vs) (hf : Instr.fill (fun i => some (i * sz, sz)) z.cells ((parts.toList.map (·.1)).zip vs) = some cs.toArray) : Pu P w0 o σ H v := by
  subst hv
  intro w hw a ha
  have h2 := evs_map (a := a) (fun x hx v hv => ha x (by simpa [ho, Op.operands] using hx) v hv) hx
  have hp := parts_eval h2
  simp only [execOp, ho, Instr.build, Sem.run_bind, run_zr hz, Result.andThen_ok, run_underlying hT, run_sz hs, hp, hf, Sem.run_pure]
def szOf (P : Program) (t : Nat) : Nat := ((P.info? t).map (·.size)).getD 0
def placesOf (P : Program) (fs : List Field) : List (Nat × Nat) := fs.map fun f => (f.offset, szOf P f.type)
def knownB (P : Program) (fs : List Field) : Bool := fs.all fun f => (P.info? f.type).isSome
theorem run_mapM {α β : Type} {f : α → Sem β} {g : α → β} {w : World} (l : Array α) (h : ∀ x, x ∈ l → (f x).run P w = .ok (g x) w) : (l.mapM f).run P w = .ok (l.toList.map g).toArray w := by
  obtain ⟨l⟩ := l
  rw [List.mapM_toArray, map_eq_pure_bind]
  have key : ∀ l : List α, (∀ x, x ∈ l → (f x).run P w = .ok (g x) w) → (l.mapM f).run P w = .ok (l.map g) w := by
    intro l
    induction l with
    | nil => intro _; rfl
    | cons x l ih =>
      intro h
      rw [List.mapM_cons]
      simp only [Sem.run_bind, h x (by simp), Result.andThen_ok, ih (fun y hy => h y (by simp [hy])), Sem.run_pure, List.map_cons]
  simp only [Sem.run_bind, key l (fun x hx => h x (by simpa using hx)), Result.andThen_ok, Sem.run_pure]
theorem Pu.buildS {T : Nat} {fields : Array Field} {parts : Array (Nat × Operand)} {vs cs : List Value} {z v : Value} (hv : v = .agg cs.toArray) (ho : o.op = .build T parts) (hT : P.underlying T = some (.struct fields)) (hz : Zr P T z) (hk : knownB P fields.toList = true)
    (hx : evs σ (parts.toList.map (·.2)) = some vs) (hf : Instr.fill (fun i => (placesOf P fields.toList).toArray[i]?) z.cells ((parts.toList.map (·.1)).zip vs) = some cs.toArray) : Pu P w0 o σ H v := by
  subst hv
  intro w hw a ha
  have h2 := evs_map (a := a) (fun x hx v hv => ha x (by simpa [ho, Op.operands] using hx) v hv) hx
  have hp := parts_eval h2
  have hm := run_mapM (P := P) (w := w) (f := fun f : Field => (do pure (f.offset, ← sizeOf f.type) : Sem (Nat × Nat))) (g := fun f => (f.offset, szOf P f.type)) fields (fun x hx => by
    have h3 := List.all_eq_true.1 hk x (by simpa using hx)
    obtain ⟨i, hi⟩ := Option.isSome_iff_exists.1 h3
    have hs : Sz P x.type (szOf P x.type) := by unfold Sz szOf; rw [hi]; rfl
    simp only [Sem.run_bind, run_sz hs, Result.andThen_ok, Sem.run_pure])
  have hm' : (fields.mapM fun f => (do pure (f.offset, ← sizeOf f.type) : Sem (Nat × Nat))).run P w = .ok (placesOf P fields.toList).toArray w := hm
  simp only [execOp, ho, Instr.build, Sem.run_bind, run_zr hz, Result.andThen_ok, run_underlying hT, hm', hp, hf, Sem.run_pure]
end
end Go.Vc
/-
  The calculus, part 16: lists of systems with one number of points.
-/
namespace Go.Vc
open Go Go.RowKit
/-- A system with v points: the number and the slice of its blocks. -/
def SyC (v : Int) : Cod Sl := ⟨2, fun s => [.int .i64 v, s.v], by decide, fun _ => rfl, fun _ u hu => by simp at hu; rcases hu with rfl | rfl <;> rfl⟩
section
variable {P : Program} {N : Nat} {w0 w : World} {Q : Exit → Act → World → Prop} {σ : Sig} {H H' : List Assn} {ops : Array Oper} {rest : List Oper} {T : TypeId} {v : Int}
theorem Ld.rowY {A : Option Addr} {ps : List (Sl × List B3)} (hr : ∀ w, St w0 H w → Rd (SyC v) w A (tops ps)) (hn : LenOk ps) {k s : Nat} (hk : k < ps.length) (hs : s = 2) :
    ∀ w, St w0 H w → ∃ q, A.map (·.add (k * s)) = some q ∧ ∀ m u, ([.int .i64 v, .slice (ps[k]).1.A (ps[k]).2.length (ps[k]).1.c] : List Value)[m]? = some u → w.cell? (q.add m) = some u := by
  have hk' : k < (tops ps).length := by rw [tops_len]; exact hk
  intro w hw
  obtain ⟨q, h1, h2⟩ := Ld.rds (C := SyC v) hr hk' (s := s) hs w hw
  refine ⟨q, h1, fun m u hm => h2 m u ?_⟩
  have e : (tops ps)[k] = (ps[k]).1 := List.getElem_map ..
  rw [e]
  have h3 := (hn _ (List.getElem_mem hk)).1
  simp only [SyC, Sl.v, h3]
  exact hm
/-- A list of systems that is read. -/
structure RdY (v : Int) (w : World) (A : Option Addr) (ps : List (Sl × List B3)) : Prop where
  top : Rd (SyC v) w A (tops ps)
  len : LenOk ps
  row : ∀ k (hk : k < ps.length), Rd B3C w (ps[k]).1.A (ps[k]).2
theorem Ld.yy {T2 c : Nat} {A : Option Addr} {ps : List (Sl × List B3)} {H2 : List Assn} (i j : Nat) (hp : pull i H = some (Own T2 (SyC v) A c (tops ps), H')) (hq : pull j H = some (RowsA T B3C ps, H2)) : ∀ w, St w0 H w → RdY v w A ps :=
  fun w hw => ⟨Own.rd hw hp, RowsA.len j hq w hw, fun k hk => Ld.rows j hq hk w hw⟩
theorem RdY.st {A : Option Addr} {ps : List (Sl × List B3)} (h : RdY v w0 A ps) (hw : St w0 H w) : RdY v w A ps := ⟨h.top.st hw, h.len, fun k hk => (h.row k hk).st hw⟩
theorem RdY.below {A : Option Addr} {ps : List (Sl × List B3)} (h : RdY v w0 A ps) (hb : Bel w0.heap.size w0 w) : RdY v w A ps := ⟨h.top.below hb, h.len, fun k hk => (h.row k hk).below hb⟩
/-- A box with a list of systems, and a box with their number of points: what has come so far, l. -/
def SysE (sT bT lT iT : TypeId) (v : Int) (b0 b1 : Nat) (l : List (List B3)) : Assn :=
  .exi fun q : (Option Addr × Nat) × List (Sl × List B3) => .sep (.pur (conts q.2 = l)) (.sep (Blk b0 [.slice q.1.1 (tops q.2).length q.1.2] lT) (.sep (Blk b1 [.int .i64 v] iT) (.sep (Own sT (SyC v) q.1.1 q.1.2 (tops q.2)) (RowsA bT B3C q.2))))
variable {sT bT lT iT : TypeId} {b0 b1 : Nat} {l : List (List B3)}
theorem SysE.elim (hw : St w0 (SysE sT bT lT iT v b0 b1 l :: H) w) : ∃ A k ps, conts ps = l ∧ St w0 (Blk b0 [.slice A (tops ps).length k] lT :: Blk b1 [.int .i64 v] iT :: Own sT (SyC v) A k (tops ps) :: RowsA bT B3C ps :: H) w := by
  obtain ⟨q, hw⟩ := hw.exi
  have h1 := hw.sep.pur
  refine ⟨q.1.1, q.1.2, q.2, h1.1, ?_⟩
  have h2 := h1.2.sep
  have h3 := (h2.perm (List.Perm.swap _ _ _)).sep
  have h5 := (h3.perm (List.Perm.swap _ _ _)).sep
  exact (h5.sub (Sub.keep 3 rfl (Sub.keep 2 rfl (Sub.keep 0 rfl (Sub.keep 0 rfl (Sub.refl _))))))
theorem V.sysE {c : Code} (h : ∀ A k ps, conts ps = l → V P N w0 c Q σ (Blk b0 [.slice A (tops ps).length k] lT :: Blk b1 [.int .i64 v] iT :: Own sT (SyC v) A k (tops ps) :: RowsA bT B3C ps :: H)) : V P N w0 c Q σ (SysE sT bT lT iT v b0 b1 l :: H) := by
  intro w hw
  obtain ⟨A, k, ps, h1, h2⟩ := SysE.elim hw
  exact h A k ps h1 w h2
theorem O.sysE (h : ∀ A k ps, conts ps = l → O P N w0 ops Q rest σ (Blk b0 [.slice A (tops ps).length k] lT :: Blk b1 [.int .i64 v] iT :: Own sT (SyC v) A k (tops ps) :: RowsA bT B3C ps :: H)) : O P N w0 ops Q rest σ (SysE sT bT lT iT v b0 b1 l :: H) := by
  intro w hw
  obtain ⟨A, k, ps, h1, h2⟩ := SysE.elim hw
  exact h A k ps h1 w h2
theorem SysE.mk {A : Option Addr} {k : Nat} {ps : List (Sl × List B3)} (hl : conts ps = l) (hw : St w0 (Blk b0 [.slice A (tops ps).length k] lT :: Blk b1 [.int .i64 v] iT :: Own sT (SyC v) A k (tops ps) :: RowsA bT B3C ps :: H) w) : St w0 (SysE sT bT lT iT v b0 b1 l :: H) w := by
  refine St.mkExi ((A, k), ps) (St.unsep (St.addPur hl ?_))
  have h1 : St w0 (Own sT (SyC v) A k (tops ps) :: RowsA bT B3C ps :: Blk b1 [.int .i64 v] iT :: Blk b0 [.slice A (tops ps).length k] lT :: H) w := hw.sub (Sub.keep 2 rfl (Sub.keep 2 rfl (Sub.keep 1 rfl (Sub.keep 0 rfl (Sub.refl _)))))
  have h2 := (St.unsep h1).perm (List.Perm.swap _ _ _)
  have h3 := (St.unsep h2).perm (List.Perm.swap _ _ _)
  exact St.unsep h3
end
end Go.Vc
/-
  Plain words: completions are in order, and none lacks.
-/
namespace Go.Vc
theorem lt_trans3 {a b c : B3} (h1 : B3.lt a b) (h2 : B3.lt b c) : B3.lt a c := by unfold B3.lt at *; omega
theorem lt_asymm3 {a b : B3} (h1 : B3.lt a b) (h2 : B3.lt b a) : False := lt_irrefl a (lt_trans3 h1 h2)
section
variable {v m a b c n : Nat}
theorem next_cases (v m : Nat) : (∀ x y, x < y → y < v → usd m x y = true) ∨ ∃ a b, IsNext v m a b := by
  have key : ∀ k, k ≤ v → (∀ x y, x < k → x < y → y < v → usd m x y = true) ∨ ∃ a b, IsNext v m a b := by
    intro k
    induction k with
    | zero => intro _; exact .inl (fun x y h => by omega)
    | succ k ih =>
      intro hk
      rcases ih (by omega) with h | h
      · have key2 : ∀ j, j ≤ v → (∀ y, k < y → y < j → usd m k y = true) ∨ ∃ a b, IsNext v m a b := by
          intro j
          induction j with
          | zero => intro _; exact .inl (fun y _ h => by omega)
          | succ j ihj =>
            intro hj
            rcases ihj (by omega) with h1 | h1
            · by_cases hkj : k < j
              · cases hu : usd m k j with
                | true => exact .inl (fun y h2 h3 => by by_cases e : y = j; (· subst e; exact hu); (· exact h1 y h2 (by omega)))
                | false => exact .inr ⟨k, j, hkj, by omega, hu, h1, fun x y h2 h3 h4 => h x y h2 h3 h4⟩
              · exact .inl (fun y h2 h3 => by omega)
            · exact .inr h1
        rcases key2 v (Nat.le_refl _) with h1 | h1
        · exact .inl (fun x y h2 h3 h4 => by by_cases e : x = k; (· subst e; exact h1 y h3 h4); (· exact h x y (by omega) h3 h4))
        · exact .inr h1
      · exact .inr h
  rcases key v (Nat.le_refl _) with h | h
  · exact .inl (fun x y h1 h2 => h x y (by omega) h1 h2)
  · exact .inr h
theorem next_spec (h : nextM v m = some (a, b)) : IsNext v m a b := by
  rcases next_cases v m with h1 | ⟨x, y, h1⟩
  · rw [nextM_none h1] at h; cases h
  · rw [nextM_some h1] at h
    obtain ⟨rfl, rfl⟩ := Prod.mk.inj (Option.some.inj h)
    exact h1
theorem next_none (h : nextM v m = none) : ∀ x y, x < y → y < v → usd m x y = true := by
  rcases next_cases v m with h1 | ⟨x, y, h1⟩
  · exact h1
  · rw [nextM_some h1] at h; cases h
theorem may_spec (h : may m a b c = true) : b < c ∧ usd m a c = false ∧ usd m b c = false := by
  unfold may at h
  simp only [Bool.and_eq_true, Nat.blt_eq, Bool.not_eq_true'] at h
  exact ⟨h.1.1, h.1.2, h.2⟩
/-- A member is either the empty one, or begins with a block. -/
theorem mem_comp {q : List B3} (h : q ∈ compM n v m) : (q = [] ∧ nextM v m = none) ∨ ∃ k a b c r, n = k + 1 ∧ nextM v m = some (a, b) ∧ c < v ∧ may m a b c = true ∧ r ∈ compM k v (putM m a b c) ∧ q = b3N a b c :: r := by
  cases n with
  | zero =>
    unfold compM at h
    split at h
    · rename_i e; simp at h; exact .inl ⟨h, e⟩
    · simp at h
  | succ n =>
    unfold compM at h
    split at h
    · rename_i e; simp at h; exact .inl ⟨h, e⟩
    · rename_i a b e
      obtain ⟨c, hc, h1⟩ := List.mem_flatMap.1 h
      split at h1
      · rename_i hm
        obtain ⟨r, hr, rfl⟩ := List.mem_map.1 h1
        exact .inr ⟨n, a, b, c, r, rfl, e, List.mem_range.1 hc, hm, hr, rfl⟩
      · simp at h1
/-- A block whose first pair is left. -/
def Free (v m : Nat) (d : B3) : Prop := ∃ x y z : Nat, d = b3N x y z ∧ x < y ∧ y < z ∧ z < v ∧ usd m x y = false
theorem comp_free : ∀ n v m (q : List B3), v ≤ 15 → q ∈ compM n v m → ∀ d ∈ q, Free v m d := by
  intro n
  induction n with
  | zero =>
    intro v m q hv hq d hd
    rcases mem_comp hq with ⟨rfl, _⟩ | ⟨k, a, b, c, r, hk, _⟩
    · simp at hd
    · omega
  | succ n ih =>
    intro v m q hv hq d hd
    rcases mem_comp hq with ⟨rfl, _⟩ | ⟨k, a, b, c, r, hk, hn, hc, hm, hr, rfl⟩
    · simp at hd
    · obtain rfl : n = k := by omega
      have hI := next_spec hn
      obtain ⟨h1, h2, h3⟩ := may_spec hm
      rcases List.mem_cons.1 hd with rfl | hd
      · exact ⟨a, b, c, rfl, hI.ab, h1, hc, hI.left⟩
      · obtain ⟨x, y, z, e, hx, hy, hz, hu⟩ := ih _ _ _ hv hr d hd
        refine ⟨x, y, z, e, hx, hy, hz, ?_⟩
        cases hh : usd m x y with
        | false => rfl
        | true =>
          have := (usd_put (m := m) (a := a) (b := b) (c := c) (by have := hI.ab; have := hI.bv; omega) (by have := hI.bv; omega) (by omega) (x := x) (y := y) (by omega) (by omega)).2 (.inl hh)
          rw [this] at hu
          cases hu
theorem b3N_lt {x y z a b c : Nat} (h : a < x ∨ (a = x ∧ b < y)) : B3.lt (b3N a b c) (b3N x y z) := by unfold B3.lt b3N; simp only; omega
theorem comp_sorted : ∀ n v m (q : List B3), v ≤ 15 → q ∈ compM n v m → q.Pairwise B3.lt := by
  intro n
  induction n with
  | zero =>
    intro v m q hv hq
    rcases mem_comp hq with ⟨rfl, _⟩ | ⟨k, a, b, c, r, hk, _⟩
    · exact List.Pairwise.nil
    · omega
  | succ n ih =>
    intro v m q hv hq
    rcases mem_comp hq with ⟨rfl, _⟩ | ⟨k, a, b, c, r, hk, hn, hc, hm, hr, rfl⟩
    · exact List.Pairwise.nil
    · obtain rfl : n = k := by omega
      have hI := next_spec hn
      obtain ⟨h1, h2, h3⟩ := may_spec hm
      have hab := hI.ab
      have hbv := hI.bv
      refine List.pairwise_cons.2 ⟨fun d hd => ?_, ih _ _ _ hv hr⟩
      obtain ⟨x, y, z, rfl, hx, hy, hz, hu⟩ := comp_free _ _ _ _ hv hr d hd
      have hup := usd_put (m := m) (a := a) (b := b) (c := c) (by omega) (by omega) (by omega) (x := x) (y := y) (by omega) (by omega)
      refine b3N_lt ?_
      apply Decidable.byContradiction
      intro hc'
      have : usd (putM m a b c) x y = true := by
        rw [hup]
        by_cases e : x = a ∧ y = b
        · exact .inr (.inl (.inl e))
        · refine .inl ?_
          by_cases e1 : x < a
          · exact hI.rows x y e1 hx (by omega)
          · obtain rfl : x = a := by omega
            exact hI.row y hx (by omega)
      rw [this] at hu
      cases hu
/-- One list of blocks comes ahead of another one: at the first place where they differ. -/
def befB : List B3 → List B3 → Prop
  | x :: a, y :: b => if x = y then befB a b else B3.lt x y
  | _, _ => False
noncomputable instance (a b : List B3) : Decidable (befB a b) := Classical.propDecidable _
theorem befB_asymm : ∀ {a b : List B3}, befB a b → befB b a → False := by
  intro a
  induction a with
  | nil => intro b h; cases b <;> simp [befB] at h
  | cons x a ih =>
    intro b h1 h2
    cases b with
    | nil => simp [befB] at h1
    | cons y b =>
      unfold befB at h1 h2
      by_cases e : x = y
      · rw [if_pos e] at h1; rw [if_pos e.symm] at h2; exact ih h1 h2
      · rw [if_neg e] at h1; rw [if_neg (fun h => e h.symm)] at h2; exact lt_asymm3 h1 h2
theorem comp_ascending : ∀ n v m, v ≤ 15 → (compM n v m).Pairwise befB := by
  intro n
  induction n with
  | zero => intro v m hv; unfold compM; split <;> simp
  | succ n ih =>
    intro v m hv
    unfold compM
    split
    · simp
    · rename_i a b e
      rw [List.pairwise_flatMap]
      refine ⟨fun c hc => ?_, ?_⟩
      · split
        · rw [List.pairwise_map]
          exact (ih v _ hv).imp (fun h => by unfold befB; rw [if_pos rfl]; exact h)
        · simp
      · refine List.Pairwise.imp ?_ (List.pairwise_lt_range (n := v))
        intro c d hcd q hq r hr
        split at hq
        · split at hr
          · obtain ⟨q', _, rfl⟩ := List.mem_map.1 hq
            obtain ⟨r', _, rfl⟩ := List.mem_map.1 hr
            unfold befB
            rw [if_neg (by unfold b3N; intro h; simp at h; omega)]
            exact .inr ⟨rfl, .inr ⟨rfl, by show (c : Int) < d; omega⟩⟩
          · simp at hr
        · simp at hq
/-! ### How many blocks -/
theorem usd_put_self (ha : a < b) (hb : b < c) (hc : c < 16) : usd (putM m a b c) a b = true ∧ usd (putM m a b c) a c = true ∧ usd (putM m a b c) b c = true := by
  refine ⟨?_, ?_, ?_⟩ <;> rw [usd_put (by omega) (by omega) (by omega) (by omega) (by omega)]
  · exact .inr (.inl (.inl ⟨rfl, rfl⟩))
  · exact .inr (.inr (.inl (.inl ⟨rfl, rfl⟩)))
  · exact .inr (.inr (.inr (.inl ⟨rfl, rfl⟩)))
theorem filter_but {α : Type} [DecidableEq α] {l : List α} (hd : l.Nodup) {p : α → Bool} {x : α} (hx : x ∈ l) (hp : p x = true) : (l.filter fun y => p y && !decide (y = x)).length + 1 = (l.filter p).length := by
  induction l with
  | nil => simp at hx
  | cons y l ih =>
    obtain ⟨h1, h2⟩ := List.nodup_cons.1 hd
    by_cases e : y = x
    · subst e
      have h3 : (l.filter fun z => p z && !decide (z = y)) = l.filter p := by
        refine List.filter_congr fun z hz => ?_
        have : z ≠ y := fun e => h1 (e ▸ hz)
        simp [this]
      simp [List.filter_cons, hp, h3]
    · have hx' : x ∈ l := by
        rcases List.mem_cons.1 hx with h | h
        · exact absurd h.symm e
        · exact h
      have := ih h2 hx'
      simp only [List.filter_cons, e, decide_false, Bool.not_false, Bool.and_true]
      split
      · simp only [List.length_cons]; omega
      · exact this
theorem prs_nodup (v : Nat) : (prs v).Nodup := by
  unfold prs
  rw [List.nodup_iff_pairwise_ne, List.pairwise_flatMap]
  refine ⟨fun a _ => ?_, ?_⟩
  · rw [List.pairwise_map]
    exact (List.pairwise_lt_range (n := v)).imp (fun h e => by cases e; omega)
  · refine List.Pairwise.imp ?_ (List.pairwise_lt_range (n := v))
    intro x y hxy p hp q hq
    obtain ⟨i, _, rfl⟩ := List.mem_map.1 hp
    obtain ⟨j, _, rfl⟩ := List.mem_map.1 hq
    intro e
    cases e
    omega
theorem leftN_put3 (ha : a < b) (hb : b < c) (hc : c < v) (hv : v ≤ 15) (h1 : usd m a b = false) (h2 : usd m a c = false) (h3 : usd m b c = false) : leftN v (putM m a b c) + 3 = leftN v m := by
  have e1 := filter_but (prs_nodup v) (p := fun p => Nat.blt p.1 p.2 && !usd m p.1 p.2) (x := (a, b)) (mem_prs.2 ⟨by simp; omega, by simp; omega⟩) (by simp [ha, h1])
  have e2 := filter_but (prs_nodup v) (p := fun y => (Nat.blt y.1 y.2 && !usd m y.1 y.2) && !decide (y = (a, b))) (x := (a, c)) (mem_prs.2 ⟨by simp; omega, by simp; omega⟩) (by
    have : Nat.blt a c = true := by rw [Nat.blt_eq]; omega
    simp [h2, this]; omega)
  have e3 := filter_but (prs_nodup v) (p := fun y => ((Nat.blt y.1 y.2 && !usd m y.1 y.2) && !decide (y = (a, b))) && !decide (y = (a, c))) (x := (b, c)) (mem_prs.2 ⟨by simp; omega, by simp; omega⟩) (by
    simp [h3, hb]; omega)
  have e4 : leftN v (putM m a b c) = ((prs v).filter fun y => (((Nat.blt y.1 y.2 && !usd m y.1 y.2) && !decide (y = (a, b))) && !decide (y = (a, c))) && !decide (y = (b, c))).length := by
    unfold leftN
    congr 1
    refine List.filter_congr fun p hp => ?_
    obtain ⟨x, y⟩ := p
    obtain ⟨hx, hy⟩ := mem_prs.1 hp
    simp only at hx hy
    by_cases hxy : x < y
    · have hxb : Nat.blt x y = true := by rw [Nat.blt_eq]; exact hxy
      have hup := usd_put (m := m) (a := a) (b := b) (c := c) (by omega) (by omega) (by omega) (x := x) (y := y) (by omega) (by omega)
      simp only [hxb, Bool.true_and, Prod.mk.injEq]
      cases hm : usd m x y with
      | true =>
        have : usd (putM m a b c) x y = true := hup.2 (.inl hm)
        simp [this]
      | false =>
        by_cases h : (x = a ∧ y = b) ∨ (x = a ∧ y = c) ∨ (x = b ∧ y = c)
        · have : usd (putM m a b c) x y = true := hup.2 (.inr (by omega))
          rw [this]
          rcases h with h | h | h <;> simp [h]
        · have : usd (putM m a b c) x y = false := by
            cases hh : usd (putM m a b c) x y with
            | false => rfl
            | true =>
              have h5 := hup.1 hh
              rw [hm] at h5
              rcases h5 with h5 | h5
              · cases h5
              · omega
          rw [this]
          have q1 : ¬ (x = a ∧ y = b) := fun e => h (.inl e)
          have q2 : ¬ (x = a ∧ y = c) := fun e => h (.inr (.inl e))
          have q3 : ¬ (x = b ∧ y = c) := fun e => h (.inr (.inr e))
          simp [q1, q2, q3]
    · have hxb : Nat.blt x y = false := blt_no hxy
      simp [hxb]
  unfold leftN at *
  omega
theorem comp_count : ∀ n v m (q : List B3), v ≤ 15 → q ∈ compM n v m → 3 * q.length = leftN v m := by
  intro n
  induction n with
  | zero =>
    intro v m q hv hq
    rcases mem_comp hq with ⟨rfl, hn⟩ | ⟨k, a, b, c, r, hk, _⟩
    · have h := next_none hn
      have : leftN v m = 0 := by
        unfold leftN
        rw [List.length_eq_zero_iff, List.filter_eq_nil_iff]
        rintro ⟨x, y⟩ hp
        obtain ⟨hx, hy⟩ := mem_prs.1 hp
        simp only [Bool.and_eq_true, Nat.blt_eq, Bool.not_eq_true', not_and, Bool.not_eq_false]
        exact fun hxy => h x y hxy hy
      rw [this]; rfl
    · omega
  | succ n ih =>
    intro v m q hv hq
    rcases mem_comp hq with ⟨rfl, hn⟩ | ⟨k, a, b, c, r, hk, hn, hc, hm, hr, rfl⟩
    · have h := next_none hn
      have : leftN v m = 0 := by
        unfold leftN
        rw [List.length_eq_zero_iff, List.filter_eq_nil_iff]
        rintro ⟨x, y⟩ hp
        obtain ⟨hx, hy⟩ := mem_prs.1 hp
        simp only [Bool.and_eq_true, Nat.blt_eq, Bool.not_eq_true', not_and, Bool.not_eq_false]
        exact fun hxy => h x y hxy hy
      rw [this]; rfl
    · obtain rfl : n = k := by omega
      have hI := next_spec hn
      obtain ⟨h1, h2, h3⟩ := may_spec hm
      have := ih _ _ _ hv hr
      have h4 := leftN_put3 hI.ab h1 hc hv hI.left h2 h3
      simp only [List.length_cons]
      omega
end
end Go.Vc
/-
  Plain words: each full system is a completion of the empty one.
-/
namespace Go.Vc
section
variable {v m n : Nat}
/-- A block whose pairs are left. -/
def Opn (m : Nat) (d : B3) : Prop := ∃ x y z : Nat, d = b3N x y z ∧ x < y ∧ y < z ∧ usd m x y = false ∧ usd m x z = false ∧ usd m y z = false
def inB (v : Nat) (d : B3) : Prop := ∃ x y z : Nat, d = b3N x y z ∧ x < y ∧ y < z ∧ z < v
theorem good.inB {d : B3} (h : good v d) : inB v d := by
  obtain ⟨a, b, c⟩ := d
  unfold good at h
  simp only at h
  refine ⟨a.toNat, b.toNat, c.toNat, ?_, by omega, by omega, by omega⟩
  unfold b3N
  rw [Int.toNat_of_nonneg (by omega), Int.toNat_of_nonneg (by omega), Int.toNat_of_nonneg (by omega)]
/-- What is asked of the blocks that are yet to come. -/
structure Rest (v m : Nat) (B : List B3) : Prop where
  ok : ∀ d ∈ B, inB v d
  opn : ∀ d ∈ B, Opn m d
  lt : B.Pairwise B3.lt
  fit : B.Pairwise fun d e => common e d ≤ 1
theorem b3N_inj {x y z a b c : Nat} (h : b3N x y z = b3N a b c) : x = a ∧ y = b ∧ z = c := by
  unfold b3N at h
  simp only [Prod.mk.injEq] at h
  omega
theorem Rest.tail {x y z : Nat} {B : List B3} (hv : v ≤ 15) (h : Rest v m (b3N x y z :: B)) (hx : x < y) (hy : y < z) (hz : z < v) : Rest v (putM m x y z) B := by
  obtain ⟨h1, h2⟩ := List.pairwise_cons.1 h.lt
  obtain ⟨h3, h4⟩ := List.pairwise_cons.1 h.fit
  refine ⟨fun d hd => h.ok d (by simp [hd]), fun d hd => ?_, h2, h4⟩
  obtain ⟨a, b, c, rfl, ha, hb, u1, u2, u3⟩ := h.opn d (by simp [hd])
  obtain ⟨a', b', c', e, _, _, hc⟩ := h.ok _ (List.mem_cons_of_mem _ hd)
  obtain ⟨rfl, rfl, rfl⟩ := b3N_inj e
  have hc3 := h3 _ hd
  rw [common_le (b3N_three hx hy)] at hc3
  have k1 : ∀ p q : Nat, p < q → q < v → usd m p q = false → ¬ (has (b3N x y z) p ∧ has (b3N x y z) q) → usd (putM m x y z) p q = false := fun p q h1 h2 h3 h4 => (usd_putN hx hy (by omega) (by omega) (by omega) (by omega)).2 ⟨h3, h4⟩
  exact ⟨a, b, c, rfl, ha, hb, k1 a b (by omega) (by omega) u1 hc3.1, k1 a c (by omega) (by omega) u2 hc3.2.1, k1 b c (by omega) (by omega) u3 hc3.2.2⟩
theorem comp_all : ∀ (B : List B3) (m n : Nat), v ≤ 15 → Rest v m B → (∀ x y, x < y → y < v → usd m x y = true ∨ ∃ d ∈ B, has d x ∧ has d y) → B.length ≤ n → B ∈ compM n v m := by
  intro B
  induction B with
  | nil =>
    intro m n hv h hf hn
    rw [compM_none (nextM_none fun x y h1 h2 => by rcases hf x y h1 h2 with h3 | ⟨d, hd, _⟩; (· exact h3); (· simp at hd))]
    simp
  | cons b B ih =>
    intro m n hv h hf hn
    obtain ⟨n, rfl⟩ : ∃ k, n = k + 1 := ⟨n - 1, by simp only [List.length_cons] at hn; omega⟩
    obtain ⟨x, y, z, rfl, hx, hy, hz⟩ := h.ok b (by simp)
    obtain ⟨x', y', z', e, _, _, u1, u2, u3⟩ := h.opn _ (List.mem_cons_self ..)
    obtain ⟨rfl, rfl, rfl⟩ := b3N_inj e
    rcases next_cases v m with hall | ⟨p, q, hI⟩
    · rw [hall x y hx (by omega)] at u1; cases u1
    have hpq := hI.ab
    have hqv := hI.bv
    have low : ∀ s t : Nat, s < t → t < v → usd m s t = false → p ≤ s ∧ (p = s → q ≤ t) := by
      intro s t h1 h2 h3
      refine ⟨?_, fun e => ?_⟩
      · apply Decidable.byContradiction
        intro h4
        rw [hI.rows s t (by omega) h1 h2] at h3
        cases h3
      · apply Decidable.byContradiction
        intro h4
        subst e
        rw [hI.row t h1 (by omega)] at h3
        cases h3
    have hb := low x y hx (by omega) u1
    have hd : ∃ d ∈ b3N x y z :: B, has d p ∧ has d q := by
      rcases hf p q hpq hqv with h1 | h1
      · rw [hI.left] at h1; cases h1
      · exact h1
    obtain ⟨d, hd, hdp, hdq⟩ := hd
    obtain ⟨s, t, r, rfl, hs, ht, hr⟩ := h.ok d hd
    obtain ⟨s', t', r', e, _, _, w1, w2, w3⟩ := h.opn _ hd
    obtain ⟨rfl, rfl, rfl⟩ := b3N_inj e
    rw [has_b3N] at hdp hdq
    have hd1 := low s t hs (by omega) w1
    have hps : p = s := by omega
    have hqt : q = t := by
      have := hd1.2 hps
      omega
    have hle : x ≤ s ∧ (x = s → y ≤ t) := by
      rcases List.mem_cons.1 hd with e | e
      · obtain ⟨rfl, rfl, rfl⟩ := b3N_inj e; omega
      · have h1 := (List.pairwise_cons.1 h.lt).1 _ e
        unfold B3.lt b3N at h1
        simp only at h1
        omega
    have hxp : p = x := by omega
    have hyq : q = y := by have := hb.2 hxp; have := hle.2 (by omega); omega
    subst hxp hyq
    have hm : may m p q z = true := by
      unfold may
      have : Nat.blt q z = true := by rw [Nat.blt_eq]; exact hy
      simp [this, u2, u3]
    have hmem := ih (putM m p q z) n hv (h.tail hv hx hy hz) (fun i j h1 h2 => by
      have hup := usd_putN (m := m) (x := i) (y := j) hx hy (by omega : z < 16) (by omega) (by omega) (by omega)
      cases hu : usd (putM m p q z) i j with
      | true => exact .inl rfl
      | false =>
        refine .inr ?_
        obtain ⟨g1, g2⟩ := hup.1 hu
        rcases hf i j h1 h2 with g3 | ⟨d, hd, g3⟩
        · rw [g1] at g3; cases g3
        · rcases List.mem_cons.1 hd with rfl | hd
          · exact absurd g3 g2
          · exact ⟨d, hd, g3⟩) (by simp only [List.length_cons] at hn; omega)
    unfold compM
    rw [nextM_some hI]
    simp only
    refine List.mem_flatMap.2 ⟨z, List.mem_range.2 hz, ?_⟩
    rw [if_pos hm]
    exact List.mem_map.2 ⟨B, hmem, rfl⟩
/-! ### The pairs of blocks -/
def putB (m : Nat) (d : B3) : Nat := putM m d.1.toNat d.2.1.toNat d.2.2.toNat
def maskB (m : Nat) (bs : List B3) : Nat := bs.foldl putB m
theorem putB_b3N {x y z : Nat} : putB m (b3N x y z) = putM m x y z := by unfold putB b3N; simp
theorem mask_left : ∀ (B : List B3) (m : Nat), v ≤ 15 → Rest v m B → leftN v (maskB m B) + 3 * B.length = leftN v m := by
  intro B
  induction B with
  | nil => intro m _ _; rfl
  | cons b B ih =>
    intro m hv h
    obtain ⟨x, y, z, rfl, hx, hy, hz⟩ := h.ok b (by simp)
    obtain ⟨x', y', z', e, _, _, u1, u2, u3⟩ := h.opn _ (List.mem_cons_self ..)
    obtain ⟨rfl, rfl, rfl⟩ := b3N_inj e
    have h1 := ih (putM m x y z) hv (h.tail hv hx hy hz)
    have h2 := leftN_put3 hx hy hz hv u1 u2 u3
    have e : maskB m (b3N x y z :: B) = maskB (putM m x y z) B := by unfold maskB; rw [List.foldl_cons, putB_b3N]
    rw [e, List.length_cons]
    omega
theorem usd_mask : ∀ (B : List B3) (m : Nat), v ≤ 15 → (∀ d ∈ B, inB v d) → ∀ x y, x < y → y < v → (usd (maskB m B) x y = true ↔ usd m x y = true ∨ ∃ d ∈ B, has d x ∧ has d y) := by
  intro B
  induction B with
  | nil => intro m _ _ x y _ _; simp [maskB]
  | cons b B ih =>
    intro m hv h x y hx hy
    obtain ⟨a, b', c, rfl, h1, h2, h3⟩ := h b (by simp)
    have e : maskB m (b3N a b' c :: B) = maskB (putM m a b' c) B := by unfold maskB; rw [List.foldl_cons, putB_b3N]
    rw [e, ih _ hv (fun d hd => h d (by simp [hd])) x y hx hy]
    have hup := usd_putN (m := m) (x := x) (y := y) h1 h2 (by omega : c < 16) (by omega) (by omega) (by omega)
    constructor
    · rintro (g | ⟨d, hd, g⟩)
      · cases hu : usd m x y with
        | true => exact .inl rfl
        | false =>
          refine .inr ⟨b3N a b' c, by simp, ?_⟩
          apply Decidable.byContradiction
          intro g2
          rw [hup.2 ⟨hu, g2⟩] at g
          cases g
      · exact .inr ⟨d, by simp [hd], g⟩
    · rintro (g | ⟨d, hd, g⟩)
      · refine .inl ?_
        cases hu : usd (putM m a b' c) x y with
        | true => rfl
        | false => rw [(hup.1 hu).1] at g; cases g
      · rcases List.mem_cons.1 hd with rfl | hd
        · refine .inl ?_
          cases hu : usd (putM m a b' c) x y with
          | true => rfl
          | false => exact absurd g (hup.1 hu).2
        · exact .inr ⟨d, hd, g⟩
theorem usd_zero (x y : Nat) : usd 0 x y = false := by simp [usd]
theorem sts_lt {v : Int} {bs : List B3} (h : STS v bs) : bs.Pairwise B3.lt := by
  have key : ∀ i j (hi : i < bs.length) (hj : j < bs.length), i < j → B3.lt bs[i] bs[j] := by
    intro i j
    induction j with
    | zero => intro _ _ h; omega
    | succ j ih =>
      intro hi hj hij
      have h1 := (h.ord (j + 1) hj hj).2 j (by omega) rfl
      by_cases e : i = j
      · subst e; exact h1
      · exact lt_trans3 (ih hi (by omega) (by omega)) h1
  rw [List.pairwise_iff_getElem]
  exact fun i j hi hj hij => key i j hi hj hij
theorem sts_rest {bs : List B3} (h : STS (v : Int) bs) : Rest v 0 bs := by
  have hg : ∀ d ∈ bs, inB v d := fun d hd => (h.good d hd).inB
  refine ⟨hg, fun d hd => ?_, sts_lt h, ?_⟩
  · obtain ⟨x, y, z, rfl, h1, h2, h3⟩ := hg d hd
    exact ⟨x, y, z, rfl, h1, h2, usd_zero _ _, usd_zero _ _, usd_zero _ _⟩
  · rw [List.pairwise_iff_getElem]
    exact fun i j hi hj hij => h.fits j hj hj i hi hij
/-- A full system is among the completions of the empty one. -/
theorem sts_mem {bs : List B3} (h : STS (v : Int) bs) (hf : 3 * bs.length = leftN v 0) (hn : bs.length ≤ n) : bs ∈ compM n v 0 := by
  have hv : v ≤ 15 := by have := h.hi; omega
  have hr := sts_rest h
  have h1 := mask_left bs 0 hv hr
  have h0 : leftN v (maskB 0 bs) = 0 := by omega
  refine comp_all bs 0 n hv hr (fun x y hx hy => ?_) hn
  exact (usd_mask bs 0 hv hr.ok x y hx hy).1 (leftN_zero h0 x y hx hy)
end
theorem left3 : leftN 3 0 = 3 := by decide
theorem left7 : leftN 7 0 = 21 := by decide
theorem left9 : leftN 9 0 = 36 := by decide
end Go.Vc
/-
  How many systems of 3, 7 and 9 points there are, counted by the kernel.
-/
namespace Go.Vc
set_option maxRecDepth 100000 in
theorem cnt9 : cntM 40 9 0 = 840 := by decide +kernel
set_option maxRecDepth 100000 in
theorem cnt7 : cntM 40 7 0 = 30 := by decide +kernel
set_option maxRecDepth 100000 in
theorem cnt3 : cntM 40 3 0 = 1 := by decide +kernel
end Go.Vc
/-
  Plain words: the number of a system; what is common.
-/
namespace Go.Vc
def few9 (v : Int) : Prop := v = 3 ∨ v = 7 ∨ v = 9
instance (v : Int) : Decidable (few9 v) := inferInstanceAs (Decidable (_ ∨ _))
/-- Full, with few points. -/
def Few (v : Int) (bs : List B3) : Prop := few9 v ∧ 6 * (bs.length : Int) = v * (v - 1)
instance (v : Int) (bs : List B3) : Decidable (Few v bs) := inferInstanceAs (Decidable (_ ∧ _))
/-- All systems of few points. -/
noncomputable def allN (v : Int) : List (List B3) := compM 40 v.toNat 0
theorem few_len {v : Int} (h : few9 v) : (compM 40 v.toNat 0).length ≤ 1000 ∧ leftN v.toNat 0 ≤ 40 ∧ v.toNat ≤ 15 ∧ 0 ≤ v := by
  rcases h with rfl | rfl | rfl
  · exact ⟨by rw [cntM_eq]; show cntM 40 3 0 ≤ 1000; rw [cnt3]; decide, by show leftN 3 0 ≤ 40; rw [left3]; decide, by decide, by decide⟩
  · exact ⟨by rw [cntM_eq]; show cntM 40 7 0 ≤ 1000; rw [cnt7]; decide, by show leftN 7 0 ≤ 40; rw [left7]; decide, by decide, by decide⟩
  · exact ⟨by rw [cntM_eq]; show cntM 40 9 0 ≤ 1000; rw [cnt9]; decide, by show leftN 9 0 ≤ 40; rw [left9]; decide, by decide, by decide⟩
theorem sts_mul {v : Int} {bs : List B3} (h : STS v bs) : 0 ≤ v * (v - 1) ∧ v * (v - 1) ≤ 1000000 := by
  have h1 := h.lo
  have h2 := h.hi
  refine ⟨Int.mul_nonneg (by omega) (by omega), ?_⟩
  have := Int.mul_le_mul h2 (show v - 1 ≤ 15 by omega) (by omega) (by omega)
  omega
theorem few_left {v : Int} {bs : List B3} (h : Few v bs) : 3 * bs.length = leftN v.toNat 0 := by
  obtain ⟨h1, h2⟩ := h
  rcases h1 with rfl | rfl | rfl
  · show 3 * bs.length = leftN 3 0; rw [left3]; omega
  · show 3 * bs.length = leftN 7 0; rw [left7]; omega
  · show 3 * bs.length = leftN 9 0; rw [left9]; omega
theorem few_mem {v : Int} {bs : List B3} (h : STS v bs) (hf : Few v bs) : bs ∈ allN v := by
  have h0 := (few_len hf.1)
  have h1 := few_left hf
  obtain ⟨vn, rfl⟩ := Int.eq_ofNat_of_zero_le h0.2.2.2
  exact sts_mem h h1 (by have := h.few; omega)
theorem idxP_conts {α : Type} {p : List α → Prop} [DecidablePred p] {ps : List (Sl × List α)} : idxP (fun x : Sl × List α => p x.2) ps = idxP p (conts ps) := by
  have hl := conts_len ps
  by_cases h : ∃ k, ∃ hk : k < ps.length, p (ps[k]).2
  · have h0 : ¬ idxP (fun x : Sl × List α => p x.2) ps = -1 := fun e => by obtain ⟨k, hk, h1⟩ := h; exact idxP_not e k hk h1
    obtain ⟨i, hi, q1, q2, q3⟩ := idxP_at h0
    rw [q1]
    have e : ∀ j (hj : j < ps.length) (hj' : j < (conts ps).length), (conts ps)[j] = (ps[j]).2 := fun j hj hj' => List.getElem_map ..
    exact (idxP_found (by omega) (by rw [e i hi]; exact q2) (fun j hj hji => by rw [e j (by omega)]; exact q3 j (by omega) hji)).symm
  · rw [idxP_none (fun j hj hh => h ⟨j, hj, hh⟩), idxP_none]
    intro j hj hh
    have e : (conts ps)[j] = (ps[j]'(by omega)).2 := List.getElem_map ..
    rw [e] at hh
    exact h ⟨j, by omega, hh⟩
/-- The number of a system, and the code. -/
def NOS (v : Int) (bs : List B3) (r code : Int) : Prop := (¬ STS v bs → r = 0 ∧ code = 1) ∧ (STS v bs → ¬ Few v bs → r = 0 ∧ code = 5) ∧ (STS v bs → Few v bs → r = idxP (fun q => bs = q) (allN v) ∧ code = 0)
theorem NOS.unique {v : Int} {bs : List B3} {r c s d : Int} (h : NOS v bs r c) (g : NOS v bs s d) : r = s ∧ c = d := by
  by_cases hS : STS v bs
  · by_cases hf : Few v bs
    · have := h.2.2 hS hf; have := g.2.2 hS hf; omega
    · have := h.2.1 hS hf; have := g.2.1 hS hf; omega
  · have := h.1 hS; have := g.1 hS; omega
theorem befB_at : ∀ {a b : List B3} {i : Nat} (h1 : i < a.length) (h2 : i < b.length), a.take i = b.take i → ¬ a[i] = b[i] → (B3.lt a[i] b[i] ↔ befB a b) := by
  intro a
  induction a with
  | nil => intro b i h1; simp at h1
  | cons x a ih =>
    intro b i h1 h2 he hne
    cases b with
    | nil => simp at h2
    | cons y b =>
      cases i with
      | zero =>
        simp only [List.getElem_cons_zero] at hne ⊢
        unfold befB
        rw [if_neg hne]
      | succ i =>
        simp only [List.take_succ_cons, List.cons.injEq] at he
        simp only [List.getElem_cons_succ] at hne ⊢
        unfold befB
        rw [if_pos he.1]
        exact ih (by simp only [List.length_cons] at h1; omega) (by simp only [List.length_cons] at h2; omega) he.2 hne
theorem befB_pre {b : List B3} : ∀ {a : List B3} {n : Nat}, a = b.take n → ¬ befB a b := by
  induction b with
  | nil => intro a n h; subst h; simp [befB]
  | cons y b ih =>
    intro a n h
    cases n with
    | zero => subst h; simp [befB]
    | succ n =>
      subst h
      simp only [List.take_succ_cons]
      unfold befB
      rw [if_pos rfl]
      exact ih rfl
end Go.Vc
/-
  The calculus, part 17: the least and the greatest of integers.
-/
namespace Go.Vc
open Go Go.RowKit
section
variable {P : Program} {w0 w : World} {Q : Exit → Act → World → Prop} {σ : Sig} {H : List Assn} {o : Oper} {ts : Array TypeId}
theorem run_min2 (a b : Int) : (Builtin.min2 (.int .i64 a) (.int .i64 b)).run P w = .ok (.int .i64 (if b < a then b else a)) w := by
  unfold Builtin.min2
  by_cases h : b < a <;> simp [h]
theorem run_max2 (a b : Int) : (Builtin.max2 (.int .i64 a) (.int .i64 b)).run P w = .ok (.int .i64 (if a < b then b else a)) w := by
  unfold Builtin.max2
  by_cases h : a < b <;> simp [h]
theorem Pu.min2 {x y : Operand} {a b r : Int} (hr : r = if b < a then b else a) (ho : o.op = .call { callee := .builtin .min, args := #[x, y], argTypes := ts }) (hx : ev σ x = some (.int .i64 a)) (hy : ev σ y = some (.int .i64 b)) : Pu P w0 o σ H (.int .i64 r) := by
  subst hr
  intro w hw c ha
  have h1 := ha x (by simp [ho, Op.operands, Call.operands]) _ hx
  have h2 := ha y (by simp [ho, Op.operands, Call.operands]) _ hy
  simp [execOp, ho, h1, h2, resolve, invoke, builtin, Builtin.min_, run_min2]
theorem Pu.max2 {x y : Operand} {a b r : Int} (hr : r = if a < b then b else a) (ho : o.op = .call { callee := .builtin .max, args := #[x, y], argTypes := ts }) (hx : ev σ x = some (.int .i64 a)) (hy : ev σ y = some (.int .i64 b)) : Pu P w0 o σ H (.int .i64 r) := by
  subst hr
  intro w hw c ha
  have h1 := ha x (by simp [ho, Op.operands, Call.operands]) _ hx
  have h2 := ha y (by simp [ho, Op.operands, Call.operands]) _ hy
  simp [execOp, ho, h1, h2, resolve, invoke, builtin, Builtin.max_, run_max2]
theorem Pu.min3 {x y z : Operand} {a b d r : Int} (hr : r = if d < (if b < a then b else a) then d else (if b < a then b else a)) (ho : o.op = .call { callee := .builtin .min, args := #[x, y, z], argTypes := ts }) (hx : ev σ x = some (.int .i64 a)) (hy : ev σ y = some (.int .i64 b)) (hz : ev σ z = some (.int .i64 d)) : Pu P w0 o σ H (.int .i64 r) := by
  subst hr
  intro w hw c ha
  have h1 := ha x (by simp [ho, Op.operands, Call.operands]) _ hx
  have h2 := ha y (by simp [ho, Op.operands, Call.operands]) _ hy
  have h3 := ha z (by simp [ho, Op.operands, Call.operands]) _ hz
  simp [execOp, ho, h1, h2, h3, resolve, invoke, builtin, Builtin.min_, run_min2]
theorem Pu.max3 {x y z : Operand} {a b d r : Int} (hr : r = if (if a < b then b else a) < d then d else (if a < b then b else a)) (ho : o.op = .call { callee := .builtin .max, args := #[x, y, z], argTypes := ts }) (hx : ev σ x = some (.int .i64 a)) (hy : ev σ y = some (.int .i64 b)) (hz : ev σ z = some (.int .i64 d)) : Pu P w0 o σ H (.int .i64 r) := by
  subst hr
  intro w hw c ha
  have h1 := ha x (by simp [ho, Op.operands, Call.operands]) _ hx
  have h2 := ha y (by simp [ho, Op.operands, Call.operands]) _ hy
  have h3 := ha z (by simp [ho, Op.operands, Call.operands]) _ hz
  simp [execOp, ho, h1, h2, h3, resolve, invoke, builtin, Builtin.max_, run_max2]
end
end Go.Vc
/-
  Plain words: blocks in order, by insertion.
-/
namespace Go.Vc
def leB (a b : B3) : Prop := ¬ B3.lt b a
theorem leB_trans {a b c : B3} (h1 : leB a b) (h2 : leB b c) : leB a c := by unfold leB B3.lt at *; omega
theorem leB_of {a b : B3} (h : B3.lt a b) : leB a b := by unfold leB B3.lt at *; omega
theorem leB_anti {a b : B3} (h1 : leB a b) (h2 : leB b a) : a = b := by
  obtain ⟨a1, a2, a3⟩ := a
  obtain ⟨b1, b2, b3⟩ := b
  unfold leB B3.lt at *
  simp only at *
  have e1 : a1 = b1 := by omega
  have e2 : a2 = b2 := by omega
  have e3 : a3 = b3 := by omega
  rw [e1, e2, e3]
def SrtB (l : List B3) : Prop := l.Pairwise leB
theorem ins_perm {l : List B3} {b : B3} {y : Nat} : (l.take y ++ b :: l.drop y).Perm (l ++ [b]) := by
  refine List.perm_middle.trans ?_
  rw [List.take_append_drop]
  exact (List.perm_append_comm (l₁ := [b])).trans (List.Perm.refl _)
theorem ins_sorted {l : List B3} {b : B3} {y : Nat} (hs : SrtB l) (hy : y ≤ l.length) (h1 : ∀ j (hj : j < l.length), y ≤ j → B3.lt b l[j]) (h2 : ∀ (h0 : 0 < y), ¬ B3.lt b (l[y - 1]'(by omega))) : SrtB (l.take y ++ b :: l.drop y) := by
  have hp := List.pairwise_iff_getElem.1 hs
  unfold SrtB
  rw [List.pairwise_append, List.pairwise_cons]
  have hd : ∀ x ∈ l.drop y, B3.lt b x := by
    intro x hx
    obtain ⟨j, hj, rfl⟩ := List.getElem_of_mem hx
    rw [List.length_drop] at hj
    rw [List.getElem_drop]
    exact h1 (y + j) (by omega) (by omega)
  have ht : ∀ x ∈ l.take y, leB x b := by
    intro x hx
    obtain ⟨j, hj, rfl⟩ := List.getElem_of_mem hx
    rw [List.length_take] at hj
    rw [List.getElem_take]
    have h3 := h2 (by omega)
    by_cases e : j = y - 1
    · subst e; exact h3
    · exact leB_trans (hp j (y - 1) (by omega) (by omega) (by omega)) h3
  refine ⟨hs.sublist (List.take_sublist _ _), ⟨fun x hx => leB_of (hd x hx), hs.sublist (List.drop_sublist _ _)⟩, fun x hx z hz => ?_⟩
  rcases List.mem_cons.1 hz with rfl | hz
  · exact ht x hx
  · exact leB_trans (ht x hx) (leB_of (hd z hz))
theorem srtB_unique : ∀ {l m : List B3}, SrtB l → SrtB m → l.Perm m → l = m := by
  intro l
  induction l with
  | nil => intro m _ _ h; exact (List.Perm.nil_eq h)
  | cons a l ih =>
    intro m h1 h2 h
    cases m with
    | nil => exact absurd h.length_eq (by simp)
    | cons b m =>
      obtain ⟨ha, hl⟩ := List.pairwise_cons.1 h1
      obtain ⟨hb, hm⟩ := List.pairwise_cons.1 h2
      have e : a = b := by
        rcases List.mem_cons.1 (h.mem_iff.1 (List.mem_cons_self ..)) with e | e
        · exact e
        · rcases List.mem_cons.1 (h.mem_iff.2 (List.mem_cons_self ..)) with e' | e'
          · exact e'.symm
          · exact leB_anti (ha b e') (hb a e)
      subst e
      rw [ih hl hm (List.Perm.cons_inv h)]
theorem srtB_lt {l : List B3} (h : l.Pairwise B3.lt) : SrtB l := h.imp leB_of
end Go.Vc
/-
  The calculus, part 18: a search for completions that keeps or counts them.
-/
namespace Go.Vc
open Go Go.RowKit
section
variable {v m a b c n p k : Nat} {U : List Bool}
/-- The pairs that are used, by their numbers. -/
def RelU (v : Nat) (U : List Bool) (m : Nat) : Prop := U.length = 256 ∧ ∀ x y : Nat, x < v → y < v → x ≠ y → U.getD (prI x y) false = usd m x y
theorem prI_lt (ha : a < 16) (hb : b < 16) : prI a b < 256 := by unfold prI; omega
theorem getD_set {i j : Nat} {x : Bool} (hi : i < U.length) : (U.set i x).getD j false = if j = i then x else U.getD j false := by
  rw [List.getD_eq_getElem?_getD, List.getD_eq_getElem?_getD, List.getElem?_set]
  by_cases e : j = i
  · subst e; simp [hi]
  · rw [if_neg (fun h => e h.symm), if_neg e]
theorem relU_at (h : RelU v U m) {x y : Nat} (hx : x < v) (hy : y < v) (hne : x ≠ y) (hk : prI x y < U.length) : U[prI x y] = usd m x y := by
  have := h.2 x y hx hy hne
  rwa [List.getD_eq_getElem?_getD, List.getElem?_eq_getElem hk] at this
theorem relU_put (h : RelU v U m) (ha : a < b) (hb : b < c) (hc : c < v) (hv : v ≤ 15) : RelU v (((U.set (prI a b) true).set (prI a c) true).set (prI b c) true) (putM m a b c) := by
  have l1 := prI_lt (a := a) (b := b) (by omega) (by omega)
  have l2 := prI_lt (a := a) (b := c) (by omega) (by omega)
  have l3 := prI_lt (a := b) (b := c) (by omega) (by omega)
  refine ⟨by simp [h.1], fun x y hx hy hne => ?_⟩
  rw [getD_set (by simp [h.1]; omega), getD_set (by simp [h.1]; omega), getD_set (by rw [h.1]; omega), h.2 x y hx hy hne]
  have hup := usd_put (m := m) (a := a) (b := b) (c := c) (by omega) (by omega) (by omega) (x := x) (y := y) (by omega) (by omega)
  by_cases e1 : prI x y = prI b c
  · rw [if_pos e1]
    have := prI_inj (a := x) (b := y) (x := b) (y := c) (by omega) (by omega) (by omega) (by omega) e1
    exact (hup.2 (by omega)).symm
  · rw [if_neg e1]
    by_cases e2 : prI x y = prI a c
    · rw [if_pos e2]
      have := prI_inj (a := x) (b := y) (x := a) (y := c) (by omega) (by omega) (by omega) (by omega) e2
      exact (hup.2 (by omega)).symm
    · rw [if_neg e2]
      by_cases e3 : prI x y = prI a b
      · rw [if_pos e3]
        have := prI_inj (a := x) (b := y) (x := a) (y := b) (by omega) (by omega) (by omega) (by omega) e3
        exact (hup.2 (by omega)).symm
      · rw [if_neg e3]
        cases hu : usd m x y with
        | true => exact (hup.2 (.inl hu)).symm
        | false =>
          cases hp : usd (putM m a b c) x y with
          | false => rfl
          | true =>
            rcases hup.1 hp with h1 | h1
            · rw [hu] at h1; cases h1
            · exfalso
              rcases h1 with (⟨rfl, rfl⟩ | ⟨rfl, rfl⟩) | (⟨rfl, rfl⟩ | ⟨rfl, rfl⟩) | (⟨rfl, rfl⟩ | ⟨rfl, rfl⟩)
              · exact e3 rfl
              · exact e3 (prI_comm _ _)
              · exact e2 rfl
              · exact e2 (prI_comm _ _)
              · exact e1 rfl
              · exact e1 (prI_comm _ _)
theorem relU_del (h : RelU v U (putM m a b c)) (ha : a < b) (hb : b < c) (hc : c < v) (hv : v ≤ 15) (h1 : usd m a b = false) (h2 : usd m a c = false) (h3 : usd m b c = false) : RelU v (((U.set (prI a b) false).set (prI a c) false).set (prI b c) false) m := by
  have l1 := prI_lt (a := a) (b := b) (by omega) (by omega)
  have l2 := prI_lt (a := a) (b := c) (by omega) (by omega)
  have l3 := prI_lt (a := b) (b := c) (by omega) (by omega)
  refine ⟨by simp [h.1], fun x y hx hy hne => ?_⟩
  rw [getD_set (by simp [h.1]; omega), getD_set (by simp [h.1]; omega), getD_set (by rw [h.1]; omega), h.2 x y hx hy hne]
  have hup := usd_put (m := m) (a := a) (b := b) (c := c) (by omega) (by omega) (by omega) (x := x) (y := y) (by omega) (by omega)
  have key : ∀ s t : Nat, s < 16 → t < 16 → usd m s t = false → prI x y = prI s t → false = usd m x y := by
    intro s t hs ht hu e
    rcases prI_inj (by omega) (by omega) hs ht e with ⟨rfl, rfl⟩ | ⟨rfl, rfl⟩
    · exact hu.symm
    · rw [usd_comm]; exact hu.symm
  by_cases e1 : prI x y = prI b c
  · rw [if_pos e1]; exact key b c (by omega) (by omega) h3 e1
  · rw [if_neg e1]
    by_cases e2 : prI x y = prI a c
    · rw [if_pos e2]; exact key a c (by omega) (by omega) h2 e2
    · rw [if_neg e2]
      by_cases e3 : prI x y = prI a b
      · rw [if_pos e3]; exact key a b (by omega) (by omega) h1 e3
      · rw [if_neg e3]
        cases hu : usd m x y with
        | true => exact hup.2 (.inl hu)
        | false =>
          cases hp : usd (putM m a b c) x y with
          | false => rfl
          | true =>
            rcases hup.1 hp with h4 | h4
            · rw [hu] at h4; cases h4
            · exfalso
              rcases h4 with (⟨rfl, rfl⟩ | ⟨rfl, rfl⟩) | (⟨rfl, rfl⟩ | ⟨rfl, rfl⟩) | (⟨rfl, rfl⟩ | ⟨rfl, rfl⟩)
              · exact e3 rfl
              · exact e3 (prI_comm _ _)
              · exact e2 rfl
              · exact e2 (prI_comm _ _)
              · exact e1 rfl
              · exact e1 (prI_comm _ _)
theorem relU_zero : RelU v (List.replicate 256 false) 0 := by
  refine ⟨List.length_replicate, fun x y _ _ _ => ?_⟩
  have h0 : usd 0 x y = false := by simp [usd]
  rw [h0, List.getD_eq_getElem?_getD, List.getElem?_replicate]
  split <;> rfl
/-- What the loops for the first pair have found. -/
def Fnd (v m : Nat) (a b : Int) (p : Nat) : Prop := (a = -1 ∧ b = -1 ∧ p ≤ v ∧ ∀ i j, i < p → i < j → j < v → usd m i j = true) ∨ ∃ x y : Nat, a = x ∧ b = y ∧ IsNext v m x y
theorem may_of (h : IsNext v m a b) (hc : c < v) (h1 : c ≠ a) (h2 : c ≠ b) (h3 : usd m a c = false) (h4 : usd m b c = false) : may m a b c = true := by
  have h5 : b < c := by
    apply Decidable.byContradiction
    intro h6
    by_cases h7 : c < a
    · rw [usd_comm, h.rows c a h7 h7 (by have := h.ab; have := h.bv; omega)] at h3
      cases h3
    · rw [h.row c (by omega) (by omega)] at h3
      cases h3
  unfold may
  have : Nat.blt b c = true := by rw [Nat.blt_eq]; exact h5
  simp [this, h3, h4]
theorem may_no (h : ¬ (c ≠ a ∧ c ≠ b ∧ usd m a c = false ∧ usd m b c = false)) (hab : a < b) : may m a b c = false := by
  cases hm : may m a b c with
  | false => rfl
  | true =>
    obtain ⟨h1, h2, h3⟩ := may_spec hm
    exact absurd ⟨by omega, by omega, h2, h3⟩ h
variable {most : Nat} {α : Type}
theorem goesC_most : ∀ {L : List α} {k : Nat}, k < most → goesC (fun j => decide (j < most)) k L = decide (k + (runC (fun j => decide (j < most)) k L).length < most) := by
  intro L
  induction L with
  | nil => intro k hk; simp [goesC, runC, hk]
  | cons x L ih =>
    intro k hk
    unfold goesC runC
    by_cases h : k + 1 < most
    · simp only [h, decide_true, Bool.true_and, if_true]
      rw [ih h, List.length_cons]
      congr 1
      rw [show k + 1 + (runC (fun j => decide (j < most)) (k + 1) L).length = k + ((runC (fun j => decide (j < most)) (k + 1) L).length + 1) by omega]
    · simp [h]
theorem srch_end {l l2 : List (List B3)} {xs : List B3} (hlm : l.length < most) (hl2 : l2 = l ++ runC (fun j => decide (j < most)) l.length (leaf xs (compJ n v m a b c))) (hlast : c = v ∨ ¬ l2.length < most) (hc : c ≤ v) : l ++ runC (fun j => decide (j < most)) l.length (leaf xs (compJ n v m a b v)) = l2 := by
  rcases hlast with rfl | h
  · exact hl2.symm
  · obtain ⟨r, hr⟩ := leaf_pre (xs := xs) (n := n) (v := v) (m := m) (a := a) (b := b) hc
    have h1 : goesC (fun j => decide (j < most)) l.length (leaf xs (compJ n v m a b c)) = false := by
      rw [goesC_most hlm]
      have h2 := congrArg List.length hl2
      rw [List.length_append] at h2
      exact decide_eq_false (by omega)
    rw [hr, runC_stop h1, ← hl2]
end
section
variable {P : Program} {N : Nat} {w0 w : World} {Q : Exit → Act → World → Prop} {σ : Sig} {H H' : List Assn} {ops : Array Oper} {rest : List Oper}
/-- A search: its cells, the pairs that are used, what it has found; what has been counted, l. -/
def SrchK (T uT fT bT : TypeId) (sb v most : Nat) (keep : Bool) (m : Nat) (l : List (List B3)) : Assn :=
  .exi fun q : ((Option Addr × Nat) × List Bool) × (Option Addr × Nat) × List (Sl × List B3) => .sep (.pur (RelU v q.1.2 m ∧ (conts q.2.2 = if keep then l else []) ∧ ∀ p ∈ q.2.2, p.1.A.isSome = true))
    (.sep (Blk sb [.int .i64 (v : Int), .slice q.1.1.1 q.1.2.length q.1.1.2, .int .i64 (l.length : Int), .int .i64 (most : Int), .bool keep, .slice q.2.1.1 (tops q.2.2).length q.2.1.2] T)
      (.sep (Own uT BoolC q.1.1.1 q.1.1.2 q.1.2) (.sep (Own fT SlC q.2.1.1 q.2.1.2 (tops q.2.2)) (RowsA bT B3C q.2.2))))
theorem relU_putI {v m : Nat} {U : List Bool} {d : B3} (h : RelU v U m) (hd : inB v d) (hv : v ≤ 15) : RelU v (((U.set (prI d.1.toNat d.2.1.toNat) true).set (prI d.1.toNat d.2.2.toNat) true).set (prI d.2.1.toNat d.2.2.toNat) true) (putB m d) := by
  obtain ⟨x, y, z, rfl, h1, h2, h3⟩ := hd
  exact relU_put h h1 h2 h3 hv
theorem inB_pts {v : Nat} {d : B3} (hd : inB v d) (hv : v ≤ 15) : (0 ≤ d.1 ∧ d.1 < 16) ∧ (0 ≤ d.2.1 ∧ d.2.1 < 16) ∧ (0 ≤ d.2.2 ∧ d.2.2 < 16) := by
  obtain ⟨x, y, z, rfl, h1, h2, h3⟩ := hd
  unfold b3N
  simp only
  omega
theorem maskB_snoc {m : Nat} {bs : List B3} {d : B3} : maskB m (bs ++ [d]) = putB (maskB m bs) d := by unfold maskB; rw [List.foldl_append]; rfl
variable {T uT fT bT : TypeId} {sb v most m : Nat} {keep : Bool} {l : List (List B3)}
theorem SrchK.elim (hw : St w0 (SrchK T uT fT bT sb v most keep m l :: H) w) : ∃ uA uk U fA fk ps, RelU v U m ∧ conts ps = (if keep then l else []) ∧ (∀ p ∈ ps, p.1.A.isSome = true) ∧
    St w0 (Blk sb [.int .i64 (v : Int), .slice uA U.length uk, .int .i64 (l.length : Int), .int .i64 (most : Int), .bool keep, .slice fA (tops ps).length fk] T :: Own uT BoolC uA uk U :: Own fT SlC fA fk (tops ps) :: RowsA bT B3C ps :: H) w := by
  obtain ⟨q, hw⟩ := hw.exi
  have h1 := hw.sep.pur
  refine ⟨q.1.1.1, q.1.1.2, q.1.2, q.2.1.1, q.2.1.2, q.2.2, h1.1.1, h1.1.2.1, h1.1.2.2, ?_⟩
  have h2 := h1.2.sep
  have h3 := (h2.perm (List.Perm.swap _ _ _)).sep
  have h5 := (h3.perm (List.Perm.swap _ _ _)).sep
  exact (h5.sub (Sub.keep 3 rfl (Sub.keep 2 rfl (Sub.keep 0 rfl (Sub.keep 0 rfl (Sub.refl _))))))
theorem V.srchK {c : Code} (h : ∀ uA uk U fA fk ps, RelU v U m → conts ps = (if keep then l else []) → (∀ p ∈ ps, p.1.A.isSome = true) → V P N w0 c Q σ (Blk sb [.int .i64 (v : Int), .slice uA U.length uk, .int .i64 (l.length : Int), .int .i64 (most : Int), .bool keep, .slice fA (tops ps).length fk] T :: Own uT BoolC uA uk U :: Own fT SlC fA fk (tops ps) :: RowsA bT B3C ps :: H)) : V P N w0 c Q σ (SrchK T uT fT bT sb v most keep m l :: H) := by
  intro w hw
  obtain ⟨uA, uk, U, fA, fk, ps, h1, h2, h4, h3⟩ := SrchK.elim hw
  exact h uA uk U fA fk ps h1 h2 h4 w h3
theorem O.srchK (h : ∀ uA uk U fA fk ps, RelU v U m → conts ps = (if keep then l else []) → (∀ p ∈ ps, p.1.A.isSome = true) → O P N w0 ops Q rest σ (Blk sb [.int .i64 (v : Int), .slice uA U.length uk, .int .i64 (l.length : Int), .int .i64 (most : Int), .bool keep, .slice fA (tops ps).length fk] T :: Own uT BoolC uA uk U :: Own fT SlC fA fk (tops ps) :: RowsA bT B3C ps :: H)) : O P N w0 ops Q rest σ (SrchK T uT fT bT sb v most keep m l :: H) := by
  intro w hw
  obtain ⟨uA, uk, U, fA, fk, ps, h1, h2, h4, h3⟩ := SrchK.elim hw
  exact h uA uk U fA fk ps h1 h2 h4 w h3
theorem SrchK.mk {uA fA : Option Addr} {uk fk : Nat} {U : List Bool} {ps : List (Sl × List B3)} (hr : RelU v U m) (hc : conts ps = if keep then l else []) (hso : ∀ p ∈ ps, p.1.A.isSome = true)
    (hw : St w0 (Blk sb [.int .i64 (v : Int), .slice uA U.length uk, .int .i64 (l.length : Int), .int .i64 (most : Int), .bool keep, .slice fA (tops ps).length fk] T :: Own uT BoolC uA uk U :: Own fT SlC fA fk (tops ps) :: RowsA bT B3C ps :: H) w) : St w0 (SrchK T uT fT bT sb v most keep m l :: H) w := by
  refine St.mkExi (((uA, uk), U), (fA, fk), ps) (St.unsep (St.addPur ⟨hr, hc, hso⟩ ?_))
  have h1 : St w0 (Own fT SlC fA fk (tops ps) :: RowsA bT B3C ps :: Own uT BoolC uA uk U :: Blk sb [.int .i64 (v : Int), .slice uA U.length uk, .int .i64 (l.length : Int), .int .i64 (most : Int), .bool keep, .slice fA (tops ps).length fk] T :: H) w := hw.sub (Sub.keep 2 rfl (Sub.keep 2 rfl (Sub.keep 1 rfl (Sub.keep 0 rfl (Sub.refl _)))))
  have h2 := (St.unsep h1).perm (List.Perm.swap _ _ _)
  have h3 := (St.unsep h2).perm (List.Perm.swap _ _ _)
  exact St.unsep h3
end
end Go.Vc
/-
  Plain words: the first system that is apart; how many blocks are common.
-/
namespace Go.Vc
/-- No block in common. -/
def ApartB (bs q : List B3) : Prop := ∀ b ∈ bs, b ∉ q
instance (bs q : List B3) : Decidable (ApartB bs q) := inferInstanceAs (Decidable (∀ b ∈ bs, b ∉ q))
theorem apart_I {bs q : List B3} : (bs.filter fun b => decide (b ∈ q)).length = 0 ↔ ApartB bs q := by
  rw [List.length_eq_zero_iff, List.filter_eq_nil_iff]
  unfold ApartB
  simp
theorem apart_S {bs q : List B3} : (q.filter fun b => decide (b ∈ bs)).length = 0 ↔ ApartB bs q := by
  rw [List.length_eq_zero_iff, List.filter_eq_nil_iff]
  unfold ApartB
  simp only [decide_eq_true_eq]
  exact ⟨fun h b h1 h2 => h b h2 h1, fun h b h1 h2 => h b h2 h1⟩
/-- The first of all systems that is apart. -/
noncomputable def firstA (v : Int) (bs : List B3) : Option (List B3) := (allN v).find? fun q => decide (ApartB bs q)
theorem firstA_at {v : Int} {bs : List B3} {ps : List (Sl × List B3)} (h : conts ps = allN v) {i : Nat} (hi : i < ps.length) (h1 : ApartB bs (ps[i]).2) (h2 : ∀ j (hj : j < ps.length), j < i → ¬ ApartB bs (ps[j]).2) : firstA v bs = some (ps[i]).2 := by
  have hl := conts_len ps
  unfold firstA
  rw [← h, List.find?_eq_some_iff_getElem]
  refine ⟨decide_eq_true h1, i, by omega, conts_get ps (by omega), fun j hj => ?_⟩
  rw [conts_get ps (by omega), decide_eq_false (h2 j (by omega) hj)]
  rfl
theorem firstA_no {v : Int} {bs : List B3} {ps : List (Sl × List B3)} (h : conts ps = allN v) (h2 : ∀ j (hj : j < ps.length), ¬ ApartB bs (ps[j]).2) : firstA v bs = none := by
  unfold firstA
  rw [← h, List.find?_eq_none]
  intro q hq
  obtain ⟨x, hx, rfl⟩ := List.mem_map.1 hq
  obtain ⟨j, hj, rfl⟩ := List.getElem_of_mem hx
  simpa using h2 j hj
/-- What both FirstApart return. -/
noncomputable def apR (v : Int) (bs : List B3) : Int × List B3 × Int :=
  if STS v bs then if Few v bs then match firstA v bs with | some q => (v, q, 0) | none => (0, [], 4) else (0, [], 5) else (0, [], 1)
theorem apR_1 {v : Int} {bs : List B3} (h : ¬ STS v bs) : apR v bs = (0, [], 1) := by unfold apR; rw [if_neg h]
theorem apR_5 {v : Int} {bs : List B3} (h : STS v bs) (h2 : ¬ Few v bs) : apR v bs = (0, [], 5) := by unfold apR; rw [if_pos h, if_neg h2]
theorem apR_4 {v : Int} {bs : List B3} (h : STS v bs) (h2 : Few v bs) (h3 : firstA v bs = none) : apR v bs = (0, [], 4) := by unfold apR; rw [if_pos h, if_pos h2, h3]
theorem apR_0 {v : Int} {bs q : List B3} (h : STS v bs) (h2 : Few v bs) (h3 : firstA v bs = some q) : apR v bs = (v, q, 0) := by unfold apR; rw [if_pos h, if_pos h2, h3]
theorem apR_no {v : Int} {bs : List B3} {c : Int} (hc : (if STS v bs then if Few v bs then (0 : Int) else 5 else 1) = c) (h : ¬ c = 0) : apR v bs = (0, [], c) := by
  subst hc
  by_cases h1 : STS v bs
  · by_cases h2 : Few v bs
    · rw [if_pos h1, if_pos h2] at h; exact absurd rfl h
    · rw [if_pos h1, if_neg h2]; exact apR_5 h1 h2
  · rw [if_neg h1]; exact apR_1 h1
theorem apR_len {v : Int} {bs : List B3} : (apR v bs).2.1.length ≤ 40 := by
  unfold apR
  split
  · split
    · rename_i hS hF
      split
      · rename_i q hq
        have h := List.mem_of_find?_eq_some hq
        exact compM_len 40 _ _ _ h
      · simp
    · simp
  · simp
/-- How many of the first i lists have q blocks of bs, for each q. -/
def cntC (bs : List B3) (ls : List (List B3)) (n i : Nat) : List Int := (List.range n).map fun q => (((ls.take i).filter fun y => decide ((bs.filter fun b => decide (b ∈ y)).length = q)).length : Int)
section
variable {bs : List B3} {ls : List (List B3)} {n i : Nat}
theorem cntC_len : (cntC bs ls n i).length = n := by simp [cntC]
theorem cntC_start : cntC bs ls n 0 = List.replicate n 0 := by
  apply List.ext_getElem
  · simp [cntC_len]
  · intro j h1 h2
    simp [cntC]
theorem cntC_bd {q : Nat} (hq : q < (cntC bs ls n i).length) : 0 ≤ (cntC bs ls n i)[q] ∧ (cntC bs ls n i)[q] ≤ i := by
  simp only [cntC, List.getElem_map, List.getElem_range]
  have h1 := List.length_filter_le (fun y : List B3 => decide ((bs.filter fun b => decide (b ∈ y)).length = q)) (ls.take i)
  have h2 := List.length_take_le i ls
  omega
theorem cntC_step (hi : i < ls.length) {q : Nat} (e : (bs.filter fun b => decide (b ∈ ls[i])).length = q) (hq : q < (cntC bs ls n i).length) : (cntC bs ls n i).set q ((cntC bs ls n i)[q] + 1) = cntC bs ls n (i + 1) := by
  apply List.ext_getElem
  · rw [List.length_set, cntC_len, cntC_len]
  · intro j h1 h2
    rw [List.getElem_set]
    have hs : ∀ z, (((ls.take (i + 1)).filter fun y => decide ((bs.filter fun b => decide (b ∈ y)).length = z)).length : Int) = ((ls.take i).filter fun y => decide ((bs.filter fun b => decide (b ∈ y)).length = z)).length + (if q = z then 1 else 0) := by
      intro z
      rw [take_snoc hi, List.filter_append, List.length_append]
      by_cases hz : q = z
      · subst hz
        simp [e]
      · simp [e, hz]
    by_cases ej : q = j
    · subst ej
      rw [if_pos rfl]
      simp only [cntC, List.getElem_map, List.getElem_range]
      rw [hs, if_pos rfl]
    · rw [if_neg ej]
      simp only [cntC, List.getElem_map, List.getElem_range]
      rw [hs, if_neg ej]
      simp
end
theorem cmn_le {bs q : List B3} : (bs.filter fun b => decide (b ∈ q)).length ≤ bs.length := List.length_filter_le _ _
/-- Whichever list is gone through. -/
theorem cmn_comm {bs q : List B3} (h1 : bs.Pairwise B3.lt) (h2 : q.Pairwise B3.lt) : (q.filter fun b => decide (b ∈ bs)).length = (bs.filter fun b => decide (b ∈ q)).length := by
  have n1 : bs.Nodup := h1.imp fun h => by rintro rfl; exact lt_irrefl _ h
  have n2 : q.Nodup := h2.imp fun h => by rintro rfl; exact lt_irrefl _ h
  refine ((List.perm_ext_iff_of_nodup (n2.filter _) (n1.filter _)).2 fun b => ?_).length_eq
  simp only [List.mem_filter, decide_eq_true_eq]
  exact And.comm
/-- What both CommonNumbers return. -/
noncomputable def cmR (v : Int) (bs : List B3) : List Int × Int :=
  if STS v bs then if Few v bs then (cntC bs (allN v) (bs.length + 1) (allN v).length, 0) else ([], 5) else ([], 1)
theorem cmR_no {v : Int} {bs : List B3} {c : Int} (hc : (if STS v bs then if Few v bs then (0 : Int) else 5 else 1) = c) (h : ¬ c = 0) : cmR v bs = ([], c) := by
  subst hc
  unfold cmR
  by_cases h1 : STS v bs
  · by_cases h2 : Few v bs
    · rw [if_pos h1, if_pos h2] at h; exact absurd rfl h
    · rw [if_pos h1, if_neg h2, if_pos h1, if_neg h2]
  · rw [if_neg h1, if_neg h1]
theorem cmR_0 {v : Int} {bs : List B3} (h : STS v bs) (h2 : Few v bs) : cmR v bs = (cntC bs (allN v) (bs.length + 1) (allN v).length, 0) := by unfold cmR; rw [if_pos h, if_pos h2]
theorem cmR_len {v : Int} {bs : List B3} : (cmR v bs).1.length ≤ bs.length + 1 := by
  unfold cmR
  split
  · split
    · rw [cntC_len]; omega
    · simp
  · simp
section
variable {w0 w : World} {H : List Assn} {α : Type} {T : TypeId} {C : Cod α}
/-- One row is kept. -/
theorem RowsA.out {ps : List (Sl × List α)} {k : Nat} (hk : k < ps.length) (hw : St w0 (RowsA T C ps :: H) w) : St w0 (Own T C (ps[k]).1.A (ps[k]).1.c (ps[k]).2 :: H) w := by
  have e : ps = ps.take k ++ ps[k] :: ps.drop (k + 1) := by
    rw [← List.drop_eq_getElem_cons hk, List.take_append_drop]
  have hp : ps.Perm (ps[k] :: (ps.take k ++ ps.drop (k + 1))) := by
    conv => lhs; rw [e]
    exact List.perm_middle
  have h1 := RowsA.perm hp hw
  exact ((RowsA.uncons (s := (ps[k]).1) (xs := (ps[k]).2) h1).2).sub (Sub.keep 0 rfl (Sub.drop (Sub.refl _)))
end
end Go.Vc
/-
  The calculus, part 19: two results, the first of which lies in memory; the marks of blocks.
-/
namespace Go.Vc
open Go Go.RowKit
section
variable {P : Program} {N : Nat} {w0 w : World} {Q : Exit → Act → World → Prop} {σ : Sig} {H H' : List Assn}
theorem St.mapR {R : List Assn} (h : ∀ w, St w0 H w → St w0 H' w) (k : ∀ w, St w0 H' w → St w0 R w) : ∀ w, St w0 H w → St w0 R w := fun w hw => k w (h w hw)
theorem X.retCell2 {fn : Func} {t s n : Nat} {T : TypeId} {p : Option Addr} {cs : List Value} {u : Value} {R : Value → List Assn} (hr : fn.results = #[.cell t T, .tmp s]) (hT : aggT P T = true) (hz : Sz P T n) (hl : cs.length = n) (ht : look σ t = some (.pointer p)) (hs' : look σ s = some u)
    (hc : ∀ w, St w0 H w → ∃ q, p = some q ∧ ∀ j u, cs[j]? = some u → w.cell? (q.add j) = some u) (hs : ∀ w, St w0 H w → St w0 (R (.tuple #[.agg cs.toArray, u])) w) :
    X N w0 (bodyPost P fn (fun e w' => ∃ v, e = .returned v ∧ St w0 (R v) w')) .ret σ H := by
  intro w hw a ha
  refine ⟨ha.defers, .tuple #[.agg cs.toArray, u], ?_, _, rfl, hs w hw⟩
  have h1 := ha.look_ t _ ht
  have h2 := ha.look_ s _ hs'
  obtain ⟨q, rfl, hq⟩ := hc w hw
  subst hl
  have hrn := run_loadCells_list (P := P) (w := w) q cs hq
  simp [results, hr, h1, h2, asAddr, loadVar, run_isAgg_t hT, run_sz hz, hrn]
end
section
variable {w0 : World} {H : List Assn}
theorem Ld.part {A : Option Addr} {xs : List B3} {k s j : Nat} {u : Value} (hr : ∀ w, St w0 H w → Rd B3C w A xs) (hk : k < xs.length) (hs : s = 3) (hu : (B3.cs xs[k])[j]? = some u) : ∀ w, St w0 H w → ∃ q, (A.map (·.add (k * s))).map (·.add j) = some q ∧ w.cell? q = some u := by
  intro w hw
  obtain ⟨q, h1, h2⟩ := Ld.rds hr hk (s := s) hs w hw
  exact ⟨q.add j, by rw [h1]; rfl, h2 j u hu⟩
/-- A field of a struct that is a value: one cell. -/
theorem Pu.field {P : Program} {σ : Sig} {o : Oper} {T : TypeId} {x : Operand} {f : Nat} {fs : Array Field} {fd : Field} {cs : Array Value} {u : Value} (ho : o.op = .field T x f) (hT : P.underlying T = some (.struct fs)) (hf : fs[f]? = some fd) (hp : plainT P fd.type = true) (hx : ev σ x = some (.agg cs)) (hu : cs[fd.offset]? = some u) : Pu P w0 o σ H u := by
  intro w hw a ha
  have h1 := ha x (by simp [ho, Op.operands]) _ hx
  simp [execOp, ho, h1, Instr.field, run_underlying hT, hf, asAgg, part, run_isAgg_f hp, hu]
end
/-- Two strings are equal, or not. -/
theorem Pu.eqlStr {P : Program} {w0 : World} {H : List Assn} {σ : Sig} {o : Oper} {T T2 : TypeId} {x y : Operand} {s t : ByteArray} {b : Bool} (hb : (s.toList == t.toList) = b) (ho : o.op = .binOp .eql T x y T2) (hx : ev σ x = some (.string s)) (hy : ev σ y = some (.string t)) : Pu P w0 o σ H (.bool b) := by
  subst hb
  intro w hw a ha
  have h1 := ha x (by simp [ho, Op.operands]) _ hx
  have h2 := ha y (by simp [ho, Op.operands]) _ hy
  have he : (eqGuard .eql T x y (.string s) (.string t)).run P w = .ok () w := by
    unfold eqGuard
    simp
  simp [execOp, ho, h1, h2, he, Go.binOp, Op.stringOp]
/-- The marks of n blocks. -/
def marksB (m : Int) (n : Nat) : List B3 := (List.range n).map fun i : Nat => (m + 3 * (i : Int), m + 3 * (i : Int) + 1, m + 3 * (i : Int) + 2)
theorem marksB_len (m : Int) (n : Nat) : (marksB m n).length = n := by simp [marksB]
theorem marksB_get (m : Int) (n : Nat) {k : Nat} (hk : k < (marksB m n).length) : (marksB m n)[k] = (m + 3 * (k : Int), m + 3 * (k : Int) + 1, m + 3 * (k : Int) + 2) := by simp [marksB]
def markBAt (xs : List B3) (m : Int) (k : Nat) : List B3 := marksB m k ++ xs.drop k
theorem markBAt_zero (xs : List B3) (m : Int) : markBAt xs m 0 = xs := by simp [markBAt, marksB]
theorem markBAt_len {xs : List B3} {m : Int} {k : Nat} (h : k ≤ xs.length) : (markBAt xs m k).length = xs.length := by simp [markBAt, marksB_len]; omega
theorem markBAt_set {xs : List B3} {m : Int} {k : Nat} (h : k < xs.length) : (markBAt xs m k).set k (m + 3 * (k : Int), m + 3 * (k : Int) + 1, m + 3 * (k : Int) + 2) = markBAt xs m (k + 1) := by
  unfold markBAt
  rw [List.set_append_right _ _ (by rw [marksB_len]; exact Nat.le_refl _), marksB_len, Nat.sub_self, drop_cons h, List.set_cons_zero]
  unfold marksB
  rw [List.range_succ, List.map_append, List.append_assoc]
  rfl
theorem markBAt_all {xs : List B3} {m : Int} {k : Nat} (h : k = xs.length) : markBAt xs m k = marksB m xs.length := by
  subst h
  simp [markBAt]
theorem set3 {l : List B3} {k : Nat} (hk : k < l.length) {a b c a2 b2 : B3} : ((l.set k a).set k b).set k c = l.set k c := by rw [List.set_set, List.set_set]
end Go.Vc
/-
  The calculus, part 20: Go's own sorting of an owned row.
-/
namespace Go.Vc
open Go Go.RowKit
open Go.Proofs (sortWorldK CmpLays ltOf)
open Go.Sort (flatK HoldsK putRowK get_flatK size_flatK putCells putRow mapBlock onCells PermIn SortedIn SWO)
section
variable {P : Program} {α : Type} {w0 w w' : World} {H : List Assn} {T c g : Nat} {A : Option Addr} {C : Cod α} {xs ys : List α}
theorem flatK_flat [Inhabited α] (C : Cod α) (xs : List α) : flatK C.enc C.sz xs.toArray = (xs.flatMap C.enc).toArray := by
  have hl := length_flatMap_enc C xs
  apply Array.ext
  · rw [size_flatK]; simp only [List.size_toArray]; omega
  · intro i h1 h2
    have hlt : i < xs.length * C.sz := by simpa [size_flatK] using h1
    have hp := C.pos
    have hq : i / C.sz < xs.length := Nat.div_lt_of_lt_mul (by rw [Nat.mul_comm]; exact hlt)
    have hme : i / C.sz * C.sz + i % C.sz = i := by rw [Nat.mul_comm]; exact Nat.div_add_mod i C.sz
    have hg := getElem?_flatMap_enc C xs (i / C.sz) (i % C.sz) hq (Nat.mod_lt _ hp)
    rw [hme] at hg
    have e1 := get_flatK C.enc C.sz xs.toArray i (by simpa using hlt)
    rw [getElem!_pos _ i h1] at e1
    rw [e1]
    have e2 : xs.toArray[i / C.sz]! = xs[i / C.sz] := by rw [getElem!_pos _ _ (by simpa using hq)]; simp
    rw [e2]
    have h3 : i % C.sz < (C.enc xs[i / C.sz]).length := by rw [C.len]; exact Nat.mod_lt _ hp
    rw [getElem!_pos (C.enc xs[i / C.sz]) _ h3]
    have h4 : (xs.flatMap C.enc)[i]? = some (C.enc xs[i / C.sz])[i % C.sz] := by rw [hg, List.getElem?_eq_getElem h3]
    have h5 : i < (xs.flatMap C.enc).length := by rw [hl]; exact hlt
    rw [List.getElem?_eq_getElem h5] at h4
    simpa using (Option.some.inj h4).symm
theorem own_cases (hw : St w0 (Own T C A c xs :: H) w) : (A = none ∧ c = 0 ∧ xs = []) ∨ ∃ g, A = some ⟨g, 0, none⟩ := by
  obtain ⟨F, ho, hF⟩ := hw.get 0 rfl
  rcases ho.2 with ⟨h1, h2⟩ | ⟨g, cap, cur, hvv, _⟩
  · injection h1 with e1 e2 e3
    exact .inl ⟨e1, e3, List.eq_nil_of_length_eq_zero h2⟩
  · injection hvv with e1
    exact .inr ⟨g, e1⟩
theorem own_holdsK [Inhabited α] (hw : St w0 (Own T C (some ⟨g, 0, none⟩) c xs :: H) w) : HoldsK C.enc C.sz w g 0 xs.toArray ∧ g < w.heap.size := by
  obtain ⟨F, ho, hF⟩ := hw.get 0 rfl
  rcases ho.2 with ⟨h1, h2⟩ | ⟨g', cap, cur, hvv, hbase, hh, hle, hmax, hcs, htake⟩
  · injection h1 with e1; cases e1
  · injection hvv with e1 e2 e3
    cases e1
    subst e3
    refine ⟨fun j hj => ?_, (Array.getElem?_eq_some_iff.1 hh).1⟩
    rw [flatK_flat] at hj ⊢
    have hl := length_flatMap_enc C xs
    have hj' : j < (xs.flatMap C.enc).length := by simpa using hj
    have e : cur[j]? = some (xs.flatMap C.enc)[j] := by
      have h1 : (cur.toList.take (xs.length * C.sz))[j]? = cur.toList[j]? := by rw [List.getElem?_take, if_pos (by omega)]
      rw [htake, List.getElem?_eq_getElem hj'] at h1
      rw [← Array.getElem?_toList, ← h1]
    constructor
    · rw [getElem!_pos _ j (by simpa using hj')]
      simp only [World.cell?, hh, Nat.zero_add, e, id]
      simp
    · simp [World.frozen?, hh]
theorem putCells_toList [Inhabited α] {cur : Array Value} (hn : xs.length * C.sz ≤ cur.size) : (putCells id 0 (flatK C.enc C.sz xs.toArray) cur).toList.take (xs.length * C.sz) = xs.flatMap C.enc := by
  have hl := length_flatMap_enc C xs
  rw [flatK_flat]
  apply List.ext_getElem
  · simp [putCells, hl]; omega
  · intro j h1 h2
    simp only [List.getElem_take, Array.getElem_toList, putCells, Array.getElem_mapIdx]
    rw [if_pos ⟨Nat.zero_le _, by simpa using h2⟩, Nat.sub_zero, getElem!_pos _ j (by simpa using h2)]
    simp
theorem St.sortedK [Inhabited α] (hw : St w0 (Own T C (some ⟨g, 0, none⟩) c xs :: H) w) (hl : ys.length = xs.length) (n : Nat) (os : Array Obj) :
    St w0 (Own T C (some ⟨g, 0, none⟩) c ys :: H) (sortWorldK C.enc C.sz w g 0 n ys.toArray os) := by
  refine hw.upd ?_
  rintro F ⟨ho, hF⟩ hb
  rcases ho.2 with ⟨h1, h2⟩ | ⟨g', cap, cur, hvv, hbase, hh, hle, hmax, hcs, htake⟩
  · injection h1 with e1; cases e1
  · injection hvv with e1 e2 e3
    cases e1
    subst e3
    have hgs : g < w.heap.size := (Array.getElem?_eq_some_iff.1 hh).1
    have hn : xs.length * C.sz ≤ cur.size := by rw [hcs]; exact Nat.mul_le_mul_right _ hle
    have heap : ∀ k, k < w.heap.size → (sortWorldK C.enc C.sz w g 0 n ys.toArray os).heap[k]? = if g = k then (w.heap[k]?).map (onCells (putCells id 0 (flatK C.enc C.sz ys.toArray))) else w.heap[k]? := by
      intro k hk
      unfold sortWorldK Go.Sort.grow putRowK putRow mapBlock Go.Sort.ahead
      simp only
      rw [Array.getElem?_append_left (by simpa using hk), Array.getElem?_modify]
    have hsize : (sortWorldK C.enc C.sz w g 0 n ys.toArray os).heap.size = w.heap.size + os.size := by
      unfold sortWorldK Go.Sort.grow putRowK putRow mapBlock Go.Sort.ahead
      simp
    refine ⟨⟨rfl, rfl, rfl, by omega, fun k hk hk' => ?_, Nat.le_add_right _ _⟩, F, ⟨⟨?_, .inr ⟨g, c, putCells id 0 (flatK C.enc C.sz ys.toArray) cur, by rw [hl], Nat.zero_le _, ?_, by omega, hmax, ?_, ?_⟩⟩, ?_⟩, ?_⟩
    · rw [heap k hk, if_neg (fun e => hk' ((hF k).2 (by subst e; rfl)))]
    · rw [length_flatMap_enc]
    · rw [heap g hgs, if_pos rfl, hh]; rfl
    · simp [putCells, hcs]
    · exact putCells_toList (by rw [hl]; exact hn)
    · intro k
      rw [hF k]
      simp [Value.ownBlock]
    · intro k hk
      exact ⟨.inl hk, by have := (hb k hk).2; omega⟩
/-- A world that has only grown. -/
theorem Bel.grown (h : Bel w.heap.size w w') : ∃ q os', w' = Go.Sort.grow (w.drewN q) os' := by
  refine ⟨w'.drawn - w.drawn, w'.heap.extract w.heap.size w'.heap.size, ?_⟩
  have hd := h.drawn
  have hs := h.size
  have e : w'.heap = w.heap ++ w'.heap.extract w.heap.size w'.heap.size := by
    apply Array.ext_getElem?
    intro k
    by_cases hk : k < w.heap.size
    · rw [Array.getElem?_append_left hk, h.block k hk]
    · rw [Array.getElem?_append_right (by omega), Array.getElem?_extract]
      by_cases h2 : k < w'.heap.size
      · rw [if_pos (by omega)]
        congr 1
        omega
      · rw [Array.getElem?_eq_none (by omega), if_neg (by omega)]
  cases w'
  cases w
  simp only [Go.Sort.grow, World.drewN] at *
  have h1 := h.os
  have h2 := h.tape
  have h3 := h.output
  simp only at h1 h2 h3 hd
  subst h1 h2 h3
  rw [← e]
  congr 1
  omega
/-- What a comparison hands back. -/
def CmpD (P : Program) (f : Nat) (cb : Array Value) (enc : α → Value) (cf : α → α → Int) (W : World) : Prop :=
  ∀ x y : α, Does P f ([enc x, enc y] ++ cb.toList) W [] (fun v => [.pur (v = .int .i64 (cf x y))])
theorem sorted_pair [Inhabited α] {lt : α → α → Bool} {d : Array α} (h : SortedIn lt 0 d.size d) : d.toList.Pairwise fun x y => lt y x = false := by
  rw [List.pairwise_iff_getElem]
  intro i j hi hj hij
  have h1 := h i j (Nat.zero_le _) hij (by simpa using hj)
  rw [getElem!_pos d i (by simpa using hi), getElem!_pos d j (by simpa using hj)] at h1
  simpa using h1
theorem permIn_perm [Inhabited α] {d d' : Array α} (h : PermIn 0 d.size d d') : d'.toList.Perm d.toList := by
  obtain ⟨h1, _, h3⟩ := h
  have e1 : d.extract 0 d.size = d := by simp
  have e2 : d'.extract 0 d.size = d' := by rw [← h1]; simp
  rwa [e1, e2] at h3
/-- slices.SortFunc at elements of several cells. -/
theorem sortK_does [Inhabited α] {ρ : Go.Shelf.Ren} (L : Go.Proofs.SlLaysF0.n6 P ρ) (aE : ∀ w, (isAgg (ρ.t 24)).run P w = .ok true w) (zE : ∀ w, (Go.sizeOf (ρ.t 24)).run P w = .ok C.sz w) (cf : α → α → Int) (hO : SWO (ltOf cf)) {f : Nat} {cb : Array Value} (hok : CallOk P f)
    (hcmp : ∀ zs W, St w0 (Own T C A c zs :: H) W → CmpD P f cb (fun x => .agg (C.enc x).toArray) cf W) (hlen : xs.length < 4611686018427387904) :
    Does P (ρ.f 6) [.slice A xs.length c, .func (.func f) #[] cb] w0 (Own T C A c xs :: H) (fun v => [.exi fun ys : List α => .sep (.pur (v = .tuple #[] ∧ ys.Perm xs ∧ ys.Pairwise fun x y => ¬ cf y x < 0)) (Own T C A c ys)] ++ H) := by
  intro w hw
  rcases own_cases hw with ⟨rfl, rfl, rfl⟩ | ⟨g, rfl⟩
  · refine (Go.Proofs.AnyF.slices_SortFunc_none L none 0 _ w).mono ?_
    rintro e w' ⟨rfl, rfl⟩
    exact ⟨_, rfl, St.mkExi [] (St.unsep (St.addPur ⟨rfl, List.Perm.refl _, List.Pairwise.nil⟩ hw))⟩
  · obtain ⟨hH, hg⟩ := own_holdsK hw
    have eg : ∀ args w, (callFunc f args).run P w = .ok (.enter f args) w := fun args w => run_callFunc hok args w
    have hC : CmpLays P f cb C.enc C.sz cf g 0 xs.toArray.size w := by
      intro m os dk hs x y
      have hs' : dk.toList.length = xs.length := by simpa using hs
      have h1 := St.sortedK hw hs' m os
      have h2 := hcmp _ _ h1 x y _ (St.start _)
      have e : ([Value.agg (C.enc x).toArray, Value.agg (C.enc y).toArray] ++ cb.toList).toArray = #[.agg (C.enc x).toArray, .agg (C.enc y).toArray] ++ cb := by
        apply Array.ext'
        simp
      rw [e] at h2
      refine h2.mono ?_
      rintro e w' ⟨v, rfl, hs3⟩
      exact ⟨by rw [hs3.pur.1], hs3.below.grown⟩
    have h := Go.Proofs.AnyQ.slices_SortFunc L C.sz aE zE C.enc C.len C.one cf hO f cb g 0 c xs.toArray w eg hC hH hg (by simpa using hlen)
    have e0 : xs.toArray.size = xs.length := by simp
    rw [e0] at h
    refine h.mono ?_
    rintro e w' ⟨rfl, d', n, os, hp, hs, rfl⟩
    rw [← e0] at hp hs
    have hsz : d'.size = xs.toArray.size := hp.1
    have hp' := permIn_perm hp
    rw [← hsz] at hs
    have hs' := sorted_pair hs
    refine ⟨_, rfl, St.mkExi d'.toList (St.unsep (St.addPur ⟨rfl, by simpa using hp', hs'.imp fun h => ?_⟩ (St.sortedK hw (by simpa using hsz) n os)))⟩
    simpa [ltOf] using h
end
end Go.Vc
/-
  The calculus, part 23: pairs of numbers; the pairs of blocks.
-/
namespace Go.Vc
open Go Go.RowKit
def P2C : Cod (Int × Int) := ⟨2, fun p => [.int .i64 p.1, .int .i64 p.2], by decide, fun _ => rfl, fun _ u hu => by simp at hu; rcases hu with rfl | rfl <;> rfl⟩
def P2v (p : Int × Int) : Value := .agg #[.int .i64 p.1, .int .i64 p.2]
section
variable {P : Program} {w0 w : World} {H : List Assn} {σ : Sig} {o : Oper}
theorem run_eq2 {T E : TypeId} (hT : P.underlying T = some (.array 2 E)) (hE : P.underlying E = some (.int .i64)) (hs : Sz P E 1) (a b : Int × Int) (d : Nat) (w : World) : (Op.equalIn (d + 1 + 1) T (P2v a) (P2v b)).run P w = .ok (decide (a = b)) w := by
  obtain ⟨i, hi, hsz⟩ := Option.map_eq_some_iff.1 hs
  have hc : P.cellsOf E = 1 := by simp [Program.cellsOf, hi, hsz]
  unfold P2v
  rw [run_equalIn_array w (d + 1) _ _ hT hi, hc]
  have r : List.range 2 = [0, 1] := rfl
  have e0 : ∀ x y : Value, (part E #[x, y] 0).run P w = .ok x w := fun x y => run_part_int hE _ _ _ rfl
  have e1 : ∀ x y : Value, (part E #[x, y] 1).run P w = .ok y w := fun x y => run_part_int hE _ _ _ rfl
  have q : ∀ x y : Int, (Op.equalIn (d + 1) E (.int .i64 x) (.int .i64 y)).run P w = .ok (x == y) w := fun x y => run_equalIn_int w d E .i64 .i64 x y hE
  obtain ⟨a1, a2⟩ := a
  obtain ⟨b1, b2⟩ := b
  rw [r]
  simp only [Op.eqItems, Sem.run_bind, Nat.zero_mul, Nat.one_mul, e0, e1, q, Result.andThen_ok]
  by_cases h1 : a1 = b1
  · subst h1
    by_cases h2 : a2 = b2
    · subst h2; simp [e0, e1, q]
    · simp [h2, e0, e1, q]
  · simp [h1, e0, e1, q]
theorem guard2 {T : TypeId} {op : BinOp} {x y : Operand} {a b : Int × Int} (hg : P.eqGuardType P.depth T = false) : (eqGuard op T x y (P2v a) (P2v b)).run P w = .ok () w := by
  unfold P2v
  exact run_eqGuard_agg w op T x y _ _ hg
theorem Pu.eqlP2 {T T2 E : TypeId} {x y : Operand} {a b : Int × Int} (hT : P.underlying T = some (.array 2 E)) (hE : P.underlying E = some (.int .i64)) (hs : Sz P E 1) (hg : P.eqGuardType P.depth T = false) (ho : o.op = .binOp .eql T x y T2) (hx : ev σ x = some (P2v a)) (hy : ev σ y = some (P2v b)) : Pu P w0 o σ H (.bool (decide (a = b))) := by
  intro w hw ac ha
  have h1 := ha x (by simp [ho, Op.operands]) _ hx
  have h2 := ha y (by simp [ho, Op.operands]) _ hy
  have hb : (Go.binOp .eql T (P2v a) (P2v b)).run P w = .ok (.bool (decide (a = b))) w := by
    have := run_eq2 hT hE hs a b 9998 w
    unfold P2v at *
    rw [run_eql_struct, show (10000 : Nat) = 9998 + 1 + 1 from rfl, this]
    rfl
  simp only [execOp, ho, h1, h2, Sem.run_bind, guard2 hg, hb, Result.andThen_ok, Sem.run_pure]
theorem Pu.neqP2 {T T2 E : TypeId} {x y : Operand} {a b : Int × Int} (hT : P.underlying T = some (.array 2 E)) (hE : P.underlying E = some (.int .i64)) (hs : Sz P E 1) (hg : P.eqGuardType P.depth T = false) (ho : o.op = .binOp .neq T x y T2) (hx : ev σ x = some (P2v a)) (hy : ev σ y = some (P2v b)) : Pu P w0 o σ H (.bool (!decide (a = b))) := by
  intro w hw ac ha
  have h1 := ha x (by simp [ho, Op.operands]) _ hx
  have h2 := ha y (by simp [ho, Op.operands]) _ hy
  have hb : (Go.binOp .neq T (P2v a) (P2v b)).run P w = .ok (.bool (!decide (a = b))) w := by
    have := run_eq2 hT hE hs a b 9998 w
    unfold P2v at *
    rw [run_neq_struct, show (10000 : Nat) = 9998 + 1 + 1 from rfl, this]
    rfl
  simp only [execOp, ho, h1, h2, Sem.run_bind, guard2 hg, hb, Result.andThen_ok, Sem.run_pure]
end
/-! ### The pairs of blocks -/
def ltP (p q : Int × Int) : Prop := p.1 < q.1 ∨ (p.1 = q.1 ∧ p.2 < q.2)
instance (p q : Int × Int) : Decidable (ltP p q) := inferInstanceAs (Decidable (_ ∨ _))
def leP (p q : Int × Int) : Prop := ¬ ltP q p
theorem cmpL_p2 (p q : Int × Int) : cmpL [p.1, p.2] [q.1, q.2] < 0 ↔ ltP p q := by
  simp only [cmpL, ltP]
  (repeat' split) <;> omega
theorem swoP : Go.Sort.SWO (Go.Proofs.ltOf fun x y : Int × Int => cmpL [x.1, x.2] [y.1, y.2]) := by
  have e : ∀ x y : Int × Int, Go.Proofs.ltOf (fun x y : Int × Int => cmpL [x.1, x.2] [y.1, y.2]) x y = decide (ltP x y) := fun x y => by
    unfold Go.Proofs.ltOf
    exact decide_eq_decide.2 (cmpL_p2 x y)
  refine ⟨fun x => ?_, fun x y z h1 h2 => ?_, fun x y z h1 h2 => ?_⟩
  · rw [e]; exact decide_eq_false (by unfold ltP; omega)
  · rw [e] at *
    simp only [decide_eq_true_eq] at *
    unfold ltP at *
    omega
  · rw [e] at *
    simp only [decide_eq_false_iff_not] at *
    unfold ltP at *
    omega
def SrtP (l : List (Int × Int)) : Prop := l.Pairwise leP
theorem srtP_of {ys : List (Int × Int)} (h : ys.Pairwise fun x y => ¬ cmpL [y.1, y.2] [x.1, x.2] < 0) : SrtP ys := h.imp fun {a b} h => by
  unfold leP
  rwa [cmpL_p2] at h
theorem srtP_unique {a b : List (Int × Int)} (ha : SrtP a) (hb : SrtP b) (hp : a.Perm b) : a = b :=
  hp.eq_of_pairwise (fun x y _ _ h1 h2 => by
    obtain ⟨x1, x2⟩ := x
    obtain ⟨y1, y2⟩ := y
    unfold leP ltP at *
    simp only at *
    rw [Prod.mk.injEq]
    omega) ha hb
def prsB (bs : List B3) : List (Int × Int) := bs.flatMap fun b => [(b.1, b.2.1), (b.1, b.2.2), (b.2.1, b.2.2)]
theorem prsB_snoc (bs : List B3) (b : B3) : prsB (bs ++ [b]) = prsB bs ++ [(b.1, b.2.1), (b.1, b.2.2), (b.2.1, b.2.2)] := by simp [prsB]
theorem prsB_len (bs : List B3) : (prsB bs).length = 3 * bs.length := by
  unfold prsB
  induction bs with
  | nil => rfl
  | cons b bs ih => rw [List.flatMap_cons, List.length_append, ih]; simp; omega
theorem mem_prsB {bs : List B3} {p : Int × Int} : p ∈ prsB bs ↔ ∃ b ∈ bs, p = (b.1, b.2.1) ∨ p = (b.1, b.2.2) ∨ p = (b.2.1, b.2.2) := by
  unfold prsB
  simp [List.mem_flatMap]
section
variable {v : Nat} {bs cs : List B3}
theorem prsB_mem (h : STS (v : Int) bs) {x y : Nat} (hxy : x < y) : ((x : Int), (y : Int)) ∈ prsB bs ↔ ∃ d ∈ bs, has d x ∧ has d y := by
  rw [mem_prsB]
  constructor
  · rintro ⟨b, hb, h1⟩
    refine ⟨b, hb, ?_⟩
    unfold has
    rcases h1 with h1 | h1 | h1 <;> (simp only [Prod.mk.injEq] at h1; omega)
  · rintro ⟨b, hb, h1, h2⟩
    refine ⟨b, hb, ?_⟩
    have hg := h.good b hb
    unfold good at hg
    unfold has at h1 h2
    simp only [Prod.mk.injEq]
    omega
theorem prsB_in (h : STS (v : Int) bs) {p : Int × Int} (hp : p ∈ prsB bs) : ∃ x y : Nat, p = ((x : Int), (y : Int)) ∧ x < y ∧ y < v := by
  obtain ⟨b, hb, h1⟩ := mem_prsB.1 hp
  have hg := h.good b hb
  unfold good at hg
  refine ⟨p.1.toNat, p.2.toNat, ?_, ?_, ?_⟩
  all_goals rcases h1 with rfl | rfl | rfl
  all_goals first | (simp only [Prod.mk.injEq]; omega) | (simp only; omega)
theorem prsB_nodup (hv : v ≤ 15) (h : STS (v : Int) bs) : (prsB bs).Nodup := by
  have hr := sts_rest h
  unfold prsB
  unfold List.Nodup
  rw [List.flatMap_def, List.pairwise_flatten]
  constructor
  · intro l hl
    obtain ⟨b, hb, rfl⟩ := List.mem_map.1 hl
    have hg := h.good b hb
    unfold good at hg
    simp only [List.pairwise_cons, List.mem_cons, List.not_mem_nil, or_false, forall_eq_or_imp, forall_eq, ne_eq, Prod.mk.injEq, List.Pairwise.nil, and_true]
    refine ⟨⟨?_, ?_⟩, ?_, ?_⟩ <;> first | omega | (intro _ h; cases h)
  · rw [List.pairwise_map]
    refine List.Pairwise.imp_of_mem ?_ hr.fit
    intro a b ha hb hc
    have hga := h.good a ha
    have hgb := h.good b hb
    rw [common_le hga.three] at hc
    unfold good at hga hgb
    unfold has at hc
    intro p h1 q h2 e
    subst e
    simp only [List.mem_cons, List.not_mem_nil, or_false] at h1 h2
    rcases h1 with rfl | rfl | rfl <;> simp only [Prod.mk.injEq] at h2 <;> omega
/-- The same pairs. -/
theorem same_pairs (hv : v ≤ 15) (h : STS (v : Int) bs) (g : STS (v : Int) cs) : (prsB bs).Perm (prsB cs) ↔ ∀ x y : Nat, x < y → y < v → usd (maskB 0 bs) x y = usd (maskB 0 cs) x y := by
  rw [List.perm_ext_iff_of_nodup (prsB_nodup hv h) (prsB_nodup hv g)]
  have hu : ∀ {ds : List B3}, STS (v : Int) ds → ∀ x y : Nat, x < y → y < v → (usd (maskB 0 ds) x y = true ↔ ((x : Int), (y : Int)) ∈ prsB ds) := fun hd x y h1 h2 => by
    rw [usd_mask _ 0 hv (sts_rest hd).ok x y h1 h2, prsB_mem hd h1, usd_zero]
    simp
  constructor
  · intro hm x y h1 h2
    have e := hm ((x : Int), (y : Int))
    rw [← hu h x y h1 h2, ← hu g x y h1 h2] at e
    cases ha : usd (maskB 0 bs) x y <;> cases hb : usd (maskB 0 cs) x y <;> simp_all
  · intro hm p
    constructor
    · intro hp
      obtain ⟨x, y, rfl, h1, h2⟩ := prsB_in h hp
      rw [← hu g x y h1 h2, ← hm x y h1 h2, hu h x y h1 h2]
      exact hp
    · intro hp
      obtain ⟨x, y, rfl, h1, h2⟩ := prsB_in g hp
      rw [← hu h x y h1 h2, hm x y h1 h2, hu g x y h1 h2]
      exact hp
end
end Go.Vc
namespace Go.Vc
/-- Which numbers of pairs are in some blocks. -/
def usedK (n : Nat) (bs : List B3) : List Bool := (List.range n).map fun k => decide (∃ p ∈ prsB bs, prI p.1.toNat p.2.toNat = k)
theorem usedK_len (n : Nat) (bs : List B3) : (usedK n bs).length = n := by simp [usedK]
theorem usedK_nil (n : Nat) : usedK n [] = List.replicate n false := by
  apply List.ext_getElem
  · simp [usedK]
  · intro k h1 h2
    simp [usedK, prsB]
theorem usedK_snoc (n : Nat) (bs : List B3) (b : B3) : usedK n (bs ++ [b]) = (((usedK n bs).set (prI b.1.toNat b.2.1.toNat) true).set (prI b.1.toNat b.2.2.toNat) true).set (prI b.2.1.toNat b.2.2.toNat) true := by
  apply List.ext_getElem
  · simp [usedK]
  · intro k h1 h2
    simp only [List.getElem_set]
    simp only [usedK, List.getElem_map, List.getElem_range]
    have key : (∃ p ∈ prsB (bs ++ [b]), prI p.1.toNat p.2.toNat = k) ↔ (prI b.2.1.toNat b.2.2.toNat = k ∨ prI b.1.toNat b.2.2.toNat = k ∨ prI b.1.toNat b.2.1.toNat = k ∨ ∃ p ∈ prsB bs, prI p.1.toNat p.2.toNat = k) := by
      rw [prsB_snoc]
      simp only [List.mem_append, List.mem_cons, List.not_mem_nil, or_false]
      constructor
      · rintro ⟨p, h | rfl | rfl | rfl, e⟩
        · exact .inr (.inr (.inr ⟨p, h, e⟩))
        · exact .inr (.inr (.inl e))
        · exact .inr (.inl e)
        · exact .inl e
      · rintro (e | e | e | ⟨p, h, e⟩)
        · exact ⟨_, .inr (.inr (.inr rfl)), e⟩
        · exact ⟨_, .inr (.inr (.inl rfl)), e⟩
        · exact ⟨_, .inr (.inl rfl), e⟩
        · exact ⟨p, .inl h, e⟩
    by_cases e1 : prI b.2.1.toNat b.2.2.toNat = k
    · rw [if_pos e1]; exact decide_eq_true (key.2 (.inl e1))
    · rw [if_neg e1]
      by_cases e2 : prI b.1.toNat b.2.2.toNat = k
      · rw [if_pos e2]; exact decide_eq_true (key.2 (.inr (.inl e2)))
      · rw [if_neg e2]
        by_cases e3 : prI b.1.toNat b.2.1.toNat = k
        · rw [if_pos e3]; exact decide_eq_true (key.2 (.inr (.inr (.inl e3))))
        · rw [if_neg e3]
          refine decide_eq_decide.2 (key.trans ⟨fun h => ?_, fun h => .inr (.inr (.inr h))⟩)
          rcases h with h | h | h | h
          · exact absurd h e1
          · exact absurd h e2
          · exact absurd h e3
          · exact h
def usedL (bs : List B3) : List Bool := usedK 256 bs
theorem usedL_len (bs : List B3) : (usedL bs).length = 256 := usedK_len 256 bs
theorem usedL_nil : usedL [] = List.replicate 256 false := usedK_nil 256
theorem usedL_snoc (bs : List B3) (b : B3) : usedL (bs ++ [b]) = (((usedL bs).set (prI b.1.toNat b.2.1.toNat) true).set (prI b.1.toNat b.2.2.toNat) true).set (prI b.2.1.toNat b.2.2.toNat) true := usedK_snoc 256 bs b
theorem usedK_at {n : Nat} {bs : List B3} {k : Nat} (hk : k < n) : (usedK n bs)[k]? = some true ↔ ∃ p ∈ prsB bs, prI p.1.toNat p.2.toNat = k := by
  simp only [usedK, List.getElem?_map, List.getElem?_range hk, Option.map_some, Option.some.injEq, decide_eq_true_eq]
theorem usedK_congr {n : Nat} {bs cs : List B3} (h : ∀ p, p ∈ prsB bs ↔ p ∈ prsB cs) : usedK n bs = usedK n cs := by
  unfold usedK
  apply List.map_congr_left
  intro k _
  exact decide_eq_decide.2 ⟨fun ⟨p, hp, e⟩ => ⟨p, (h p).1 hp, e⟩, fun ⟨p, hp, e⟩ => ⟨p, (h p).2 hp, e⟩⟩
theorem usedL_iff {v : Nat} {bs cs : List B3} (hv : v ≤ 15) (h : STS (v : Int) bs) (g : STS (v : Int) cs) : usedL bs = usedL cs ↔ (prsB bs).Perm (prsB cs) := by
  rw [List.perm_ext_iff_of_nodup (prsB_nodup hv h) (prsB_nodup hv g)]
  have at_ : ∀ (ds : List B3), STS (v : Int) ds → ∀ x y : Nat, x < y → y < v → (((x : Int), (y : Int)) ∈ prsB ds ↔ (usedL ds)[prI x y]? = some true) := by
    intro ds hd x y hx hy
    have hl : prI x y < 256 := prI_lt (by omega) (by omega)
    rw [show usedL ds = usedK 256 ds from rfl, usedK_at hl]
    constructor
    · intro hp; exact ⟨_, hp, by simp⟩
    · rintro ⟨p, hp, e⟩
      obtain ⟨a, b, rfl, hab, hb⟩ := prsB_in hd hp
      simp only [Int.toNat_natCast] at e
      rcases prI_inj (by omega) (by omega) (by omega) (by omega) e with ⟨rfl, rfl⟩ | ⟨rfl, rfl⟩
      · exact hp
      · omega
  constructor
  · intro e p
    constructor
    · intro hp
      obtain ⟨x, y, rfl, hx, hy⟩ := prsB_in h hp
      rw [at_ cs g x y hx hy, ← e, ← at_ bs h x y hx hy]
      exact hp
    · intro hp
      obtain ⟨x, y, rfl, hx, hy⟩ := prsB_in g hp
      rw [at_ bs h x y hx hy, e, ← at_ cs g x y hx hy]
      exact hp
  · intro hm
    exact usedK_congr hm
/-- A trade. -/
def TRD (v : Int) (os ns : List B3) : Prop := STS v os ∧ STS v ns ∧ (∀ b ∈ os, b ∉ ns) ∧ (prsB os).Perm (prsB ns)
noncomputable instance (v : Int) (os ns : List B3) : Decidable (TRD v os ns) := Classical.propDecidable _
/-- The first n numbers that are points of blocks. -/
def ptsB (os : List B3) (n : Nat) : List Int := ((List.range n).filter fun p : Nat => decide (∃ b ∈ os, has b (p : Int))).map fun p : Nat => (p : Int)
theorem ptsB_yes {os : List B3} {n : Nat} (h : ∃ b ∈ os, has b (n : Int)) : ptsB os (n + 1) = ptsB os n ++ [(n : Int)] := by
  unfold ptsB
  rw [List.range_succ, List.filter_append, List.map_append]
  simp only [List.filter_cons, List.filter_nil, decide_eq_true h, if_true, List.map_cons, List.map_nil]
theorem ptsB_no {os : List B3} {n : Nat} (h : ¬ ∃ b ∈ os, has b (n : Int)) : ptsB os (n + 1) = ptsB os n := by
  unfold ptsB
  rw [List.range_succ, List.filter_append, List.map_append]
  simp only [List.filter_cons, List.filter_nil, decide_eq_false h]
  simp
theorem ptsB_len {os : List B3} {n : Nat} : (ptsB os n).length ≤ n := by
  unfold ptsB
  rw [List.length_map]
  exact Nat.le_trans (List.length_filter_le _ _) (by simp)
/-- What both PointsOfTrade return. -/
def PTR (v : Int) (os ns : List B3) (o : List Int) : Prop := (TRD v os ns → o = ptsB os v.toNat) ∧ (¬ TRD v os ns → o = [])
theorem PTR.unique {v : Int} {os ns : List B3} {a b : List Int} (h : PTR v os ns a) (g : PTR v os ns b) : a = b := by
  by_cases ht : TRD v os ns
  · rw [h.1 ht, g.1 ht]
  · rw [h.2 ht, g.2 ht]
theorem PTR.len {v : Int} {os ns : List B3} {a : List Int} (h : PTR v os ns a) : a.length ≤ 15 := by
  by_cases ht : TRD v os ns
  · rw [h.1 ht]
    have := ptsB_len (os := os) (n := v.toNat)
    have := ht.1.hi
    omega
  · rw [h.2 ht]; simp
end Go.Vc
