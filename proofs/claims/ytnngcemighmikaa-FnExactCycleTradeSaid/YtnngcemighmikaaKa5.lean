/-
  The calculus and plain words, part 5.
-/
import Derived.Test.YtnngcemighmikaaKa4
set_option linter.unusedVariables false
set_option linter.unusedSimpArgs false
/-
  The calculus, part 14: a search for completions that hands them on.
-/
namespace Go.Vc
open Go Go.RowKit
section
variable {P : Program} {N : Nat} {w0 : World} {Q : Exit → Act → World → Prop} {σ : Sig} {H H' : List Assn} {ops : Array Oper} {rest : List Oper}
/-- A search: the completer's cells, its grid, its list; what has been handed on, l. -/
def CompK (T eT gT : TypeId) (cb gb v : Nat) (f : Value) (E : List (List B3) → Assn) (m : Nat) (xs : List B3) (l : List (List B3)) : Assn :=
  .exi fun q : (Option Addr × Nat) × (Int → Int → Int) => .sep (.pur (Rel v q.2 m)) (.sep (Blk cb [.int .i64 (v : Int), .pointer (some ⟨gb, 0, none⟩), .slice q.1.1 xs.length q.1.2, f] T) (.sep (Grid gb q.2 gT) (.sep (Own eT B3C q.1.1 q.1.2 xs) (E l))))
variable {T eT gT : TypeId} {cb gb v m : Nat} {f : Value} {E : List (List B3) → Assn} {xs : List B3} {l : List (List B3)}
theorem V.compK {c : Code} (h : ∀ A k G, Rel v G m → V P N w0 c Q σ (Blk cb [.int .i64 (v : Int), .pointer (some ⟨gb, 0, none⟩), .slice A xs.length k, f] T :: Grid gb G gT :: Own eT B3C A k xs :: E l :: H)) : V P N w0 c Q σ (CompK T eT gT cb gb v f E m xs l :: H) := by
  intro w hw
  obtain ⟨q, hw⟩ := hw.exi
  have h1 := hw.sep.pur
  exact h _ _ _ h1.1 w (by
    have h2 := h1.2.sep
    have h3 := (h2.perm (List.Perm.swap _ _ _)).sep
    have h4 := (h3.sub (Sub.keep 1 rfl (Sub.keep 0 rfl (Sub.refl _)))).perm (List.Perm.refl _)
    have h5 := (h3.perm (List.Perm.swap _ _ _)).sep
    exact (h5.sub (Sub.keep 3 rfl (Sub.keep 2 rfl (Sub.keep 0 rfl (Sub.keep 0 rfl (Sub.refl _)))))))
theorem X.compK {e : Exit} (h : ∀ A k G, Rel v G m → X N w0 Q e σ (Blk cb [.int .i64 (v : Int), .pointer (some ⟨gb, 0, none⟩), .slice A xs.length k, f] T :: Grid gb G gT :: Own eT B3C A k xs :: E l :: H)) : X N w0 Q e σ (CompK T eT gT cb gb v f E m xs l :: H) := by
  intro w hw
  obtain ⟨q, hw⟩ := hw.exi
  have h1 := hw.sep.pur
  exact h _ _ _ h1.1 w (by
    have h2 := h1.2.sep
    have h3 := (h2.perm (List.Perm.swap _ _ _)).sep
    have h5 := (h3.perm (List.Perm.swap _ _ _)).sep
    exact (h5.sub (Sub.keep 3 rfl (Sub.keep 2 rfl (Sub.keep 0 rfl (Sub.keep 0 rfl (Sub.refl _)))))))
theorem CompK.mk {A : Option Addr} {k : Nat} {G : Int → Int → Int} (hr : Rel v G m) {w : World} (hw : St w0 (Blk cb [.int .i64 (v : Int), .pointer (some ⟨gb, 0, none⟩), .slice A xs.length k, f] T :: Grid gb G gT :: Own eT B3C A k xs :: E l :: H) w) : St w0 (CompK T eT gT cb gb v f E m xs l :: H) w := by
  refine St.mkExi ((A, k), G) (St.unsep (St.addPur hr ?_))
  have h1 : St w0 (Own eT B3C A k xs :: E l :: Grid gb G gT :: Blk cb [.int .i64 (v : Int), .pointer (some ⟨gb, 0, none⟩), .slice A xs.length k, f] T :: H) w := hw.sub (Sub.keep 2 rfl (Sub.keep 2 rfl (Sub.keep 1 rfl (Sub.keep 0 rfl (Sub.refl _)))))
  have h2 := (St.unsep h1).perm (List.Perm.swap _ _ _)
  have h3 := (St.unsep h2).perm (List.Perm.swap _ _ _)
  exact St.unsep h3
theorem CompK.mk' {A : Option Addr} {k n : Nat} {b : B3} {G : Int → Int → Int} (hr : Rel v G m) (hn : n = xs.length) {w : World} (hw : St w0 (Blk cb [.int .i64 (v : Int), .pointer (some ⟨gb, 0, none⟩), .slice A n k, f] T :: Grid gb G gT :: Own eT B3C A k (xs ++ [b]) :: E l :: H) w) : St w0 (CompK T eT gT cb gb v f E m xs l :: H) w := by
  subst hn
  refine CompK.mk hr (hw.sub (Sub.keep 0 rfl (Sub.keep 0 rfl (Sub.cons 0 rfl (fun w F h => ?_) (Sub.refl _)))))
  have := Own.takeP xs.length w F h
  rwa [List.take_left'] at this
  rfl
/-- What a search calls with each completion. -/
def CallB (P : Program) (w0 : World) (eT : TypeId) (gf : Nat) (caps : Array Value) (E : List (List B3) → Assn) (cont : Nat → Bool) (okL : List B3 → Prop) (M : Nat) : Prop :=
  ∀ (l : List (List B3)) (xs : List B3) (A : Option Addr) (k : Nat) (H : List Assn), l.length < M → okL xs → Does P gf ([.slice A xs.length k] ++ caps.toList) w0 (Own eT B3C A k xs :: E l :: H) (fun r => [.sep (.pur (r = .bool (cont (l.length + 1)))) (.sep (Own eT B3C A k xs) (E (l ++ [xs])))] ++ H)
end
section
variable {v m a b c n p k M : Nat} {cont : Nat → Bool} {xs : List B3} {l : List (List B3)} {okL : List B3 → Prop}
theorem comp_some' (h : nextM v m = some (a, b)) (hn : 0 < n) : compM n v m = compJ (n - 1) v m a b v := by
  obtain ⟨k, rfl⟩ : ∃ k, n = k + 1 := ⟨n - 1, by omega⟩
  exact compM_some h
theorem left_pos (h : IsNext v m a b) (hn : leftN v m ≤ n) : 0 < n := by
  apply Decidable.byContradiction
  intro h0
  have h1 := leftN_zero (v := v) (m := m) (by omega) a b h.ab h.bv
  rw [h.left] at h1
  cases h1
theorem compM_len : ∀ n v m (q : List B3), q ∈ compM n v m → q.length ≤ n := by
  intro n
  induction n with
  | zero =>
    intro v m q hq
    unfold compM at hq
    split at hq
    · simp at hq; subst hq; simp
    · simp at hq
  | succ n ih =>
    intro v m q hq
    unfold compM at hq
    split at hq
    · simp at hq; subst hq; simp
    · obtain ⟨c, hc, h1⟩ := List.mem_flatMap.1 hq
      split at h1
      · obtain ⟨r, hr, rfl⟩ := List.mem_map.1 h1
        have := ih _ _ _ hr
        simp only [List.length_cons]
        omega
      · simp at h1
theorem leaf_nil_len {q : List B3} (h : q ∈ leaf [] (compM n v m)) : q.length ≤ n := by
  have : q ∈ compM n v m := by simpa [leaf] using h
  exact compM_len n v m q this
theorem fitsAt_nil : fitsAt ([] : List B3) ([] : List B3).length := fitsAt_zero []
theorem leaf_none (h : nextM v m = none) : leaf xs (compM n v m) = [xs] := by rw [compM_none h]; simp [leaf]
theorem runC_one {α : Type} {x : α} : runC cont k [x] = [x] := by unfold runC; split <;> rfl
theorem goesC_one {α : Type} {x : α} : goesC cont k [x] = cont (k + 1) := by simp [goesC]
theorem runC_pre {α : Type} {l r : List α} : (runC cont k l).length ≤ (runC cont k (l ++ r)).length := by
  cases h : goesC cont k l with
  | true => rw [runC_append h, runC_all h, List.length_append]; omega
  | false => rw [runC_stop h]; omega
theorem leaf_step (hm : may m a b p = true) : leaf xs (compJ n v m a b (p + 1)) = leaf xs (compJ n v m a b p) ++ leaf (xs ++ [b3N a b p]) (compM n v (putM m a b p)) := by
  rw [compJ_yes hm, leaf_append, leaf_cons]
theorem leaf_pre {i : Nat} (h : i ≤ c) : ∃ r, leaf xs (compJ n v m a b c) = leaf xs (compJ n v m a b i) ++ r := by
  obtain ⟨r, hr⟩ := compJ_prefix (n := n) (v := v) (m := m) (a := a) (b := b) h
  exact ⟨leaf xs r, by rw [← leaf_append, hr]⟩
theorem step_M (hgo : goesC cont k (leaf xs (compJ n v m a b p)) = true) (hm : may m a b p = true) (hp : p < v) (hM : k + (runC cont k (leaf xs (compJ n v m a b v))).length ≤ M) :
    (l ++ leaf xs (compJ n v m a b p)).length + (runC cont (k + (leaf xs (compJ n v m a b p)).length) (leaf (xs ++ [b3N a b p]) (compM n v (putM m a b p)))).length ≤ M + l.length - k ∨ l.length < k := by
  by_cases hk : l.length < k
  · exact .inr hk
  · refine .inl ?_
    obtain ⟨r, hr⟩ := leaf_pre (xs := xs) (n := n) (v := v) (m := m) (a := a) (b := b) (i := p + 1) (c := v) (by omega)
    have h1 := runC_pre (cont := cont) (k := k) (l := leaf xs (compJ n v m a b (p + 1))) (r := r)
    rw [← hr] at h1
    rw [leaf_step hm, runC_append hgo, List.length_append] at h1
    rw [List.length_append]
    omega
theorem step_M2 {l2 : List (List B3)} (hgo : goesC cont l.length (leaf xs (compJ n v m a b p)) = true) (hm : may m a b p = true) (hp : p < v) (hM : l.length + (runC cont l.length (leaf xs (compJ n v m a b v))).length ≤ M) (hl : l2 = l ++ leaf xs (compJ n v m a b p)) :
    l2.length + (runC cont l2.length (leaf (xs ++ [b3N a b p]) (compM n v (putM m a b p)))).length ≤ M := by
  have h := step_M (l := l) (M := M) hgo hm hp hM
  rw [hl, List.length_append] at *
  rcases h with h | h <;> omega
theorem step_go (hgo : goesC cont k (leaf xs (compJ n v m a b p)) = true) (hm : may m a b p = true) (h : goesC cont (k + (leaf xs (compJ n v m a b p)).length) (leaf (xs ++ [b3N a b p]) (compM n v (putM m a b p))) = true) :
    goesC cont k (leaf xs (compJ n v m a b (p + 1))) = true := by
  rw [leaf_step hm, goesC_append, hgo, h]; rfl
theorem step_stop (hgo : goesC cont k (leaf xs (compJ n v m a b p)) = true) (hm : may m a b p = true) (hp : p < v) (h : ¬ goesC cont (k + (leaf xs (compJ n v m a b p)).length) (leaf (xs ++ [b3N a b p]) (compM n v (putM m a b p))) = true) :
    goesC cont k (leaf xs (compJ n v m a b v)) = false ∧ runC cont k (leaf xs (compJ n v m a b v)) = leaf xs (compJ n v m a b p) ++ runC cont (k + (leaf xs (compJ n v m a b p)).length) (leaf (xs ++ [b3N a b p]) (compM n v (putM m a b p))) := by
  obtain ⟨r, hr⟩ := leaf_pre (xs := xs) (n := n) (v := v) (m := m) (a := a) (b := b) (i := p + 1) (c := v) (by omega)
  have h1 : goesC cont k (leaf xs (compJ n v m a b (p + 1))) = false := by
    rw [leaf_step hm, goesC_append, hgo, Bool.true_and]
    cases hh : goesC cont (k + (leaf xs (compJ n v m a b p)).length) (leaf (xs ++ [b3N a b p]) (compM n v (putM m a b p))) with
    | true => exact absurd hh h
    | false => rfl
  rw [hr]
  refine ⟨goesC_stop h1, ?_⟩
  rw [runC_stop h1, leaf_step hm, runC_append hgo]
theorem step_ok (hm : may m a b p = true) (hp : p < v) (h : ∀ q ∈ leaf xs (compJ n v m a b v), okL q) : ∀ q ∈ leaf (xs ++ [b3N a b p]) (compM n v (putM m a b p)), okL q := by
  intro q hq
  obtain ⟨r, hr⟩ := leaf_pre (xs := xs) (n := n) (v := v) (m := m) (a := a) (b := b) (i := p + 1) (c := v) (by omega)
  refine h q ?_
  rw [hr, leaf_step hm]
  simp [hq]
end
end Go.Vc
/-
  The calculus, part 15: arrays and structs that are built.
-/
namespace Go.Vc
open Go Go.RowKit
section
variable {P : Program} {N : Nat} {w0 : World} {Q : Exit → Act → World → Prop} {σ σ' : Sig} {H H' : List Assn} {ops : Array Oper} {o : Oper}
theorem parts_eval {a : Act} {parts : Array (Nat × Operand)} {vs : List Value} (h2 : (parts.toList.map (·.2)).map a.eval = vs) : (parts.map fun (i, x) => (i, a.eval x)).toList = (parts.toList.map (·.1)).zip vs := by
  rw [← h2, Array.toList_map]
  generalize parts.toList = l
  induction l with
  | nil => rfl
  | cons p l ih => simp [ih]
theorem Pu.buildA {T e n sz : Nat} {parts : Array (Nat × Operand)} {vs cs : List Value} {z v : Value} (hv : v = .agg cs.toArray) (ho : o.op = .build T parts) (hT : P.underlying T = some (.array n e)) (hz : Zr P T z) (hs : Sz P e sz)
    (hx : evs σ (parts.toList.map (·.2)) = some vs) (hf : Instr.fill (fun i => some (i * sz, sz)) z.cells ((parts.toList.map (·.1)).zip vs) = some cs.toArray) : Pu P w0 o σ H v := by
  subst hv
  intro w hw a ha
  have h2 := evs_map (a := a) (fun x hx v hv => ha x (by simpa [ho, Op.operands] using hx) v hv) hx
  have hp := parts_eval h2
  simp only [execOp, ho, Instr.build, Sem.run_bind, run_zr hz, Result.andThen_ok, run_underlying hT, run_sz hs, hp, hf, Sem.run_pure]
def szOf (P : Program) (t : Nat) : Nat := ((P.info? t).map (·.size)).getD 0
def placesOf (P : Program) (fs : List Field) : List (Nat × Nat) := fs.map fun f => (f.offset, szOf P f.type)
def knownB (P : Program) (fs : List Field) : Bool := fs.all fun f => (P.info? f.type).isSome
theorem run_mapM {α β : Type} {f : α → Sem β} {g : α → β} {w : World} (l : Array α) (h : ∀ x, x ∈ l → (f x).run P w = .ok (g x) w) : (l.mapM f).run P w = .ok (l.toList.map g).toArray w := by
  obtain ⟨l⟩ := l
  rw [List.mapM_toArray, map_eq_pure_bind]
  have key : ∀ l : List α, (∀ x, x ∈ l → (f x).run P w = .ok (g x) w) → (l.mapM f).run P w = .ok (l.map g) w := by
    intro l
    induction l with
    | nil => intro _; rfl
    | cons x l ih =>
      intro h
      rw [List.mapM_cons]
      simp only [Sem.run_bind, h x (by simp), Result.andThen_ok, ih (fun y hy => h y (by simp [hy])), Sem.run_pure, List.map_cons]
  simp only [Sem.run_bind, key l (fun x hx => h x (by simpa using hx)), Result.andThen_ok, Sem.run_pure]
theorem Pu.buildS {T : Nat} {fields : Array Field} {parts : Array (Nat × Operand)} {vs cs : List Value} {z v : Value} (hv : v = .agg cs.toArray) (ho : o.op = .build T parts) (hT : P.underlying T = some (.struct fields)) (hz : Zr P T z) (hk : knownB P fields.toList = true)
    (hx : evs σ (parts.toList.map (·.2)) = some vs) (hf : Instr.fill (fun i => (placesOf P fields.toList).toArray[i]?) z.cells ((parts.toList.map (·.1)).zip vs) = some cs.toArray) : Pu P w0 o σ H v := by
  subst hv
  intro w hw a ha
  have h2 := evs_map (a := a) (fun x hx v hv => ha x (by simpa [ho, Op.operands] using hx) v hv) hx
  have hp := parts_eval h2
  have hm := run_mapM (P := P) (w := w) (f := fun f : Field => (do pure (f.offset, ← sizeOf f.type) : Sem (Nat × Nat))) (g := fun f => (f.offset, szOf P f.type)) fields (fun x hx => by
    have h3 := List.all_eq_true.1 hk x (by simpa using hx)
    obtain ⟨i, hi⟩ := Option.isSome_iff_exists.1 h3
    have hs : Sz P x.type (szOf P x.type) := by unfold Sz szOf; rw [hi]; rfl
    simp only [Sem.run_bind, run_sz hs, Result.andThen_ok, Sem.run_pure])
  have hm' : (fields.mapM fun f => (do pure (f.offset, ← sizeOf f.type) : Sem (Nat × Nat))).run P w = .ok (placesOf P fields.toList).toArray w := hm
  simp only [execOp, ho, Instr.build, Sem.run_bind, run_zr hz, Result.andThen_ok, run_underlying hT, hm', hp, hf, Sem.run_pure]
end
end Go.Vc
/-
  The calculus, part 16: lists of systems with one number of points.
-/
namespace Go.Vc
open Go Go.RowKit
/-- A system with v points: the number and the slice of its blocks. -/
def SyC (v : Int) : Cod Sl := ⟨2, fun s => [.int .i64 v, s.v], by decide, fun _ => rfl, fun _ u hu => by simp at hu; rcases hu with rfl | rfl <;> rfl⟩
section
variable {P : Program} {N : Nat} {w0 w : World} {Q : Exit → Act → World → Prop} {σ : Sig} {H H' : List Assn} {ops : Array Oper} {rest : List Oper} {T : TypeId} {v : Int}
theorem Ld.rowY {A : Option Addr} {ps : List (Sl × List B3)} (hr : ∀ w, St w0 H w → Rd (SyC v) w A (tops ps)) (hn : LenOk ps) {k s : Nat} (hk : k < ps.length) (hs : s = 2) :
    ∀ w, St w0 H w → ∃ q, A.map (·.add (k * s)) = some q ∧ ∀ m u, ([.int .i64 v, .slice (ps[k]).1.A (ps[k]).2.length (ps[k]).1.c] : List Value)[m]? = some u → w.cell? (q.add m) = some u := by
  have hk' : k < (tops ps).length := by rw [tops_len]; exact hk
  intro w hw
  obtain ⟨q, h1, h2⟩ := Ld.rds (C := SyC v) hr hk' (s := s) hs w hw
  refine ⟨q, h1, fun m u hm => h2 m u ?_⟩
  have e : (tops ps)[k] = (ps[k]).1 := List.getElem_map ..
  rw [e]
  have h3 := (hn _ (List.getElem_mem hk)).1
  simp only [SyC, Sl.v, h3]
  exact hm
/-- A list of systems that is read. -/
structure RdY (v : Int) (w : World) (A : Option Addr) (ps : List (Sl × List B3)) : Prop where
  top : Rd (SyC v) w A (tops ps)
  len : LenOk ps
  row : ∀ k (hk : k < ps.length), Rd B3C w (ps[k]).1.A (ps[k]).2
theorem Ld.yy {T2 c : Nat} {A : Option Addr} {ps : List (Sl × List B3)} {H2 : List Assn} (i j : Nat) (hp : pull i H = some (Own T2 (SyC v) A c (tops ps), H')) (hq : pull j H = some (RowsA T B3C ps, H2)) : ∀ w, St w0 H w → RdY v w A ps :=
  fun w hw => ⟨Own.rd hw hp, RowsA.len j hq w hw, fun k hk => Ld.rows j hq hk w hw⟩
theorem RdY.st {A : Option Addr} {ps : List (Sl × List B3)} (h : RdY v w0 A ps) (hw : St w0 H w) : RdY v w A ps := ⟨h.top.st hw, h.len, fun k hk => (h.row k hk).st hw⟩
theorem RdY.below {A : Option Addr} {ps : List (Sl × List B3)} (h : RdY v w0 A ps) (hb : Bel w0.heap.size w0 w) : RdY v w A ps := ⟨h.top.below hb, h.len, fun k hk => (h.row k hk).below hb⟩
/-- A box with a list of systems, and a box with their number of points: what has come so far, l. -/
def SysE (sT bT lT iT : TypeId) (v : Int) (b0 b1 : Nat) (l : List (List B3)) : Assn :=
  .exi fun q : (Option Addr × Nat) × List (Sl × List B3) => .sep (.pur (conts q.2 = l)) (.sep (Blk b0 [.slice q.1.1 (tops q.2).length q.1.2] lT) (.sep (Blk b1 [.int .i64 v] iT) (.sep (Own sT (SyC v) q.1.1 q.1.2 (tops q.2)) (RowsA bT B3C q.2))))
variable {sT bT lT iT : TypeId} {b0 b1 : Nat} {l : List (List B3)}
theorem SysE.elim (hw : St w0 (SysE sT bT lT iT v b0 b1 l :: H) w) : ∃ A k ps, conts ps = l ∧ St w0 (Blk b0 [.slice A (tops ps).length k] lT :: Blk b1 [.int .i64 v] iT :: Own sT (SyC v) A k (tops ps) :: RowsA bT B3C ps :: H) w := by
  obtain ⟨q, hw⟩ := hw.exi
  have h1 := hw.sep.pur
  refine ⟨q.1.1, q.1.2, q.2, h1.1, ?_⟩
  have h2 := h1.2.sep
  have h3 := (h2.perm (List.Perm.swap _ _ _)).sep
  have h5 := (h3.perm (List.Perm.swap _ _ _)).sep
  exact (h5.sub (Sub.keep 3 rfl (Sub.keep 2 rfl (Sub.keep 0 rfl (Sub.keep 0 rfl (Sub.refl _))))))
theorem V.sysE {c : Code} (h : ∀ A k ps, conts ps = l → V P N w0 c Q σ (Blk b0 [.slice A (tops ps).length k] lT :: Blk b1 [.int .i64 v] iT :: Own sT (SyC v) A k (tops ps) :: RowsA bT B3C ps :: H)) : V P N w0 c Q σ (SysE sT bT lT iT v b0 b1 l :: H) := by
  intro w hw
  obtain ⟨A, k, ps, h1, h2⟩ := SysE.elim hw
  exact h A k ps h1 w h2
theorem O.sysE (h : ∀ A k ps, conts ps = l → O P N w0 ops Q rest σ (Blk b0 [.slice A (tops ps).length k] lT :: Blk b1 [.int .i64 v] iT :: Own sT (SyC v) A k (tops ps) :: RowsA bT B3C ps :: H)) : O P N w0 ops Q rest σ (SysE sT bT lT iT v b0 b1 l :: H) := by
  intro w hw
  obtain ⟨A, k, ps, h1, h2⟩ := SysE.elim hw
  exact h A k ps h1 w h2
theorem SysE.mk {A : Option Addr} {k : Nat} {ps : List (Sl × List B3)} (hl : conts ps = l) (hw : St w0 (Blk b0 [.slice A (tops ps).length k] lT :: Blk b1 [.int .i64 v] iT :: Own sT (SyC v) A k (tops ps) :: RowsA bT B3C ps :: H) w) : St w0 (SysE sT bT lT iT v b0 b1 l :: H) w := by
  refine St.mkExi ((A, k), ps) (St.unsep (St.addPur hl ?_))
  have h1 : St w0 (Own sT (SyC v) A k (tops ps) :: RowsA bT B3C ps :: Blk b1 [.int .i64 v] iT :: Blk b0 [.slice A (tops ps).length k] lT :: H) w := hw.sub (Sub.keep 2 rfl (Sub.keep 2 rfl (Sub.keep 1 rfl (Sub.keep 0 rfl (Sub.refl _)))))
  have h2 := (St.unsep h1).perm (List.Perm.swap _ _ _)
  have h3 := (St.unsep h2).perm (List.Perm.swap _ _ _)
  exact St.unsep h3
end
end Go.Vc
/-
  Plain words: completions are in order, and none lacks.
-/
namespace Go.Vc
theorem lt_trans3 {a b c : B3} (h1 : B3.lt a b) (h2 : B3.lt b c) : B3.lt a c := by unfold B3.lt at *; omega
theorem lt_asymm3 {a b : B3} (h1 : B3.lt a b) (h2 : B3.lt b a) : False := lt_irrefl a (lt_trans3 h1 h2)
section
variable {v m a b c n : Nat}
theorem next_cases (v m : Nat) : (∀ x y, x < y → y < v → usd m x y = true) ∨ ∃ a b, IsNext v m a b := by
  have key : ∀ k, k ≤ v → (∀ x y, x < k → x < y → y < v → usd m x y = true) ∨ ∃ a b, IsNext v m a b := by
    intro k
    induction k with
    | zero => intro _; exact .inl (fun x y h => by omega)
    | succ k ih =>
      intro hk
      rcases ih (by omega) with h | h
      · have key2 : ∀ j, j ≤ v → (∀ y, k < y → y < j → usd m k y = true) ∨ ∃ a b, IsNext v m a b := by
          intro j
          induction j with
          | zero => intro _; exact .inl (fun y _ h => by omega)
          | succ j ihj =>
            intro hj
            rcases ihj (by omega) with h1 | h1
            · by_cases hkj : k < j
              · cases hu : usd m k j with
                | true => exact .inl (fun y h2 h3 => by by_cases e : y = j; (· subst e; exact hu); (· exact h1 y h2 (by omega)))
                | false => exact .inr ⟨k, j, hkj, by omega, hu, h1, fun x y h2 h3 h4 => h x y h2 h3 h4⟩
              · exact .inl (fun y h2 h3 => by omega)
            · exact .inr h1
        rcases key2 v (Nat.le_refl _) with h1 | h1
        · exact .inl (fun x y h2 h3 h4 => by by_cases e : x = k; (· subst e; exact h1 y h3 h4); (· exact h x y (by omega) h3 h4))
        · exact .inr h1
      · exact .inr h
  rcases key v (Nat.le_refl _) with h | h
  · exact .inl (fun x y h1 h2 => h x y (by omega) h1 h2)
  · exact .inr h
theorem next_spec (h : nextM v m = some (a, b)) : IsNext v m a b := by
  rcases next_cases v m with h1 | ⟨x, y, h1⟩
  · rw [nextM_none h1] at h; cases h
  · rw [nextM_some h1] at h
    obtain ⟨rfl, rfl⟩ := Prod.mk.inj (Option.some.inj h)
    exact h1
theorem next_none (h : nextM v m = none) : ∀ x y, x < y → y < v → usd m x y = true := by
  rcases next_cases v m with h1 | ⟨x, y, h1⟩
  · exact h1
  · rw [nextM_some h1] at h; cases h
theorem may_spec (h : may m a b c = true) : b < c ∧ usd m a c = false ∧ usd m b c = false := by
  unfold may at h
  simp only [Bool.and_eq_true, Nat.blt_eq, Bool.not_eq_true'] at h
  exact ⟨h.1.1, h.1.2, h.2⟩
/-- A member is either the empty one, or begins with a block. -/
theorem mem_comp {q : List B3} (h : q ∈ compM n v m) : (q = [] ∧ nextM v m = none) ∨ ∃ k a b c r, n = k + 1 ∧ nextM v m = some (a, b) ∧ c < v ∧ may m a b c = true ∧ r ∈ compM k v (putM m a b c) ∧ q = b3N a b c :: r := by
  cases n with
  | zero =>
    unfold compM at h
    split at h
    · rename_i e; simp at h; exact .inl ⟨h, e⟩
    · simp at h
  | succ n =>
    unfold compM at h
    split at h
    · rename_i e; simp at h; exact .inl ⟨h, e⟩
    · rename_i a b e
      obtain ⟨c, hc, h1⟩ := List.mem_flatMap.1 h
      split at h1
      · rename_i hm
        obtain ⟨r, hr, rfl⟩ := List.mem_map.1 h1
        exact .inr ⟨n, a, b, c, r, rfl, e, List.mem_range.1 hc, hm, hr, rfl⟩
      · simp at h1
/-- A block whose first pair is left. -/
def Free (v m : Nat) (d : B3) : Prop := ∃ x y z : Nat, d = b3N x y z ∧ x < y ∧ y < z ∧ z < v ∧ usd m x y = false
theorem comp_free : ∀ n v m (q : List B3), v ≤ 15 → q ∈ compM n v m → ∀ d ∈ q, Free v m d := by
  intro n
  induction n with
  | zero =>
    intro v m q hv hq d hd
    rcases mem_comp hq with ⟨rfl, _⟩ | ⟨k, a, b, c, r, hk, _⟩
    · simp at hd
    · omega
  | succ n ih =>
    intro v m q hv hq d hd
    rcases mem_comp hq with ⟨rfl, _⟩ | ⟨k, a, b, c, r, hk, hn, hc, hm, hr, rfl⟩
    · simp at hd
    · obtain rfl : n = k := by omega
      have hI := next_spec hn
      obtain ⟨h1, h2, h3⟩ := may_spec hm
      rcases List.mem_cons.1 hd with rfl | hd
      · exact ⟨a, b, c, rfl, hI.ab, h1, hc, hI.left⟩
      · obtain ⟨x, y, z, e, hx, hy, hz, hu⟩ := ih _ _ _ hv hr d hd
        refine ⟨x, y, z, e, hx, hy, hz, ?_⟩
        cases hh : usd m x y with
        | false => rfl
        | true =>
          have := (usd_put (m := m) (a := a) (b := b) (c := c) (by have := hI.ab; have := hI.bv; omega) (by have := hI.bv; omega) (by omega) (x := x) (y := y) (by omega) (by omega)).2 (.inl hh)
          rw [this] at hu
          cases hu
theorem b3N_lt {x y z a b c : Nat} (h : a < x ∨ (a = x ∧ b < y)) : B3.lt (b3N a b c) (b3N x y z) := by unfold B3.lt b3N; simp only; omega
theorem comp_sorted : ∀ n v m (q : List B3), v ≤ 15 → q ∈ compM n v m → q.Pairwise B3.lt := by
  intro n
  induction n with
  | zero =>
    intro v m q hv hq
    rcases mem_comp hq with ⟨rfl, _⟩ | ⟨k, a, b, c, r, hk, _⟩
    · exact List.Pairwise.nil
    · omega
  | succ n ih =>
    intro v m q hv hq
    rcases mem_comp hq with ⟨rfl, _⟩ | ⟨k, a, b, c, r, hk, hn, hc, hm, hr, rfl⟩
    · exact List.Pairwise.nil
    · obtain rfl : n = k := by omega
      have hI := next_spec hn
      obtain ⟨h1, h2, h3⟩ := may_spec hm
      have hab := hI.ab
      have hbv := hI.bv
      refine List.pairwise_cons.2 ⟨fun d hd => ?_, ih _ _ _ hv hr⟩
      obtain ⟨x, y, z, rfl, hx, hy, hz, hu⟩ := comp_free _ _ _ _ hv hr d hd
      have hup := usd_put (m := m) (a := a) (b := b) (c := c) (by omega) (by omega) (by omega) (x := x) (y := y) (by omega) (by omega)
      refine b3N_lt ?_
      apply Decidable.byContradiction
      intro hc'
      have : usd (putM m a b c) x y = true := by
        rw [hup]
        by_cases e : x = a ∧ y = b
        · exact .inr (.inl (.inl e))
        · refine .inl ?_
          by_cases e1 : x < a
          · exact hI.rows x y e1 hx (by omega)
          · obtain rfl : x = a := by omega
            exact hI.row y hx (by omega)
      rw [this] at hu
      cases hu
/-- One list of blocks comes ahead of another one: at the first place where they differ. -/
def befB : List B3 → List B3 → Prop
  | x :: a, y :: b => if x = y then befB a b else B3.lt x y
  | _, _ => False
noncomputable instance (a b : List B3) : Decidable (befB a b) := Classical.propDecidable _
theorem befB_asymm : ∀ {a b : List B3}, befB a b → befB b a → False := by
  intro a
  induction a with
  | nil => intro b h; cases b <;> simp [befB] at h
  | cons x a ih =>
    intro b h1 h2
    cases b with
    | nil => simp [befB] at h1
    | cons y b =>
      unfold befB at h1 h2
      by_cases e : x = y
      · rw [if_pos e] at h1; rw [if_pos e.symm] at h2; exact ih h1 h2
      · rw [if_neg e] at h1; rw [if_neg (fun h => e h.symm)] at h2; exact lt_asymm3 h1 h2
theorem comp_ascending : ∀ n v m, v ≤ 15 → (compM n v m).Pairwise befB := by
  intro n
  induction n with
  | zero => intro v m hv; unfold compM; split <;> simp
  | succ n ih =>
    intro v m hv
    unfold compM
    split
    · simp
    · rename_i a b e
      rw [List.pairwise_flatMap]
      refine ⟨fun c hc => ?_, ?_⟩
      · split
        · rw [List.pairwise_map]
          exact (ih v _ hv).imp (fun h => by unfold befB; rw [if_pos rfl]; exact h)
        · simp
      · refine List.Pairwise.imp ?_ (List.pairwise_lt_range (n := v))
        intro c d hcd q hq r hr
        split at hq
        · split at hr
          · obtain ⟨q', _, rfl⟩ := List.mem_map.1 hq
            obtain ⟨r', _, rfl⟩ := List.mem_map.1 hr
            unfold befB
            rw [if_neg (by unfold b3N; intro h; simp at h; omega)]
            exact .inr ⟨rfl, .inr ⟨rfl, by show (c : Int) < d; omega⟩⟩
          · simp at hr
        · simp at hq
/-! ### How many blocks -/
theorem usd_put_self (ha : a < b) (hb : b < c) (hc : c < 16) : usd (putM m a b c) a b = true ∧ usd (putM m a b c) a c = true ∧ usd (putM m a b c) b c = true := by
  refine ⟨?_, ?_, ?_⟩ <;> rw [usd_put (by omega) (by omega) (by omega) (by omega) (by omega)]
  · exact .inr (.inl (.inl ⟨rfl, rfl⟩))
  · exact .inr (.inr (.inl (.inl ⟨rfl, rfl⟩)))
  · exact .inr (.inr (.inr (.inl ⟨rfl, rfl⟩)))
theorem filter_but {α : Type} [DecidableEq α] {l : List α} (hd : l.Nodup) {p : α → Bool} {x : α} (hx : x ∈ l) (hp : p x = true) : (l.filter fun y => p y && !decide (y = x)).length + 1 = (l.filter p).length := by
  induction l with
  | nil => simp at hx
  | cons y l ih =>
    obtain ⟨h1, h2⟩ := List.nodup_cons.1 hd
    by_cases e : y = x
    · subst e
      have h3 : (l.filter fun z => p z && !decide (z = y)) = l.filter p := by
        refine List.filter_congr fun z hz => ?_
        have : z ≠ y := fun e => h1 (e ▸ hz)
        simp [this]
      simp [List.filter_cons, hp, h3]
    · have hx' : x ∈ l := by
        rcases List.mem_cons.1 hx with h | h
        · exact absurd h.symm e
        · exact h
      have := ih h2 hx'
      simp only [List.filter_cons, e, decide_false, Bool.not_false, Bool.and_true]
      split
      · simp only [List.length_cons]; omega
      · exact this
theorem prs_nodup (v : Nat) : (prs v).Nodup := by
  unfold prs
  rw [List.nodup_iff_pairwise_ne, List.pairwise_flatMap]
  refine ⟨fun a _ => ?_, ?_⟩
  · rw [List.pairwise_map]
    exact (List.pairwise_lt_range (n := v)).imp (fun h e => by cases e; omega)
  · refine List.Pairwise.imp ?_ (List.pairwise_lt_range (n := v))
    intro x y hxy p hp q hq
    obtain ⟨i, _, rfl⟩ := List.mem_map.1 hp
    obtain ⟨j, _, rfl⟩ := List.mem_map.1 hq
    intro e
    cases e
    omega
theorem leftN_put3 (ha : a < b) (hb : b < c) (hc : c < v) (hv : v ≤ 15) (h1 : usd m a b = false) (h2 : usd m a c = false) (h3 : usd m b c = false) : leftN v (putM m a b c) + 3 = leftN v m := by
  have e1 := filter_but (prs_nodup v) (p := fun p => Nat.blt p.1 p.2 && !usd m p.1 p.2) (x := (a, b)) (mem_prs.2 ⟨by simp; omega, by simp; omega⟩) (by simp [ha, h1])
  have e2 := filter_but (prs_nodup v) (p := fun y => (Nat.blt y.1 y.2 && !usd m y.1 y.2) && !decide (y = (a, b))) (x := (a, c)) (mem_prs.2 ⟨by simp; omega, by simp; omega⟩) (by
    have : Nat.blt a c = true := by rw [Nat.blt_eq]; omega
    simp [h2, this]; omega)
  have e3 := filter_but (prs_nodup v) (p := fun y => ((Nat.blt y.1 y.2 && !usd m y.1 y.2) && !decide (y = (a, b))) && !decide (y = (a, c))) (x := (b, c)) (mem_prs.2 ⟨by simp; omega, by simp; omega⟩) (by
    simp [h3, hb]; omega)
  have e4 : leftN v (putM m a b c) = ((prs v).filter fun y => (((Nat.blt y.1 y.2 && !usd m y.1 y.2) && !decide (y = (a, b))) && !decide (y = (a, c))) && !decide (y = (b, c))).length := by
    unfold leftN
    congr 1
    refine List.filter_congr fun p hp => ?_
    obtain ⟨x, y⟩ := p
    obtain ⟨hx, hy⟩ := mem_prs.1 hp
    simp only at hx hy
    by_cases hxy : x < y
    · have hxb : Nat.blt x y = true := by rw [Nat.blt_eq]; exact hxy
      have hup := usd_put (m := m) (a := a) (b := b) (c := c) (by omega) (by omega) (by omega) (x := x) (y := y) (by omega) (by omega)
      simp only [hxb, Bool.true_and, Prod.mk.injEq]
      cases hm : usd m x y with
      | true =>
        have : usd (putM m a b c) x y = true := hup.2 (.inl hm)
        simp [this]
      | false =>
        by_cases h : (x = a ∧ y = b) ∨ (x = a ∧ y = c) ∨ (x = b ∧ y = c)
        · have : usd (putM m a b c) x y = true := hup.2 (.inr (by omega))
          rw [this]
          rcases h with h | h | h <;> simp [h]
        · have : usd (putM m a b c) x y = false := by
            cases hh : usd (putM m a b c) x y with
            | false => rfl
            | true =>
              have h5 := hup.1 hh
              rw [hm] at h5
              rcases h5 with h5 | h5
              · cases h5
              · omega
          rw [this]
          have q1 : ¬ (x = a ∧ y = b) := fun e => h (.inl e)
          have q2 : ¬ (x = a ∧ y = c) := fun e => h (.inr (.inl e))
          have q3 : ¬ (x = b ∧ y = c) := fun e => h (.inr (.inr e))
          simp [q1, q2, q3]
    · have hxb : Nat.blt x y = false := blt_no hxy
      simp [hxb]
  unfold leftN at *
  omega
theorem comp_count : ∀ n v m (q : List B3), v ≤ 15 → q ∈ compM n v m → 3 * q.length = leftN v m := by
  intro n
  induction n with
  | zero =>
    intro v m q hv hq
    rcases mem_comp hq with ⟨rfl, hn⟩ | ⟨k, a, b, c, r, hk, _⟩
    · have h := next_none hn
      have : leftN v m = 0 := by
        unfold leftN
        rw [List.length_eq_zero_iff, List.filter_eq_nil_iff]
        rintro ⟨x, y⟩ hp
        obtain ⟨hx, hy⟩ := mem_prs.1 hp
        simp only [Bool.and_eq_true, Nat.blt_eq, Bool.not_eq_true', not_and, Bool.not_eq_false]
        exact fun hxy => h x y hxy hy
      rw [this]; rfl
    · omega
  | succ n ih =>
    intro v m q hv hq
    rcases mem_comp hq with ⟨rfl, hn⟩ | ⟨k, a, b, c, r, hk, hn, hc, hm, hr, rfl⟩
    · have h := next_none hn
      have : leftN v m = 0 := by
        unfold leftN
        rw [List.length_eq_zero_iff, List.filter_eq_nil_iff]
        rintro ⟨x, y⟩ hp
        obtain ⟨hx, hy⟩ := mem_prs.1 hp
        simp only [Bool.and_eq_true, Nat.blt_eq, Bool.not_eq_true', not_and, Bool.not_eq_false]
        exact fun hxy => h x y hxy hy
      rw [this]; rfl
    · obtain rfl : n = k := by omega
      have hI := next_spec hn
      obtain ⟨h1, h2, h3⟩ := may_spec hm
      have := ih _ _ _ hv hr
      have h4 := leftN_put3 hI.ab h1 hc hv hI.left h2 h3
      simp only [List.length_cons]
      omega
end
end Go.Vc
/-
  Plain words: each full system is a completion of the empty one.
-/
namespace Go.Vc
section
variable {v m n : Nat}
/-- A block whose pairs are left. -/
def Opn (m : Nat) (d : B3) : Prop := ∃ x y z : Nat, d = b3N x y z ∧ x < y ∧ y < z ∧ usd m x y = false ∧ usd m x z = false ∧ usd m y z = false
def inB (v : Nat) (d : B3) : Prop := ∃ x y z : Nat, d = b3N x y z ∧ x < y ∧ y < z ∧ z < v
theorem good.inB {d : B3} (h : good v d) : inB v d := by
  obtain ⟨a, b, c⟩ := d
  unfold good at h
  simp only at h
  refine ⟨a.toNat, b.toNat, c.toNat, ?_, by omega, by omega, by omega⟩
  unfold b3N
  rw [Int.toNat_of_nonneg (by omega), Int.toNat_of_nonneg (by omega), Int.toNat_of_nonneg (by omega)]
/-- What is asked of the blocks that are yet to come. -/
structure Rest (v m : Nat) (B : List B3) : Prop where
  ok : ∀ d ∈ B, inB v d
  opn : ∀ d ∈ B, Opn m d
  lt : B.Pairwise B3.lt
  fit : B.Pairwise fun d e => common e d ≤ 1
theorem b3N_inj {x y z a b c : Nat} (h : b3N x y z = b3N a b c) : x = a ∧ y = b ∧ z = c := by
  unfold b3N at h
  simp only [Prod.mk.injEq] at h
  omega
theorem Rest.tail {x y z : Nat} {B : List B3} (hv : v ≤ 15) (h : Rest v m (b3N x y z :: B)) (hx : x < y) (hy : y < z) (hz : z < v) : Rest v (putM m x y z) B := by
  obtain ⟨h1, h2⟩ := List.pairwise_cons.1 h.lt
  obtain ⟨h3, h4⟩ := List.pairwise_cons.1 h.fit
  refine ⟨fun d hd => h.ok d (by simp [hd]), fun d hd => ?_, h2, h4⟩
  obtain ⟨a, b, c, rfl, ha, hb, u1, u2, u3⟩ := h.opn d (by simp [hd])
  obtain ⟨a', b', c', e, _, _, hc⟩ := h.ok _ (List.mem_cons_of_mem _ hd)
  obtain ⟨rfl, rfl, rfl⟩ := b3N_inj e
  have hc3 := h3 _ hd
  rw [common_le (b3N_three hx hy)] at hc3
  have k1 : ∀ p q : Nat, p < q → q < v → usd m p q = false → ¬ (has (b3N x y z) p ∧ has (b3N x y z) q) → usd (putM m x y z) p q = false := fun p q h1 h2 h3 h4 => (usd_putN hx hy (by omega) (by omega) (by omega) (by omega)).2 ⟨h3, h4⟩
  exact ⟨a, b, c, rfl, ha, hb, k1 a b (by omega) (by omega) u1 hc3.1, k1 a c (by omega) (by omega) u2 hc3.2.1, k1 b c (by omega) (by omega) u3 hc3.2.2⟩
theorem comp_all : ∀ (B : List B3) (m n : Nat), v ≤ 15 → Rest v m B → (∀ x y, x < y → y < v → usd m x y = true ∨ ∃ d ∈ B, has d x ∧ has d y) → B.length ≤ n → B ∈ compM n v m := by
  intro B
  induction B with
  | nil =>
    intro m n hv h hf hn
    rw [compM_none (nextM_none fun x y h1 h2 => by rcases hf x y h1 h2 with h3 | ⟨d, hd, _⟩; (· exact h3); (· simp at hd))]
    simp
  | cons b B ih =>
    intro m n hv h hf hn
    obtain ⟨n, rfl⟩ : ∃ k, n = k + 1 := ⟨n - 1, by simp only [List.length_cons] at hn; omega⟩
    obtain ⟨x, y, z, rfl, hx, hy, hz⟩ := h.ok b (by simp)
    obtain ⟨x', y', z', e, _, _, u1, u2, u3⟩ := h.opn _ (List.mem_cons_self ..)
    obtain ⟨rfl, rfl, rfl⟩ := b3N_inj e
    rcases next_cases v m with hall | ⟨p, q, hI⟩
    · rw [hall x y hx (by omega)] at u1; cases u1
    have hpq := hI.ab
    have hqv := hI.bv
    have low : ∀ s t : Nat, s < t → t < v → usd m s t = false → p ≤ s ∧ (p = s → q ≤ t) := by
      intro s t h1 h2 h3
      refine ⟨?_, fun e => ?_⟩
      · apply Decidable.byContradiction
        intro h4
        rw [hI.rows s t (by omega) h1 h2] at h3
        cases h3
      · apply Decidable.byContradiction
        intro h4
        subst e
        rw [hI.row t h1 (by omega)] at h3
        cases h3
    have hb := low x y hx (by omega) u1
    have hd : ∃ d ∈ b3N x y z :: B, has d p ∧ has d q := by
      rcases hf p q hpq hqv with h1 | h1
      · rw [hI.left] at h1; cases h1
      · exact h1
    obtain ⟨d, hd, hdp, hdq⟩ := hd
    obtain ⟨s, t, r, rfl, hs, ht, hr⟩ := h.ok d hd
    obtain ⟨s', t', r', e, _, _, w1, w2, w3⟩ := h.opn _ hd
    obtain ⟨rfl, rfl, rfl⟩ := b3N_inj e
    rw [has_b3N] at hdp hdq
    have hd1 := low s t hs (by omega) w1
    have hps : p = s := by omega
    have hqt : q = t := by
      have := hd1.2 hps
      omega
    have hle : x ≤ s ∧ (x = s → y ≤ t) := by
      rcases List.mem_cons.1 hd with e | e
      · obtain ⟨rfl, rfl, rfl⟩ := b3N_inj e; omega
      · have h1 := (List.pairwise_cons.1 h.lt).1 _ e
        unfold B3.lt b3N at h1
        simp only at h1
        omega
    have hxp : p = x := by omega
    have hyq : q = y := by have := hb.2 hxp; have := hle.2 (by omega); omega
    subst hxp hyq
    have hm : may m p q z = true := by
      unfold may
      have : Nat.blt q z = true := by rw [Nat.blt_eq]; exact hy
      simp [this, u2, u3]
    have hmem := ih (putM m p q z) n hv (h.tail hv hx hy hz) (fun i j h1 h2 => by
      have hup := usd_putN (m := m) (x := i) (y := j) hx hy (by omega : z < 16) (by omega) (by omega) (by omega)
      cases hu : usd (putM m p q z) i j with
      | true => exact .inl rfl
      | false =>
        refine .inr ?_
        obtain ⟨g1, g2⟩ := hup.1 hu
        rcases hf i j h1 h2 with g3 | ⟨d, hd, g3⟩
        · rw [g1] at g3; cases g3
        · rcases List.mem_cons.1 hd with rfl | hd
          · exact absurd g3 g2
          · exact ⟨d, hd, g3⟩) (by simp only [List.length_cons] at hn; omega)
    unfold compM
    rw [nextM_some hI]
    simp only
    refine List.mem_flatMap.2 ⟨z, List.mem_range.2 hz, ?_⟩
    rw [if_pos hm]
    exact List.mem_map.2 ⟨B, hmem, rfl⟩
/-! ### The pairs of blocks -/
def putB (m : Nat) (d : B3) : Nat := putM m d.1.toNat d.2.1.toNat d.2.2.toNat
def maskB (m : Nat) (bs : List B3) : Nat := bs.foldl putB m
theorem putB_b3N {x y z : Nat} : putB m (b3N x y z) = putM m x y z := by unfold putB b3N; simp
theorem mask_left : ∀ (B : List B3) (m : Nat), v ≤ 15 → Rest v m B → leftN v (maskB m B) + 3 * B.length = leftN v m := by
  intro B
  induction B with
  | nil => intro m _ _; rfl
  | cons b B ih =>
    intro m hv h
    obtain ⟨x, y, z, rfl, hx, hy, hz⟩ := h.ok b (by simp)
    obtain ⟨x', y', z', e, _, _, u1, u2, u3⟩ := h.opn _ (List.mem_cons_self ..)
    obtain ⟨rfl, rfl, rfl⟩ := b3N_inj e
    have h1 := ih (putM m x y z) hv (h.tail hv hx hy hz)
    have h2 := leftN_put3 hx hy hz hv u1 u2 u3
    have e : maskB m (b3N x y z :: B) = maskB (putM m x y z) B := by unfold maskB; rw [List.foldl_cons, putB_b3N]
    rw [e, List.length_cons]
    omega
theorem usd_mask : ∀ (B : List B3) (m : Nat), v ≤ 15 → (∀ d ∈ B, inB v d) → ∀ x y, x < y → y < v → (usd (maskB m B) x y = true ↔ usd m x y = true ∨ ∃ d ∈ B, has d x ∧ has d y) := by
  intro B
  induction B with
  | nil => intro m _ _ x y _ _; simp [maskB]
  | cons b B ih =>
    intro m hv h x y hx hy
    obtain ⟨a, b', c, rfl, h1, h2, h3⟩ := h b (by simp)
    have e : maskB m (b3N a b' c :: B) = maskB (putM m a b' c) B := by unfold maskB; rw [List.foldl_cons, putB_b3N]
    rw [e, ih _ hv (fun d hd => h d (by simp [hd])) x y hx hy]
    have hup := usd_putN (m := m) (x := x) (y := y) h1 h2 (by omega : c < 16) (by omega) (by omega) (by omega)
    constructor
    · rintro (g | ⟨d, hd, g⟩)
      · cases hu : usd m x y with
        | true => exact .inl rfl
        | false =>
          refine .inr ⟨b3N a b' c, by simp, ?_⟩
          apply Decidable.byContradiction
          intro g2
          rw [hup.2 ⟨hu, g2⟩] at g
          cases g
      · exact .inr ⟨d, by simp [hd], g⟩
    · rintro (g | ⟨d, hd, g⟩)
      · refine .inl ?_
        cases hu : usd (putM m a b' c) x y with
        | true => rfl
        | false => rw [(hup.1 hu).1] at g; cases g
      · rcases List.mem_cons.1 hd with rfl | hd
        · refine .inl ?_
          cases hu : usd (putM m a b' c) x y with
          | true => rfl
          | false => exact absurd g (hup.1 hu).2
        · exact .inr ⟨d, hd, g⟩
theorem usd_zero (x y : Nat) : usd 0 x y = false := by simp [usd]
theorem sts_lt {v : Int} {bs : List B3} (h : STS v bs) : bs.Pairwise B3.lt := by
  have key : ∀ i j (hi : i < bs.length) (hj : j < bs.length), i < j → B3.lt bs[i] bs[j] := by
    intro i j
    induction j with
    | zero => intro _ _ h; omega
    | succ j ih =>
      intro hi hj hij
      have h1 := (h.ord (j + 1) hj hj).2 j (by omega) rfl
      by_cases e : i = j
      · subst e; exact h1
      · exact lt_trans3 (ih hi (by omega) (by omega)) h1
  rw [List.pairwise_iff_getElem]
  exact fun i j hi hj hij => key i j hi hj hij
theorem sts_rest {bs : List B3} (h : STS (v : Int) bs) : Rest v 0 bs := by
  have hg : ∀ d ∈ bs, inB v d := fun d hd => (h.good d hd).inB
  refine ⟨hg, fun d hd => ?_, sts_lt h, ?_⟩
  · obtain ⟨x, y, z, rfl, h1, h2, h3⟩ := hg d hd
    exact ⟨x, y, z, rfl, h1, h2, usd_zero _ _, usd_zero _ _, usd_zero _ _⟩
  · rw [List.pairwise_iff_getElem]
    exact fun i j hi hj hij => h.fits j hj hj i hi hij
/-- A full system is among the completions of the empty one. -/
theorem sts_mem {bs : List B3} (h : STS (v : Int) bs) (hf : 3 * bs.length = leftN v 0) (hn : bs.length ≤ n) : bs ∈ compM n v 0 := by
  have hv : v ≤ 15 := by have := h.hi; omega
  have hr := sts_rest h
  have h1 := mask_left bs 0 hv hr
  have h0 : leftN v (maskB 0 bs) = 0 := by omega
  refine comp_all bs 0 n hv hr (fun x y hx hy => ?_) hn
  exact (usd_mask bs 0 hv hr.ok x y hx hy).1 (leftN_zero h0 x y hx hy)
end
theorem left3 : leftN 3 0 = 3 := by decide
theorem left7 : leftN 7 0 = 21 := by decide
theorem left9 : leftN 9 0 = 36 := by decide
end Go.Vc
/-
  How many systems of 3, 7 and 9 points there are, counted by the kernel.
-/
namespace Go.Vc
set_option maxRecDepth 100000 in
theorem cnt9 : cntM 40 9 0 = 840 := by decide +kernel
set_option maxRecDepth 100000 in
theorem cnt7 : cntM 40 7 0 = 30 := by decide +kernel
set_option maxRecDepth 100000 in
theorem cnt3 : cntM 40 3 0 = 1 := by decide +kernel
end Go.Vc
/-
  Plain words: the number of a system; what is common.
-/
namespace Go.Vc
def few9 (v : Int) : Prop := v = 3 ∨ v = 7 ∨ v = 9
instance (v : Int) : Decidable (few9 v) := inferInstanceAs (Decidable (_ ∨ _))
/-- Full, with few points. -/
def Few (v : Int) (bs : List B3) : Prop := few9 v ∧ 6 * (bs.length : Int) = v * (v - 1)
instance (v : Int) (bs : List B3) : Decidable (Few v bs) := inferInstanceAs (Decidable (_ ∧ _))
/-- All systems of few points. -/
noncomputable def allN (v : Int) : List (List B3) := compM 40 v.toNat 0
theorem few_len {v : Int} (h : few9 v) : (compM 40 v.toNat 0).length ≤ 1000 ∧ leftN v.toNat 0 ≤ 40 ∧ v.toNat ≤ 15 ∧ 0 ≤ v := by
  rcases h with rfl | rfl | rfl
  · exact ⟨by rw [cntM_eq]; show cntM 40 3 0 ≤ 1000; rw [cnt3]; decide, by show leftN 3 0 ≤ 40; rw [left3]; decide, by decide, by decide⟩
  · exact ⟨by rw [cntM_eq]; show cntM 40 7 0 ≤ 1000; rw [cnt7]; decide, by show leftN 7 0 ≤ 40; rw [left7]; decide, by decide, by decide⟩
  · exact ⟨by rw [cntM_eq]; show cntM 40 9 0 ≤ 1000; rw [cnt9]; decide, by show leftN 9 0 ≤ 40; rw [left9]; decide, by decide, by decide⟩
theorem sts_mul {v : Int} {bs : List B3} (h : STS v bs) : 0 ≤ v * (v - 1) ∧ v * (v - 1) ≤ 1000000 := by
  have h1 := h.lo
  have h2 := h.hi
  refine ⟨Int.mul_nonneg (by omega) (by omega), ?_⟩
  have := Int.mul_le_mul h2 (show v - 1 ≤ 15 by omega) (by omega) (by omega)
  omega
theorem few_left {v : Int} {bs : List B3} (h : Few v bs) : 3 * bs.length = leftN v.toNat 0 := by
  obtain ⟨h1, h2⟩ := h
  rcases h1 with rfl | rfl | rfl
  · show 3 * bs.length = leftN 3 0; rw [left3]; omega
  · show 3 * bs.length = leftN 7 0; rw [left7]; omega
  · show 3 * bs.length = leftN 9 0; rw [left9]; omega
theorem few_mem {v : Int} {bs : List B3} (h : STS v bs) (hf : Few v bs) : bs ∈ allN v := by
  have h0 := (few_len hf.1)
  have h1 := few_left hf
  obtain ⟨vn, rfl⟩ := Int.eq_ofNat_of_zero_le h0.2.2.2
  exact sts_mem h h1 (by have := h.few; omega)
theorem idxP_conts {α : Type} {p : List α → Prop} [DecidablePred p] {ps : List (Sl × List α)} : idxP (fun x : Sl × List α => p x.2) ps = idxP p (conts ps) := by
  have hl := conts_len ps
  by_cases h : ∃ k, ∃ hk : k < ps.length, p (ps[k]).2
  · have h0 : ¬ idxP (fun x : Sl × List α => p x.2) ps = -1 := fun e => by obtain ⟨k, hk, h1⟩ := h; exact idxP_not e k hk h1
    obtain ⟨i, hi, q1, q2, q3⟩ := idxP_at h0
    rw [q1]
    have e : ∀ j (hj : j < ps.length) (hj' : j < (conts ps).length), (conts ps)[j] = (ps[j]).2 := fun j hj hj' => List.getElem_map ..
    exact (idxP_found (by omega) (by rw [e i hi]; exact q2) (fun j hj hji => by rw [e j (by omega)]; exact q3 j (by omega) hji)).symm
  · rw [idxP_none (fun j hj hh => h ⟨j, hj, hh⟩), idxP_none]
    intro j hj hh
    have e : (conts ps)[j] = (ps[j]'(by omega)).2 := List.getElem_map ..
    rw [e] at hh
    exact h ⟨j, by omega, hh⟩
/-- The number of a system, and the code. -/
def NOS (v : Int) (bs : List B3) (r code : Int) : Prop := (¬ STS v bs → r = 0 ∧ code = 1) ∧ (STS v bs → ¬ Few v bs → r = 0 ∧ code = 5) ∧ (STS v bs → Few v bs → r = idxP (fun q => bs = q) (allN v) ∧ code = 0)
theorem NOS.unique {v : Int} {bs : List B3} {r c s d : Int} (h : NOS v bs r c) (g : NOS v bs s d) : r = s ∧ c = d := by
  by_cases hS : STS v bs
  · by_cases hf : Few v bs
    · have := h.2.2 hS hf; have := g.2.2 hS hf; omega
    · have := h.2.1 hS hf; have := g.2.1 hS hf; omega
  · have := h.1 hS; have := g.1 hS; omega
theorem befB_at : ∀ {a b : List B3} {i : Nat} (h1 : i < a.length) (h2 : i < b.length), a.take i = b.take i → ¬ a[i] = b[i] → (B3.lt a[i] b[i] ↔ befB a b) := by
  intro a
  induction a with
  | nil => intro b i h1; simp at h1
  | cons x a ih =>
    intro b i h1 h2 he hne
    cases b with
    | nil => simp at h2
    | cons y b =>
      cases i with
      | zero =>
        simp only [List.getElem_cons_zero] at hne ⊢
        unfold befB
        rw [if_neg hne]
      | succ i =>
        simp only [List.take_succ_cons, List.cons.injEq] at he
        simp only [List.getElem_cons_succ] at hne ⊢
        unfold befB
        rw [if_pos he.1]
        exact ih (by simp only [List.length_cons] at h1; omega) (by simp only [List.length_cons] at h2; omega) he.2 hne
theorem befB_pre {b : List B3} : ∀ {a : List B3} {n : Nat}, a = b.take n → ¬ befB a b := by
  induction b with
  | nil => intro a n h; subst h; simp [befB]
  | cons y b ih =>
    intro a n h
    cases n with
    | zero => subst h; simp [befB]
    | succ n =>
      subst h
      simp only [List.take_succ_cons]
      unfold befB
      rw [if_pos rfl]
      exact ih rfl
end Go.Vc
/-
  The calculus, part 17: the least and the greatest of integers.
-/
namespace Go.Vc
open Go Go.RowKit
section
variable {P : Program} {w0 w : World} {Q : Exit → Act → World → Prop} {σ : Sig} {H : List Assn} {o : Oper} {ts : Array TypeId}
theorem run_min2 (a b : Int) : (Builtin.min2 (.int .i64 a) (.int .i64 b)).run P w = .ok (.int .i64 (if b < a then b else a)) w := by
  unfold Builtin.min2
  by_cases h : b < a <;> simp [h]
theorem run_max2 (a b : Int) : (Builtin.max2 (.int .i64 a) (.int .i64 b)).run P w = .ok (.int .i64 (if a < b then b else a)) w := by
  unfold Builtin.max2
  by_cases h : a < b <;> simp [h]
theorem Pu.min2 {x y : Operand} {a b r : Int} (hr : r = if b < a then b else a) (ho : o.op = .call { callee := .builtin .min, args := #[x, y], argTypes := ts }) (hx : ev σ x = some (.int .i64 a)) (hy : ev σ y = some (.int .i64 b)) : Pu P w0 o σ H (.int .i64 r) := by
  subst hr
  intro w hw c ha
  have h1 := ha x (by simp [ho, Op.operands, Call.operands]) _ hx
  have h2 := ha y (by simp [ho, Op.operands, Call.operands]) _ hy
  simp [execOp, ho, h1, h2, resolve, invoke, builtin, Builtin.min_, run_min2]
theorem Pu.max2 {x y : Operand} {a b r : Int} (hr : r = if a < b then b else a) (ho : o.op = .call { callee := .builtin .max, args := #[x, y], argTypes := ts }) (hx : ev σ x = some (.int .i64 a)) (hy : ev σ y = some (.int .i64 b)) : Pu P w0 o σ H (.int .i64 r) := by
  subst hr
  intro w hw c ha
  have h1 := ha x (by simp [ho, Op.operands, Call.operands]) _ hx
  have h2 := ha y (by simp [ho, Op.operands, Call.operands]) _ hy
  simp [execOp, ho, h1, h2, resolve, invoke, builtin, Builtin.max_, run_max2]
theorem Pu.min3 {x y z : Operand} {a b d r : Int} (hr : r = if d < (if b < a then b else a) then d else (if b < a then b else a)) (ho : o.op = .call { callee := .builtin .min, args := #[x, y, z], argTypes := ts }) (hx : ev σ x = some (.int .i64 a)) (hy : ev σ y = some (.int .i64 b)) (hz : ev σ z = some (.int .i64 d)) : Pu P w0 o σ H (.int .i64 r) := by
  subst hr
  intro w hw c ha
  have h1 := ha x (by simp [ho, Op.operands, Call.operands]) _ hx
  have h2 := ha y (by simp [ho, Op.operands, Call.operands]) _ hy
  have h3 := ha z (by simp [ho, Op.operands, Call.operands]) _ hz
  simp [execOp, ho, h1, h2, h3, resolve, invoke, builtin, Builtin.min_, run_min2]
theorem Pu.max3 {x y z : Operand} {a b d r : Int} (hr : r = if (if a < b then b else a) < d then d else (if a < b then b else a)) (ho : o.op = .call { callee := .builtin .max, args := #[x, y, z], argTypes := ts }) (hx : ev σ x = some (.int .i64 a)) (hy : ev σ y = some (.int .i64 b)) (hz : ev σ z = some (.int .i64 d)) : Pu P w0 o σ H (.int .i64 r) := by
  subst hr
  intro w hw c ha
  have h1 := ha x (by simp [ho, Op.operands, Call.operands]) _ hx
  have h2 := ha y (by simp [ho, Op.operands, Call.operands]) _ hy
  have h3 := ha z (by simp [ho, Op.operands, Call.operands]) _ hz
  simp [execOp, ho, h1, h2, h3, resolve, invoke, builtin, Builtin.max_, run_max2]
end
end Go.Vc
/-
  Plain words: blocks in order, by insertion.
-/
namespace Go.Vc
def leB (a b : B3) : Prop := ¬ B3.lt b a
theorem leB_trans {a b c : B3} (h1 : leB a b) (h2 : leB b c) : leB a c := by unfold leB B3.lt at *; omega
theorem leB_of {a b : B3} (h : B3.lt a b) : leB a b := by unfold leB B3.lt at *; omega
theorem leB_anti {a b : B3} (h1 : leB a b) (h2 : leB b a) : a = b := by
  obtain ⟨a1, a2, a3⟩ := a
  obtain ⟨b1, b2, b3⟩ := b
  unfold leB B3.lt at *
  simp only at *
  have e1 : a1 = b1 := by omega
  have e2 : a2 = b2 := by omega
  have e3 : a3 = b3 := by omega
  rw [e1, e2, e3]
def SrtB (l : List B3) : Prop := l.Pairwise leB
theorem ins_perm {l : List B3} {b : B3} {y : Nat} : (l.take y ++ b :: l.drop y).Perm (l ++ [b]) := by
  refine List.perm_middle.trans ?_
  rw [List.take_append_drop]
  exact (List.perm_append_comm (l₁ := [b])).trans (List.Perm.refl _)
theorem ins_sorted {l : List B3} {b : B3} {y : Nat} (hs : SrtB l) (hy : y ≤ l.length) (h1 : ∀ j (hj : j < l.length), y ≤ j → B3.lt b l[j]) (h2 : ∀ (h0 : 0 < y), ¬ B3.lt b (l[y - 1]'(by omega))) : SrtB (l.take y ++ b :: l.drop y) := by
  have hp := List.pairwise_iff_getElem.1 hs
  unfold SrtB
  rw [List.pairwise_append, List.pairwise_cons]
  have hd : ∀ x ∈ l.drop y, B3.lt b x := by
    intro x hx
    obtain ⟨j, hj, rfl⟩ := List.getElem_of_mem hx
    rw [List.length_drop] at hj
    rw [List.getElem_drop]
    exact h1 (y + j) (by omega) (by omega)
  have ht : ∀ x ∈ l.take y, leB x b := by
    intro x hx
    obtain ⟨j, hj, rfl⟩ := List.getElem_of_mem hx
    rw [List.length_take] at hj
    rw [List.getElem_take]
    have h3 := h2 (by omega)
    by_cases e : j = y - 1
    · subst e; exact h3
    · exact leB_trans (hp j (y - 1) (by omega) (by omega) (by omega)) h3
  refine ⟨hs.sublist (List.take_sublist _ _), ⟨fun x hx => leB_of (hd x hx), hs.sublist (List.drop_sublist _ _)⟩, fun x hx z hz => ?_⟩
  rcases List.mem_cons.1 hz with rfl | hz
  · exact ht x hx
  · exact leB_trans (ht x hx) (leB_of (hd z hz))
theorem srtB_unique : ∀ {l m : List B3}, SrtB l → SrtB m → l.Perm m → l = m := by
  intro l
  induction l with
  | nil => intro m _ _ h; exact (List.Perm.nil_eq h)
  | cons a l ih =>
    intro m h1 h2 h
    cases m with
    | nil => exact absurd h.length_eq (by simp)
    | cons b m =>
      obtain ⟨ha, hl⟩ := List.pairwise_cons.1 h1
      obtain ⟨hb, hm⟩ := List.pairwise_cons.1 h2
      have e : a = b := by
        rcases List.mem_cons.1 (h.mem_iff.1 (List.mem_cons_self ..)) with e | e
        · exact e
        · rcases List.mem_cons.1 (h.mem_iff.2 (List.mem_cons_self ..)) with e' | e'
          · exact e'.symm
          · exact leB_anti (ha b e') (hb a e)
      subst e
      rw [ih hl hm (List.Perm.cons_inv h)]
theorem srtB_lt {l : List B3} (h : l.Pairwise B3.lt) : SrtB l := h.imp leB_of
end Go.Vc
/-
  The calculus, part 18: a search for completions that keeps or counts them.
-/
namespace Go.Vc
open Go Go.RowKit
section
variable {v m a b c n p k : Nat} {U : List Bool}
/-- The pairs that are used, by their numbers. -/
def RelU (v : Nat) (U : List Bool) (m : Nat) : Prop := U.length = 256 ∧ ∀ x y : Nat, x < v → y < v → x ≠ y → U.getD (prI x y) false = usd m x y
theorem prI_lt (ha : a < 16) (hb : b < 16) : prI a b < 256 := by unfold prI; omega
theorem getD_set {i j : Nat} {x : Bool} (hi : i < U.length) : (U.set i x).getD j false = if j = i then x else U.getD j false := by
  rw [List.getD_eq_getElem?_getD, List.getD_eq_getElem?_getD, List.getElem?_set]
  by_cases e : j = i
  · subst e; simp [hi]
  · rw [if_neg (fun h => e h.symm), if_neg e]
theorem relU_at (h : RelU v U m) {x y : Nat} (hx : x < v) (hy : y < v) (hne : x ≠ y) (hk : prI x y < U.length) : U[prI x y] = usd m x y := by
  have := h.2 x y hx hy hne
  rwa [List.getD_eq_getElem?_getD, List.getElem?_eq_getElem hk] at this
theorem relU_put (h : RelU v U m) (ha : a < b) (hb : b < c) (hc : c < v) (hv : v ≤ 15) : RelU v (((U.set (prI a b) true).set (prI a c) true).set (prI b c) true) (putM m a b c) := by
  have l1 := prI_lt (a := a) (b := b) (by omega) (by omega)
  have l2 := prI_lt (a := a) (b := c) (by omega) (by omega)
  have l3 := prI_lt (a := b) (b := c) (by omega) (by omega)
  refine ⟨by simp [h.1], fun x y hx hy hne => ?_⟩
  rw [getD_set (by simp [h.1]; omega), getD_set (by simp [h.1]; omega), getD_set (by rw [h.1]; omega), h.2 x y hx hy hne]
  have hup := usd_put (m := m) (a := a) (b := b) (c := c) (by omega) (by omega) (by omega) (x := x) (y := y) (by omega) (by omega)
  by_cases e1 : prI x y = prI b c
  · rw [if_pos e1]
    have := prI_inj (a := x) (b := y) (x := b) (y := c) (by omega) (by omega) (by omega) (by omega) e1
    exact (hup.2 (by omega)).symm
  · rw [if_neg e1]
    by_cases e2 : prI x y = prI a c
    · rw [if_pos e2]
      have := prI_inj (a := x) (b := y) (x := a) (y := c) (by omega) (by omega) (by omega) (by omega) e2
      exact (hup.2 (by omega)).symm
    · rw [if_neg e2]
      by_cases e3 : prI x y = prI a b
      · rw [if_pos e3]
        have := prI_inj (a := x) (b := y) (x := a) (y := b) (by omega) (by omega) (by omega) (by omega) e3
        exact (hup.2 (by omega)).symm
      · rw [if_neg e3]
        cases hu : usd m x y with
        | true => exact (hup.2 (.inl hu)).symm
        | false =>
          cases hp : usd (putM m a b c) x y with
          | false => rfl
          | true =>
            rcases hup.1 hp with h1 | h1
            · rw [hu] at h1; cases h1
            · exfalso
              rcases h1 with (⟨rfl, rfl⟩ | ⟨rfl, rfl⟩) | (⟨rfl, rfl⟩ | ⟨rfl, rfl⟩) | (⟨rfl, rfl⟩ | ⟨rfl, rfl⟩)
              · exact e3 rfl
              · exact e3 (prI_comm _ _)
              · exact e2 rfl
              · exact e2 (prI_comm _ _)
              · exact e1 rfl
              · exact e1 (prI_comm _ _)
theorem relU_del (h : RelU v U (putM m a b c)) (ha : a < b) (hb : b < c) (hc : c < v) (hv : v ≤ 15) (h1 : usd m a b = false) (h2 : usd m a c = false) (h3 : usd m b c = false) : RelU v (((U.set (prI a b) false).set (prI a c) false).set (prI b c) false) m := by
  have l1 := prI_lt (a := a) (b := b) (by omega) (by omega)
  have l2 := prI_lt (a := a) (b := c) (by omega) (by omega)
  have l3 := prI_lt (a := b) (b := c) (by omega) (by omega)
  refine ⟨by simp [h.1], fun x y hx hy hne => ?_⟩
  rw [getD_set (by simp [h.1]; omega), getD_set (by simp [h.1]; omega), getD_set (by rw [h.1]; omega), h.2 x y hx hy hne]
  have hup := usd_put (m := m) (a := a) (b := b) (c := c) (by omega) (by omega) (by omega) (x := x) (y := y) (by omega) (by omega)
  have key : ∀ s t : Nat, s < 16 → t < 16 → usd m s t = false → prI x y = prI s t → false = usd m x y := by
    intro s t hs ht hu e
    rcases prI_inj (by omega) (by omega) hs ht e with ⟨rfl, rfl⟩ | ⟨rfl, rfl⟩
    · exact hu.symm
    · rw [usd_comm]; exact hu.symm
  by_cases e1 : prI x y = prI b c
  · rw [if_pos e1]; exact key b c (by omega) (by omega) h3 e1
  · rw [if_neg e1]
    by_cases e2 : prI x y = prI a c
    · rw [if_pos e2]; exact key a c (by omega) (by omega) h2 e2
    · rw [if_neg e2]
      by_cases e3 : prI x y = prI a b
      · rw [if_pos e3]; exact key a b (by omega) (by omega) h1 e3
      · rw [if_neg e3]
        cases hu : usd m x y with
        | true => exact hup.2 (.inl hu)
        | false =>
          cases hp : usd (putM m a b c) x y with
          | false => rfl
          | true =>
            rcases hup.1 hp with h4 | h4
            · rw [hu] at h4; cases h4
            · exfalso
              rcases h4 with (⟨rfl, rfl⟩ | ⟨rfl, rfl⟩) | (⟨rfl, rfl⟩ | ⟨rfl, rfl⟩) | (⟨rfl, rfl⟩ | ⟨rfl, rfl⟩)
              · exact e3 rfl
              · exact e3 (prI_comm _ _)
              · exact e2 rfl
              · exact e2 (prI_comm _ _)
              · exact e1 rfl
              · exact e1 (prI_comm _ _)
theorem relU_zero : RelU v (List.replicate 256 false) 0 := by
  refine ⟨List.length_replicate, fun x y _ _ _ => ?_⟩
  have h0 : usd 0 x y = false := by simp [usd]
  rw [h0, List.getD_eq_getElem?_getD, List.getElem?_replicate]
  split <;> rfl
/-- What the loops for the first pair have found. -/
def Fnd (v m : Nat) (a b : Int) (p : Nat) : Prop := (a = -1 ∧ b = -1 ∧ p ≤ v ∧ ∀ i j, i < p → i < j → j < v → usd m i j = true) ∨ ∃ x y : Nat, a = x ∧ b = y ∧ IsNext v m x y
theorem may_of (h : IsNext v m a b) (hc : c < v) (h1 : c ≠ a) (h2 : c ≠ b) (h3 : usd m a c = false) (h4 : usd m b c = false) : may m a b c = true := by
  have h5 : b < c := by
    apply Decidable.byContradiction
    intro h6
    by_cases h7 : c < a
    · rw [usd_comm, h.rows c a h7 h7 (by have := h.ab; have := h.bv; omega)] at h3
      cases h3
    · rw [h.row c (by omega) (by omega)] at h3
      cases h3
  unfold may
  have : Nat.blt b c = true := by rw [Nat.blt_eq]; exact h5
  simp [this, h3, h4]
theorem may_no (h : ¬ (c ≠ a ∧ c ≠ b ∧ usd m a c = false ∧ usd m b c = false)) (hab : a < b) : may m a b c = false := by
  cases hm : may m a b c with
  | false => rfl
  | true =>
    obtain ⟨h1, h2, h3⟩ := may_spec hm
    exact absurd ⟨by omega, by omega, h2, h3⟩ h
variable {most : Nat} {α : Type}
theorem goesC_most : ∀ {L : List α} {k : Nat}, k < most → goesC (fun j => decide (j < most)) k L = decide (k + (runC (fun j => decide (j < most)) k L).length < most) := by
  intro L
  induction L with
  | nil => intro k hk; simp [goesC, runC, hk]
  | cons x L ih =>
    intro k hk
    unfold goesC runC
    by_cases h : k + 1 < most
    · simp only [h, decide_true, Bool.true_and, if_true]
      rw [ih h, List.length_cons]
      congr 1
      rw [show k + 1 + (runC (fun j => decide (j < most)) (k + 1) L).length = k + ((runC (fun j => decide (j < most)) (k + 1) L).length + 1) by omega]
    · simp [h]
theorem srch_end {l l2 : List (List B3)} {xs : List B3} (hlm : l.length < most) (hl2 : l2 = l ++ runC (fun j => decide (j < most)) l.length (leaf xs (compJ n v m a b c))) (hlast : c = v ∨ ¬ l2.length < most) (hc : c ≤ v) : l ++ runC (fun j => decide (j < most)) l.length (leaf xs (compJ n v m a b v)) = l2 := by
  rcases hlast with rfl | h
  · exact hl2.symm
  · obtain ⟨r, hr⟩ := leaf_pre (xs := xs) (n := n) (v := v) (m := m) (a := a) (b := b) hc
    have h1 : goesC (fun j => decide (j < most)) l.length (leaf xs (compJ n v m a b c)) = false := by
      rw [goesC_most hlm]
      have h2 := congrArg List.length hl2
      rw [List.length_append] at h2
      exact decide_eq_false (by omega)
    rw [hr, runC_stop h1, ← hl2]
end
section
variable {P : Program} {N : Nat} {w0 w : World} {Q : Exit → Act → World → Prop} {σ : Sig} {H H' : List Assn} {ops : Array Oper} {rest : List Oper}
/-- A search: its cells, the pairs that are used, what it has found; what has been counted, l. -/
def SrchK (T uT fT bT : TypeId) (sb v most : Nat) (keep : Bool) (m : Nat) (l : List (List B3)) : Assn :=
  .exi fun q : ((Option Addr × Nat) × List Bool) × (Option Addr × Nat) × List (Sl × List B3) => .sep (.pur (RelU v q.1.2 m ∧ (conts q.2.2 = if keep then l else []) ∧ ∀ p ∈ q.2.2, p.1.A.isSome = true))
    (.sep (Blk sb [.int .i64 (v : Int), .slice q.1.1.1 q.1.2.length q.1.1.2, .int .i64 (l.length : Int), .int .i64 (most : Int), .bool keep, .slice q.2.1.1 (tops q.2.2).length q.2.1.2] T)
      (.sep (Own uT BoolC q.1.1.1 q.1.1.2 q.1.2) (.sep (Own fT SlC q.2.1.1 q.2.1.2 (tops q.2.2)) (RowsA bT B3C q.2.2))))
theorem relU_putI {v m : Nat} {U : List Bool} {d : B3} (h : RelU v U m) (hd : inB v d) (hv : v ≤ 15) : RelU v (((U.set (prI d.1.toNat d.2.1.toNat) true).set (prI d.1.toNat d.2.2.toNat) true).set (prI d.2.1.toNat d.2.2.toNat) true) (putB m d) := by
  obtain ⟨x, y, z, rfl, h1, h2, h3⟩ := hd
  exact relU_put h h1 h2 h3 hv
theorem inB_pts {v : Nat} {d : B3} (hd : inB v d) (hv : v ≤ 15) : (0 ≤ d.1 ∧ d.1 < 16) ∧ (0 ≤ d.2.1 ∧ d.2.1 < 16) ∧ (0 ≤ d.2.2 ∧ d.2.2 < 16) := by
  obtain ⟨x, y, z, rfl, h1, h2, h3⟩ := hd
  unfold b3N
  simp only
  omega
theorem maskB_snoc {m : Nat} {bs : List B3} {d : B3} : maskB m (bs ++ [d]) = putB (maskB m bs) d := by unfold maskB; rw [List.foldl_append]; rfl
variable {T uT fT bT : TypeId} {sb v most m : Nat} {keep : Bool} {l : List (List B3)}
theorem SrchK.elim (hw : St w0 (SrchK T uT fT bT sb v most keep m l :: H) w) : ∃ uA uk U fA fk ps, RelU v U m ∧ conts ps = (if keep then l else []) ∧ (∀ p ∈ ps, p.1.A.isSome = true) ∧
    St w0 (Blk sb [.int .i64 (v : Int), .slice uA U.length uk, .int .i64 (l.length : Int), .int .i64 (most : Int), .bool keep, .slice fA (tops ps).length fk] T :: Own uT BoolC uA uk U :: Own fT SlC fA fk (tops ps) :: RowsA bT B3C ps :: H) w := by
  obtain ⟨q, hw⟩ := hw.exi
  have h1 := hw.sep.pur
  refine ⟨q.1.1.1, q.1.1.2, q.1.2, q.2.1.1, q.2.1.2, q.2.2, h1.1.1, h1.1.2.1, h1.1.2.2, ?_⟩
  have h2 := h1.2.sep
  have h3 := (h2.perm (List.Perm.swap _ _ _)).sep
  have h5 := (h3.perm (List.Perm.swap _ _ _)).sep
  exact (h5.sub (Sub.keep 3 rfl (Sub.keep 2 rfl (Sub.keep 0 rfl (Sub.keep 0 rfl (Sub.refl _))))))
theorem V.srchK {c : Code} (h : ∀ uA uk U fA fk ps, RelU v U m → conts ps = (if keep then l else []) → (∀ p ∈ ps, p.1.A.isSome = true) → V P N w0 c Q σ (Blk sb [.int .i64 (v : Int), .slice uA U.length uk, .int .i64 (l.length : Int), .int .i64 (most : Int), .bool keep, .slice fA (tops ps).length fk] T :: Own uT BoolC uA uk U :: Own fT SlC fA fk (tops ps) :: RowsA bT B3C ps :: H)) : V P N w0 c Q σ (SrchK T uT fT bT sb v most keep m l :: H) := by
  intro w hw
  obtain ⟨uA, uk, U, fA, fk, ps, h1, h2, h4, h3⟩ := SrchK.elim hw
  exact h uA uk U fA fk ps h1 h2 h4 w h3
theorem O.srchK (h : ∀ uA uk U fA fk ps, RelU v U m → conts ps = (if keep then l else []) → (∀ p ∈ ps, p.1.A.isSome = true) → O P N w0 ops Q rest σ (Blk sb [.int .i64 (v : Int), .slice uA U.length uk, .int .i64 (l.length : Int), .int .i64 (most : Int), .bool keep, .slice fA (tops ps).length fk] T :: Own uT BoolC uA uk U :: Own fT SlC fA fk (tops ps) :: RowsA bT B3C ps :: H)) : O P N w0 ops Q rest σ (SrchK T uT fT bT sb v most keep m l :: H) := by
  intro w hw
  obtain ⟨uA, uk, U, fA, fk, ps, h1, h2, h4, h3⟩ := SrchK.elim hw
  exact h uA uk U fA fk ps h1 h2 h4 w h3
theorem SrchK.mk {uA fA : Option Addr} {uk fk : Nat} {U : List Bool} {ps : List (Sl × List B3)} (hr : RelU v U m) (hc : conts ps = if keep then l else []) (hso : ∀ p ∈ ps, p.1.A.isSome = true)
    (hw : St w0 (Blk sb [.int .i64 (v : Int), .slice uA U.length uk, .int .i64 (l.length : Int), .int .i64 (most : Int), .bool keep, .slice fA (tops ps).length fk] T :: Own uT BoolC uA uk U :: Own fT SlC fA fk (tops ps) :: RowsA bT B3C ps :: H) w) : St w0 (SrchK T uT fT bT sb v most keep m l :: H) w := by
  refine St.mkExi (((uA, uk), U), (fA, fk), ps) (St.unsep (St.addPur ⟨hr, hc, hso⟩ ?_))
  have h1 : St w0 (Own fT SlC fA fk (tops ps) :: RowsA bT B3C ps :: Own uT BoolC uA uk U :: Blk sb [.int .i64 (v : Int), .slice uA U.length uk, .int .i64 (l.length : Int), .int .i64 (most : Int), .bool keep, .slice fA (tops ps).length fk] T :: H) w := hw.sub (Sub.keep 2 rfl (Sub.keep 2 rfl (Sub.keep 1 rfl (Sub.keep 0 rfl (Sub.refl _)))))
  have h2 := (St.unsep h1).perm (List.Perm.swap _ _ _)
  have h3 := (St.unsep h2).perm (List.Perm.swap _ _ _)
  exact St.unsep h3
end
end Go.Vc
/-
  The calculus, part 19: fields of a list's elements.
-/
namespace Go.Vc
open Go Go.RowKit
section
variable {P : Program} {w0 w : World} {σ : Sig} {H H' : List Assn} {o : Oper} {v : Int}
theorem Pu.fieldAddr' {T : TypeId} {x : Operand} {f off : Nat} {p : Option Addr} {fs : Array Field} {fd : Field} {n : Nat} (ho : o.op = .fieldAddr T x f) (hT : P.underlying T = some (.struct fs)) (hf : fs[f]? = some fd) (hs : Sz P fd.type (n + 1)) (hx : ev σ x = some (.pointer p)) (hr : fd.offset = off) (hp : ∀ w, St w0 H w → p.isSome = true) :
    Pu P w0 o σ H (.pointer (p.map (·.add off))) := by
  intro w hw a ha
  subst hr
  have h1 := ha x (by simp [ho, Op.operands]) _ hx
  obtain ⟨q, rfl⟩ := Option.isSome_iff_exists.1 (hp w hw)
  simp [execOp, ho, h1, Instr.fieldAt, run_underlying hT, hf, Instr.sureAddr, fieldPlace, run_sz hs]
theorem Ld.rowYf {A : Option Addr} {ps : List (Sl × List B3)} (hr : ∀ w, St w0 H w → Rd (SyC v) w A (tops ps)) (hn : LenOk ps) {k s : Nat} (hk : k < ps.length) (hs : s = 2) :
    ∀ w, St w0 H w → ∃ q, (A.map (·.add (k * s))).map (·.add 1) = some q ∧ w.cell? q = some (.slice (ps[k]).1.A (ps[k]).2.length (ps[k]).1.c) := by
  intro w hw
  obtain ⟨q, h1, h2⟩ := Ld.rowY hr hn hk hs w hw
  exact ⟨q.add 1, by rw [h1]; rfl, h2 1 _ rfl⟩
theorem prev_bef {ps qs : List (Sl × List B3)} {i k : Nat} (hpw : (conts ps).Pairwise befB) (ho : conts qs = (conts ps).take i) (hi : i < ps.length) (hk : k < qs.length) (hki : k < i) : befB (qs[k]).2 (ps[i]).2 := by
  have l1 := conts_len ps
  have l2 := conts_len qs
  have h := List.pairwise_iff_getElem.1 hpw k i (by omega) (by omega) hki
  have e1 : (conts ps)[i]'(by omega) = (ps[i]).2 := List.getElem_map ..
  have e2 : (conts qs)[k]'(by omega) = (qs[k]).2 := List.getElem_map ..
  have e3 : (conts qs)[k]'(by omega) = (conts ps)[k]'(by omega) := by
    have h4 : (conts qs)[k]? = (conts ps)[k]? := by rw [ho, List.getElem?_take]; simp [hki]
    rw [List.getElem?_eq_getElem (by omega), List.getElem?_eq_getElem (by omega)] at h4
    exact Option.some.inj h4
  rw [← e1, ← e2, e3]
  exact h
theorem runC_sub {α : Type} {cont : Nat → Bool} : ∀ {L : List α} {k : Nat}, (runC cont k L).Sublist L := by
  intro L
  induction L with
  | nil => intro k; exact List.Sublist.refl _
  | cons x L ih =>
    intro k
    unfold runC
    split
    · exact ih.cons_cons x
    · exact (List.nil_sublist L).cons_cons x
theorem runC_leaf_sub {cont : Nat → Bool} {n v m k : Nat} : (runC cont k (leaf [] (compM n v m))).Sublist (compM n v m) := by
  have e : leaf [] (compM n v m) = compM n v m := by simp [leaf]
  rw [e]
  exact runC_sub
end
theorem few_lt {v : Int} (h : few9 v) : (compM 40 v.toNat 0).length < 1000 := by
  rcases h with rfl | rfl | rfl
  · rw [cntM_eq]; show cntM 40 3 0 < 1000; rw [cnt3]; decide
  · rw [cntM_eq]; show cntM 40 7 0 < 1000; rw [cnt7]; decide
  · rw [cntM_eq]; show cntM 40 9 0 < 1000; rw [cnt9]; decide
theorem run_all {n v most : Nat} (h : (compM n v 0).length < most) : runC (fun j => decide (j < most)) 0 (leaf [] (compM n v 0)) = compM n v 0 := by
  have e : leaf [] (compM n v 0) = compM n v 0 := by simp [leaf]
  rw [e]
  refine runC_all ?_
  rw [goesC_most (by omega)]
  have := runC_le (cont := fun j => decide (j < most)) (k := 0) (l := compM n v 0)
  exact decide_eq_true (by omega)
theorem sub_sorted : ∀ {m l : List B3}, l.Pairwise B3.lt → m.Pairwise B3.lt → (∀ b ∈ l, b ∈ m) → l.Sublist m := by
  intro m
  induction m with
  | nil =>
    intro l _ _ h
    cases l with
    | nil => exact List.Sublist.refl _
    | cons x l => exact absurd (h x (by simp)) (by simp)
  | cons y m ih =>
    intro l hl hm h
    cases l with
    | nil => exact List.nil_sublist _
    | cons x l =>
      obtain ⟨h1, h2⟩ := List.pairwise_cons.1 hl
      obtain ⟨h3, h4⟩ := List.pairwise_cons.1 hm
      rcases List.mem_cons.1 (h x (by simp)) with rfl | hx
      · refine (ih h2 h4 fun b hb => ?_).cons_cons x
        rcases List.mem_cons.1 (h b (by simp [hb])) with rfl | hb'
        · exact absurd (h1 b hb) (lt_irrefl b)
        · exact hb'
      · refine (ih hl h4 fun b hb => ?_).cons y
        rcases List.mem_cons.1 (h b hb) with rfl | hb'
        · exfalso
          rcases List.mem_cons.1 hb with rfl | hb2
          · exact lt_irrefl b (h3 b hx)
          · exact lt_asymm3 (h3 x hx) (h1 b hb2)
        · exact hb'
/-- All the blocks of one list are in the other one. -/
theorem common_all {l m : List B3} (hl : l.Pairwise B3.lt) (hm : m.Pairwise B3.lt) (he : l.length = m.length) : (l.filter fun b => decide (b ∈ m)).length = m.length ↔ m = l := by
  constructor
  · intro h
    have h1 : l.filter (fun b => decide (b ∈ m)) = l := by
      have hs := List.filter_sublist (p := fun b => decide (b ∈ m)) (l := l)
      exact hs.eq_of_length (by omega)
    have hsub : ∀ b ∈ l, b ∈ m := by
      intro b hb
      rw [← h1] at hb
      simpa using (List.mem_filter.1 hb).2
    exact ((sub_sorted hl hm hsub).eq_of_length he).symm
  · intro h
    subst h
    rw [List.filter_eq_self.2 (by simp)]
end Go.Vc
/-
  Plain words: the first system that is apart; how many blocks are common.
-/
namespace Go.Vc
/-- No block in common. -/
def ApartB (bs q : List B3) : Prop := ∀ b ∈ bs, b ∉ q
instance (bs q : List B3) : Decidable (ApartB bs q) := inferInstanceAs (Decidable (∀ b ∈ bs, b ∉ q))
theorem apart_I {bs q : List B3} : (bs.filter fun b => decide (b ∈ q)).length = 0 ↔ ApartB bs q := by
  rw [List.length_eq_zero_iff, List.filter_eq_nil_iff]
  unfold ApartB
  simp
theorem apart_S {bs q : List B3} : (q.filter fun b => decide (b ∈ bs)).length = 0 ↔ ApartB bs q := by
  rw [List.length_eq_zero_iff, List.filter_eq_nil_iff]
  unfold ApartB
  simp only [decide_eq_true_eq]
  exact ⟨fun h b h1 h2 => h b h2 h1, fun h b h1 h2 => h b h2 h1⟩
/-- The first of all systems that is apart. -/
noncomputable def firstA (v : Int) (bs : List B3) : Option (List B3) := (allN v).find? fun q => decide (ApartB bs q)
theorem firstA_at {v : Int} {bs : List B3} {ps : List (Sl × List B3)} (h : conts ps = allN v) {i : Nat} (hi : i < ps.length) (h1 : ApartB bs (ps[i]).2) (h2 : ∀ j (hj : j < ps.length), j < i → ¬ ApartB bs (ps[j]).2) : firstA v bs = some (ps[i]).2 := by
  have hl := conts_len ps
  unfold firstA
  rw [← h, List.find?_eq_some_iff_getElem]
  refine ⟨decide_eq_true h1, i, by omega, conts_get ps (by omega), fun j hj => ?_⟩
  rw [conts_get ps (by omega), decide_eq_false (h2 j (by omega) hj)]
  rfl
theorem firstA_no {v : Int} {bs : List B3} {ps : List (Sl × List B3)} (h : conts ps = allN v) (h2 : ∀ j (hj : j < ps.length), ¬ ApartB bs (ps[j]).2) : firstA v bs = none := by
  unfold firstA
  rw [← h, List.find?_eq_none]
  intro q hq
  obtain ⟨x, hx, rfl⟩ := List.mem_map.1 hq
  obtain ⟨j, hj, rfl⟩ := List.getElem_of_mem hx
  simpa using h2 j hj
/-- What both FirstApart return. -/
noncomputable def apR (v : Int) (bs : List B3) : Int × List B3 × Int :=
  if STS v bs then if Few v bs then match firstA v bs with | some q => (v, q, 0) | none => (0, [], 4) else (0, [], 5) else (0, [], 1)
theorem apR_1 {v : Int} {bs : List B3} (h : ¬ STS v bs) : apR v bs = (0, [], 1) := by unfold apR; rw [if_neg h]
theorem apR_5 {v : Int} {bs : List B3} (h : STS v bs) (h2 : ¬ Few v bs) : apR v bs = (0, [], 5) := by unfold apR; rw [if_pos h, if_neg h2]
theorem apR_4 {v : Int} {bs : List B3} (h : STS v bs) (h2 : Few v bs) (h3 : firstA v bs = none) : apR v bs = (0, [], 4) := by unfold apR; rw [if_pos h, if_pos h2, h3]
theorem apR_0 {v : Int} {bs q : List B3} (h : STS v bs) (h2 : Few v bs) (h3 : firstA v bs = some q) : apR v bs = (v, q, 0) := by unfold apR; rw [if_pos h, if_pos h2, h3]
theorem apR_no {v : Int} {bs : List B3} {c : Int} (hc : (if STS v bs then if Few v bs then (0 : Int) else 5 else 1) = c) (h : ¬ c = 0) : apR v bs = (0, [], c) := by
  subst hc
  by_cases h1 : STS v bs
  · by_cases h2 : Few v bs
    · rw [if_pos h1, if_pos h2] at h; exact absurd rfl h
    · rw [if_pos h1, if_neg h2]; exact apR_5 h1 h2
  · rw [if_neg h1]; exact apR_1 h1
theorem apR_len {v : Int} {bs : List B3} : (apR v bs).2.1.length ≤ 40 := by
  unfold apR
  split
  · split
    · rename_i hS hF
      split
      · rename_i q hq
        have h := List.mem_of_find?_eq_some hq
        exact compM_len 40 _ _ _ h
      · simp
    · simp
  · simp
/-- How many of the first i lists have q blocks of bs, for each q. -/
def cntC (bs : List B3) (ls : List (List B3)) (n i : Nat) : List Int := (List.range n).map fun q => (((ls.take i).filter fun y => decide ((bs.filter fun b => decide (b ∈ y)).length = q)).length : Int)
section
variable {bs : List B3} {ls : List (List B3)} {n i : Nat}
theorem cntC_len : (cntC bs ls n i).length = n := by simp [cntC]
theorem cntC_start : cntC bs ls n 0 = List.replicate n 0 := by
  apply List.ext_getElem
  · simp [cntC_len]
  · intro j h1 h2
    simp [cntC]
theorem cntC_bd {q : Nat} (hq : q < (cntC bs ls n i).length) : 0 ≤ (cntC bs ls n i)[q] ∧ (cntC bs ls n i)[q] ≤ i := by
  simp only [cntC, List.getElem_map, List.getElem_range]
  have h1 := List.length_filter_le (fun y : List B3 => decide ((bs.filter fun b => decide (b ∈ y)).length = q)) (ls.take i)
  have h2 := List.length_take_le i ls
  omega
theorem cntC_step (hi : i < ls.length) {q : Nat} (e : (bs.filter fun b => decide (b ∈ ls[i])).length = q) (hq : q < (cntC bs ls n i).length) : (cntC bs ls n i).set q ((cntC bs ls n i)[q] + 1) = cntC bs ls n (i + 1) := by
  apply List.ext_getElem
  · rw [List.length_set, cntC_len, cntC_len]
  · intro j h1 h2
    rw [List.getElem_set]
    have hs : ∀ z, (((ls.take (i + 1)).filter fun y => decide ((bs.filter fun b => decide (b ∈ y)).length = z)).length : Int) = ((ls.take i).filter fun y => decide ((bs.filter fun b => decide (b ∈ y)).length = z)).length + (if q = z then 1 else 0) := by
      intro z
      rw [take_snoc hi, List.filter_append, List.length_append]
      by_cases hz : q = z
      · subst hz
        simp [e]
      · simp [e, hz]
    by_cases ej : q = j
    · subst ej
      rw [if_pos rfl]
      simp only [cntC, List.getElem_map, List.getElem_range]
      rw [hs, if_pos rfl]
    · rw [if_neg ej]
      simp only [cntC, List.getElem_map, List.getElem_range]
      rw [hs, if_neg ej]
      simp
end
theorem cmn_le {bs q : List B3} : (bs.filter fun b => decide (b ∈ q)).length ≤ bs.length := List.length_filter_le _ _
/-- Whichever list is gone through. -/
theorem cmn_comm {bs q : List B3} (h1 : bs.Pairwise B3.lt) (h2 : q.Pairwise B3.lt) : (q.filter fun b => decide (b ∈ bs)).length = (bs.filter fun b => decide (b ∈ q)).length := by
  have n1 : bs.Nodup := h1.imp fun h => by rintro rfl; exact lt_irrefl _ h
  have n2 : q.Nodup := h2.imp fun h => by rintro rfl; exact lt_irrefl _ h
  refine ((List.perm_ext_iff_of_nodup (n2.filter _) (n1.filter _)).2 fun b => ?_).length_eq
  simp only [List.mem_filter, decide_eq_true_eq]
  exact And.comm
/-- What both CommonNumbers return. -/
noncomputable def cmR (v : Int) (bs : List B3) : List Int × Int :=
  if STS v bs then if Few v bs then (cntC bs (allN v) (bs.length + 1) (allN v).length, 0) else ([], 5) else ([], 1)
theorem cmR_no {v : Int} {bs : List B3} {c : Int} (hc : (if STS v bs then if Few v bs then (0 : Int) else 5 else 1) = c) (h : ¬ c = 0) : cmR v bs = ([], c) := by
  subst hc
  unfold cmR
  by_cases h1 : STS v bs
  · by_cases h2 : Few v bs
    · rw [if_pos h1, if_pos h2] at h; exact absurd rfl h
    · rw [if_pos h1, if_neg h2, if_pos h1, if_neg h2]
  · rw [if_neg h1, if_neg h1]
theorem cmR_0 {v : Int} {bs : List B3} (h : STS v bs) (h2 : Few v bs) : cmR v bs = (cntC bs (allN v) (bs.length + 1) (allN v).length, 0) := by unfold cmR; rw [if_pos h, if_pos h2]
theorem cmR_len {v : Int} {bs : List B3} : (cmR v bs).1.length ≤ bs.length + 1 := by
  unfold cmR
  split
  · split
    · rw [cntC_len]; omega
    · simp
  · simp
section
variable {w0 w : World} {H : List Assn} {α : Type} {T : TypeId} {C : Cod α}
/-- One row is kept. -/
theorem RowsA.out {ps : List (Sl × List α)} {k : Nat} (hk : k < ps.length) (hw : St w0 (RowsA T C ps :: H) w) : St w0 (Own T C (ps[k]).1.A (ps[k]).1.c (ps[k]).2 :: H) w := by
  have e : ps = ps.take k ++ ps[k] :: ps.drop (k + 1) := by
    rw [← List.drop_eq_getElem_cons hk, List.take_append_drop]
  have hp : ps.Perm (ps[k] :: (ps.take k ++ ps.drop (k + 1))) := by
    conv => lhs; rw [e]
    exact List.perm_middle
  have h1 := RowsA.perm hp hw
  exact ((RowsA.uncons (s := (ps[k]).1) (xs := (ps[k]).2) h1).2).sub (Sub.keep 0 rfl (Sub.drop (Sub.refl _)))
end
end Go.Vc
/-
  The calculus, part 19: two results, the first of which lies in memory; the marks of blocks.
-/
namespace Go.Vc
open Go Go.RowKit
section
variable {P : Program} {N : Nat} {w0 w : World} {Q : Exit → Act → World → Prop} {σ : Sig} {H H' : List Assn}
theorem St.mapR {R : List Assn} (h : ∀ w, St w0 H w → St w0 H' w) (k : ∀ w, St w0 H' w → St w0 R w) : ∀ w, St w0 H w → St w0 R w := fun w hw => k w (h w hw)
theorem X.retCell2 {fn : Func} {t s n : Nat} {T : TypeId} {p : Option Addr} {cs : List Value} {u : Value} {R : Value → List Assn} (hr : fn.results = #[.cell t T, .tmp s]) (hT : aggT P T = true) (hz : Sz P T n) (hl : cs.length = n) (ht : look σ t = some (.pointer p)) (hs' : look σ s = some u)
    (hc : ∀ w, St w0 H w → ∃ q, p = some q ∧ ∀ j u, cs[j]? = some u → w.cell? (q.add j) = some u) (hs : ∀ w, St w0 H w → St w0 (R (.tuple #[.agg cs.toArray, u])) w) :
    X N w0 (bodyPost P fn (fun e w' => ∃ v, e = .returned v ∧ St w0 (R v) w')) .ret σ H := by
  intro w hw a ha
  refine ⟨ha.defers, .tuple #[.agg cs.toArray, u], ?_, _, rfl, hs w hw⟩
  have h1 := ha.look_ t _ ht
  have h2 := ha.look_ s _ hs'
  obtain ⟨q, rfl, hq⟩ := hc w hw
  subst hl
  have hrn := run_loadCells_list (P := P) (w := w) q cs hq
  simp [results, hr, h1, h2, asAddr, loadVar, run_isAgg_t hT, run_sz hz, hrn]
end
section
variable {w0 : World} {H : List Assn}
theorem Ld.part {A : Option Addr} {xs : List B3} {k s j : Nat} {u : Value} (hr : ∀ w, St w0 H w → Rd B3C w A xs) (hk : k < xs.length) (hs : s = 3) (hu : (B3.cs xs[k])[j]? = some u) : ∀ w, St w0 H w → ∃ q, (A.map (·.add (k * s))).map (·.add j) = some q ∧ w.cell? q = some u := by
  intro w hw
  obtain ⟨q, h1, h2⟩ := Ld.rds hr hk (s := s) hs w hw
  exact ⟨q.add j, by rw [h1]; rfl, h2 j u hu⟩
/-- A field of a struct that is a value: one cell. -/
theorem Pu.field {P : Program} {σ : Sig} {o : Oper} {T : TypeId} {x : Operand} {f : Nat} {fs : Array Field} {fd : Field} {cs : Array Value} {u : Value} (ho : o.op = .field T x f) (hT : P.underlying T = some (.struct fs)) (hf : fs[f]? = some fd) (hp : plainT P fd.type = true) (hx : ev σ x = some (.agg cs)) (hu : cs[fd.offset]? = some u) : Pu P w0 o σ H u := by
  intro w hw a ha
  have h1 := ha x (by simp [ho, Op.operands]) _ hx
  simp [execOp, ho, h1, Instr.field, run_underlying hT, hf, asAgg, part, run_isAgg_f hp, hu]
end
/-- Two strings are equal, or not. -/
theorem Pu.eqlStr {P : Program} {w0 : World} {H : List Assn} {σ : Sig} {o : Oper} {T T2 : TypeId} {x y : Operand} {s t : ByteArray} {b : Bool} (hb : (s.toList == t.toList) = b) (ho : o.op = .binOp .eql T x y T2) (hx : ev σ x = some (.string s)) (hy : ev σ y = some (.string t)) : Pu P w0 o σ H (.bool b) := by
  subst hb
  intro w hw a ha
  have h1 := ha x (by simp [ho, Op.operands]) _ hx
  have h2 := ha y (by simp [ho, Op.operands]) _ hy
  have he : (eqGuard .eql T x y (.string s) (.string t)).run P w = .ok () w := by
    unfold eqGuard
    simp
  simp [execOp, ho, h1, h2, he, Go.binOp, Op.stringOp]
/-- The marks of n blocks. -/
def marksB (m : Int) (n : Nat) : List B3 := (List.range n).map fun i : Nat => (m + 3 * (i : Int), m + 3 * (i : Int) + 1, m + 3 * (i : Int) + 2)
theorem marksB_len (m : Int) (n : Nat) : (marksB m n).length = n := by simp [marksB]
theorem marksB_get (m : Int) (n : Nat) {k : Nat} (hk : k < (marksB m n).length) : (marksB m n)[k] = (m + 3 * (k : Int), m + 3 * (k : Int) + 1, m + 3 * (k : Int) + 2) := by simp [marksB]
def markBAt (xs : List B3) (m : Int) (k : Nat) : List B3 := marksB m k ++ xs.drop k
theorem markBAt_zero (xs : List B3) (m : Int) : markBAt xs m 0 = xs := by simp [markBAt, marksB]
theorem markBAt_len {xs : List B3} {m : Int} {k : Nat} (h : k ≤ xs.length) : (markBAt xs m k).length = xs.length := by simp [markBAt, marksB_len]; omega
theorem markBAt_set {xs : List B3} {m : Int} {k : Nat} (h : k < xs.length) : (markBAt xs m k).set k (m + 3 * (k : Int), m + 3 * (k : Int) + 1, m + 3 * (k : Int) + 2) = markBAt xs m (k + 1) := by
  unfold markBAt
  rw [List.set_append_right _ _ (by rw [marksB_len]; exact Nat.le_refl _), marksB_len, Nat.sub_self, drop_cons h, List.set_cons_zero]
  unfold marksB
  rw [List.range_succ, List.map_append, List.append_assoc]
  rfl
theorem markBAt_all {xs : List B3} {m : Int} {k : Nat} (h : k = xs.length) : markBAt xs m k = marksB m xs.length := by
  subst h
  simp [markBAt]
theorem set3 {l : List B3} {k : Nat} (hk : k < l.length) {a b c a2 b2 : B3} : ((l.set k a).set k b).set k c = l.set k c := by rw [List.set_set, List.set_set]
end Go.Vc
/-
  Plain words: parts that fix a system.
-/
namespace Go.Vc
theorem com_comm (a b : B3) : common a b = common b a := by
  unfold common
  simp only [@eq_comm _ b.1 a.1, @eq_comm _ b.1 a.2.1, @eq_comm _ b.1 a.2.2, @eq_comm _ b.2.1 a.1, @eq_comm _ b.2.1 a.2.1, @eq_comm _ b.2.1 a.2.2, @eq_comm _ b.2.2 a.1, @eq_comm _ b.2.2 a.2.1, @eq_comm _ b.2.2 a.2.2]
  omega
instance (a b : B3) : Decidable (leB a b) := inferInstanceAs (Decidable (¬ _))
section
variable {v m n : Nat}
theorem usd_put_false {a b c x y : Nat} (ha : a < 16) (hb : b < 16) (hc : c < 16) (hx : x < 16) (hy : y < 16) (h : usd (putM m a b c) x y = false) : usd m x y = false := by
  cases hh : usd m x y with
  | false => rfl
  | true =>
    have := (usd_put (m := m) ha hb hc hx hy).2 (.inl hh)
    rw [this] at h
    cases h
/-- What a completion is. -/
theorem comp_rest : ∀ n v m (q : List B3), v ≤ 15 → q ∈ compM n v m → Rest v m q := by
  intro n
  induction n with
  | zero =>
    intro v m q hv hq
    rcases mem_comp hq with ⟨rfl, _⟩ | ⟨k, a, b, c, r, hk, _⟩
    · exact ⟨fun _ h => by simp at h, fun _ h => by simp at h, List.Pairwise.nil, List.Pairwise.nil⟩
    · omega
  | succ n ih =>
    intro v m q hv hq
    have hs := comp_sorted _ _ _ _ hv hq
    rcases mem_comp hq with ⟨rfl, _⟩ | ⟨k, a, b, c, r, hk, hn, hc, hm, hr, rfl⟩
    · exact ⟨fun _ h => by simp at h, fun _ h => by simp at h, List.Pairwise.nil, List.Pairwise.nil⟩
    · obtain rfl : n = k := by omega
      have hI := next_spec hn
      have hab := hI.ab
      have hbv := hI.bv
      obtain ⟨h1, h2, h3⟩ := may_spec hm
      have h := ih _ _ _ hv hr
      refine ⟨fun d hd => ?_, fun d hd => ?_, hs, List.pairwise_cons.2 ⟨fun d hd => ?_, h.fit⟩⟩
      · rcases List.mem_cons.1 hd with rfl | hd
        · exact ⟨a, b, c, rfl, hab, h1, hc⟩
        · exact h.ok d hd
      · rcases List.mem_cons.1 hd with rfl | hd
        · exact ⟨a, b, c, rfl, hab, h1, hI.left, h2, h3⟩
        · obtain ⟨x, y, z, rfl, hx, hy, u1, u2, u3⟩ := h.opn d hd
          obtain ⟨x', y', z', e, _, _, hz⟩ := h.ok _ hd
          obtain ⟨rfl, rfl, rfl⟩ := b3N_inj e
          exact ⟨x, y, z, rfl, hx, hy, usd_put_false (by omega) (by omega) (by omega) (by omega) (by omega) u1, usd_put_false (by omega) (by omega) (by omega) (by omega) (by omega) u2, usd_put_false (by omega) (by omega) (by omega) (by omega) (by omega) u3⟩
      · obtain ⟨x, y, z, rfl, hx, hy, u1, u2, u3⟩ := h.opn d hd
        obtain ⟨x', y', z', e, _, _, hz⟩ := h.ok _ hd
        obtain ⟨rfl, rfl, rfl⟩ := b3N_inj e
        rw [common_le (b3N_three hab h1)]
        have k : ∀ p q : Nat, p < q → q < v → usd (putM m a b c) p q = false → ¬ (has (b3N a b c) p ∧ has (b3N a b c) q) := fun p q h4 h5 h6 => ((usd_putN hab h1 (by omega) (by omega) (by omega) (by omega)).1 h6).2
        exact ⟨k x y hx (by omega) u1, k x z (by omega) (by omega) u2, k y z hy (by omega) u3⟩
/-- .. and that it leaves no pair. -/
theorem comp_full : ∀ n v m (q : List B3), v ≤ 15 → q ∈ compM n v m → ∀ x y, x < y → y < v → usd (maskB m q) x y = true := by
  intro n
  induction n with
  | zero =>
    intro v m q hv hq
    rcases mem_comp hq with ⟨rfl, h⟩ | ⟨k, a, b, c, r, hk, _⟩
    · exact next_none h
    · omega
  | succ n ih =>
    intro v m q hv hq
    rcases mem_comp hq with ⟨rfl, h⟩ | ⟨k, a, b, c, r, hk, hn, hc, hm, hr, rfl⟩
    · exact next_none h
    · obtain rfl : n = k := by omega
      have h := ih _ _ _ hv hr
      have e : maskB m (b3N a b c :: r) = maskB (putM m a b c) r := by
        show maskB (putB m (b3N a b c)) r = _
        rw [putB_b3N]
      rw [e]
      exact h
/-- A full system, as plain words have it. -/
structure FullS (v : Nat) (T : List B3) : Prop where
  rest : Rest v 0 T
  full : ∀ x y, x < y → y < v → ∃ d ∈ T, has d x ∧ has d y
theorem maskB_app {A B : List B3} : maskB m (A ++ B) = maskB (maskB m A) B := by unfold maskB; rw [List.foldl_append]
theorem FullS.mem {T : List B3} (h : FullS v T) (hv : v ≤ 15) (hn : T.length ≤ n) : T ∈ compM n v 0 := comp_all T 0 n hv h.rest (fun x y h1 h2 => .inr (h.full x y h1 h2)) hn
theorem FullS.of {T : List B3} (hv : v ≤ 15) (h : T ∈ compM n v 0) : FullS v T := by
  have hr := comp_rest _ _ _ _ hv h
  refine ⟨hr, fun x y h1 h2 => ?_⟩
  rcases (usd_mask T 0 hv hr.ok x y h1 h2).1 (comp_full _ _ _ _ hv h x y h1 h2) with h3 | h3
  · rw [usd_zero] at h3; cases h3
  · exact h3
theorem fit_pair {T : List B3} (h : Rest v 0 T) {d e : B3} (hd : d ∈ T) (he : e ∈ T) (hne : d ≠ e) : common e d ≤ 1 := by
  obtain ⟨i, hi, rfl⟩ := List.getElem_of_mem hd
  obtain ⟨j, hj, rfl⟩ := List.getElem_of_mem he
  have hp := List.pairwise_iff_getElem.1 h.fit
  rcases Nat.lt_trichotomy i j with h1 | h1 | h1
  · exact hp i j hi hj h1
  · subst h1; exact absurd rfl hne
  · rw [com_comm]; exact hp j i hj hi h1
/-- A part of a full system: the others complete it. -/
theorem others_mem {T Q : List B3} (hv : v ≤ 15) (h : FullS v T) (hQ : ∀ d ∈ Q, d ∈ T) (hn : T.length ≤ n) : (T.filter fun d => decide (d ∉ Q)) ∈ compM n v (maskB 0 Q) := by
  have hok : ∀ d ∈ Q, inB v d := fun d hd => h.rest.ok d (hQ d hd)
  refine comp_all _ _ _ hv ⟨fun d hd => h.rest.ok d (List.mem_filter.1 hd).1, fun d hd => ?_, h.rest.lt.filter _, h.rest.fit.filter _⟩ (fun x y h1 h2 => ?_) (Nat.le_trans (List.length_filter_le _ _) hn)
  · obtain ⟨hdT, hdQ⟩ := List.mem_filter.1 hd
    have hdQ : d ∉ Q := by simpa using hdQ
    obtain ⟨x, y, z, rfl, hx, hy, hz⟩ := h.rest.ok d hdT
    have k : ∀ p q : Nat, p < q → q < v → has (b3N x y z) p → has (b3N x y z) q → usd (maskB 0 Q) p q = false := by
      intro p q h4 h5 h6 h7
      cases hu : usd (maskB 0 Q) p q with
      | false => rfl
      | true =>
        rcases (usd_mask Q 0 hv hok p q h4 h5).1 hu with h8 | ⟨e, he, h9, h10⟩
        · rw [usd_zero] at h8; cases h8
        · have hne : b3N x y z ≠ e := by rintro rfl; exact hdQ he
          have hc := fit_pair h.rest (hQ e he) hdT (Ne.symm hne)
          obtain ⟨a, b, c, rfl, ha, hb, hcv⟩ := hok e he
          rw [common_le (b3N_three ha hb)] at hc
          rw [has_b3N] at h6 h7
          exfalso
          rcases h6 with rfl | rfl | rfl <;> rcases h7 with rfl | rfl | rfl <;> first | omega | exact hc.1 ⟨h9, h10⟩ | exact hc.2.1 ⟨h9, h10⟩ | exact hc.2.2 ⟨h9, h10⟩
    exact ⟨x, y, z, rfl, hx, hy, k x y hx (by omega) (has_b3N.2 (.inl rfl)) (has_b3N.2 (.inr (.inl rfl))), k x z (by omega) (by omega) (has_b3N.2 (.inl rfl)) (has_b3N.2 (.inr (.inr rfl))), k y z hy (by omega) (has_b3N.2 (.inr (.inl rfl))) (has_b3N.2 (.inr (.inr rfl)))⟩
  · obtain ⟨d, hd, h3, h4⟩ := h.full x y h1 h2
    by_cases hdQ : d ∈ Q
    · exact .inl ((usd_mask Q 0 hv hok x y h1 h2).2 (.inr ⟨d, hdQ, h3, h4⟩))
    · exact .inr ⟨d, List.mem_filter.2 ⟨hd, by simpa using hdQ⟩, h3, h4⟩
theorem srt_ext {A B : List B3} (ha : A.Pairwise B3.lt) (hb : B.Pairwise B3.lt) (h : ∀ d, d ∈ A ↔ d ∈ B) : A = B := by
  have n1 : A.Nodup := ha.imp fun h => by rintro rfl; exact lt_irrefl _ h
  have n2 : B.Nodup := hb.imp fun h => by rintro rfl; exact lt_irrefl _ h
  exact ((List.perm_ext_iff_of_nodup n1 n2).2 h).eq_of_pairwise (fun a b _ _ h1 h2 => (lt_asymm3 h1 h2).elim) ha hb
/-- A completion of a part makes a full system. -/
theorem comp_makes {Q q : List B3} (hv : v ≤ 15) (hQ : Rest v 0 Q) (hq : q ∈ compM n v (maskB 0 Q)) : ∃ T, FullS v T ∧ (∀ d, d ∈ T ↔ d ∈ Q ∨ d ∈ q) ∧ (∀ d ∈ q, d ∉ Q) := by
  have hr := comp_rest _ _ _ _ hv hq
  have dis : ∀ d ∈ q, ∀ e ∈ Q, ∀ x y : Nat, x < y → y < v → has d x → has d y → has e x → has e y → False := by
    intro d hd e he x y h1 h2 h3 h4 h5 h6
    obtain ⟨a, b, c, rfl, ha, hb, u1, u2, u3⟩ := hr.opn d hd
    have hu := (usd_mask Q 0 hv hQ.ok x y h1 h2).2 (.inr ⟨e, he, h5, h6⟩)
    rw [has_b3N] at h3 h4
    rcases h3 with rfl | rfl | rfl <;> rcases h4 with rfl | rfl | rfl <;> first | omega | (rw [hu] at u1; cases u1) | (rw [hu] at u2; cases u2) | (rw [hu] at u3; cases u3)
  have hne : ∀ d ∈ q, d ∉ Q := by
    intro d hd he
    obtain ⟨a, b, c, rfl, ha, hb, hc⟩ := hr.ok d hd
    exact dis _ hd _ he a b ha (by omega) (has_b3N.2 (.inl rfl)) (has_b3N.2 (.inr (.inl rfl))) (has_b3N.2 (.inl rfl)) (has_b3N.2 (.inr (.inl rfl)))
  let T := (Q ++ q).mergeSort fun x y => decide (leB x y)
  have hp : T.Perm (Q ++ q) := List.mergeSort_perm _ _
  have hmem : ∀ d, d ∈ T ↔ d ∈ Q ∨ d ∈ q := fun d => by rw [hp.mem_iff, List.mem_append]
  have hle : T.Pairwise leB := by
    have h := List.pairwise_mergeSort (le := fun x y : B3 => decide (leB x y)) (by intro a b c h1 h2; simp only [decide_eq_true_eq] at *; exact leB_trans h1 h2) (by intro a b; simp only [Bool.or_eq_true, decide_eq_true_eq]; unfold leB B3.lt; omega) (Q ++ q)
    exact h.imp (by intro a b h; simpa using h)
  have hnd : T.Nodup := by
    refine hp.nodup_iff.2 (List.nodup_append.2 ⟨hQ.lt.imp fun h => ?_, hr.lt.imp fun h => ?_, fun a ha b hb e => ?_⟩)
    · rintro rfl; exact lt_irrefl _ h
    · rintro rfl; exact lt_irrefl _ h
    · subst e; exact hne a hb ha
  have hlt : T.Pairwise B3.lt := by
    have h2 := hle.and hnd
    refine h2.imp ?_
    rintro a b ⟨h3, h4⟩
    obtain ⟨a1, a2, a3⟩ := a
    obtain ⟨b1, b2, b3⟩ := b
    simp only [ne_eq, Prod.mk.injEq] at h4
    unfold leB B3.lt at *
    simp only at *
    omega
  have hin : ∀ d ∈ T, inB v d := fun d hd => by rcases (hmem d).1 hd with h | h; (· exact hQ.ok d h); (· exact hr.ok d h)
  have hcom : ∀ d ∈ Q, ∀ e ∈ q, common e d ≤ 1 := by
    intro d hd e he
    obtain ⟨a, b, c, rfl, ha, hb, hc⟩ := hQ.ok d hd
    obtain ⟨x, y, z, rfl, hx, hy, hz⟩ := hr.ok e he
    rw [common_le (b3N_three ha hb)]
    refine ⟨fun h => ?_, fun h => ?_, fun h => ?_⟩
    · exact dis _ he _ hd x y hx (by omega) (has_b3N.2 (.inl rfl)) (has_b3N.2 (.inr (.inl rfl))) h.1 h.2
    · exact dis _ he _ hd x z (by omega) (by omega) (has_b3N.2 (.inl rfl)) (has_b3N.2 (.inr (.inr rfl))) h.1 h.2
    · exact dis _ he _ hd y z hy (by omega) (has_b3N.2 (.inr (.inl rfl))) (has_b3N.2 (.inr (.inr rfl))) h.1 h.2
  have hfit0 : (Q ++ q).Pairwise fun d e => common e d ≤ 1 := List.pairwise_append.2 ⟨hQ.fit, hr.fit, hcom⟩
  have hfit : T.Pairwise fun d e => common e d ≤ 1 := (hp.pairwise_iff (fun {a b} h => by rw [com_comm]; exact h)).2 hfit0
  refine ⟨T, ⟨⟨hin, fun d hd => ?_, hlt, hfit⟩, fun x y h1 h2 => ?_⟩, hmem, hne⟩
  · obtain ⟨x, y, z, rfl, hx, hy, hz⟩ := hin d hd
    exact ⟨x, y, z, rfl, hx, hy, usd_zero _ _, usd_zero _ _, usd_zero _ _⟩
  · have hu := comp_full _ _ _ _ hv hq x y h1 h2
    rw [← maskB_app] at hu
    rcases (usd_mask (Q ++ q) 0 hv (fun d hd => by rcases List.mem_append.1 hd with h | h; (· exact hQ.ok d h); (· exact hr.ok d h)) x y h1 h2).1 hu with h3 | ⟨d, hd, h3⟩
    · rw [usd_zero] at h3; cases h3
    · exact ⟨d, hp.mem_iff.2 hd, h3⟩
theorem Rest.sub {T Q : List B3} (h : Rest v 0 T) (hs : Q.Sublist T) : Rest v 0 Q := ⟨fun d hd => h.ok d (hs.subset hd), fun d hd => h.opn d (hs.subset hd), h.lt.sublist hs, h.fit.sublist hs⟩
theorem comp_nodup (hv : v ≤ 15) : (compM n v m).Nodup := (comp_ascending n v m hv).imp fun h => by rintro rfl; exact befB_asymm h h
/-- A part of a full system has one completion: no other full system has it. -/
theorem fixes_iff {T Q : List B3} (hv : v ≤ 15) (h : FullS v T) (hs : Q.Sublist T) (hn : T.length ≤ n) (hall : ∀ U, FullS v U → U.length ≤ n) : (compM n v (maskB 0 Q)).length = 1 ↔ ∀ U, FullS v U → (∀ d ∈ Q, d ∈ U) → U = T := by
  have hTm := others_mem hv h (fun d hd => hs.subset hd) hn
  constructor
  · intro h1 U hU hQU
    have hUm := others_mem hv hU hQU (hall U hU)
    obtain ⟨z, hz⟩ := List.length_eq_one_iff.1 h1
    rw [hz] at hTm hUm
    have e : (U.filter fun d => decide (d ∉ Q)) = T.filter fun d => decide (d ∉ Q) := (List.mem_singleton.1 hUm).trans (List.mem_singleton.1 hTm).symm
    refine srt_ext hU.rest.lt h.rest.lt fun d => ?_
    have e2 : d ∈ (U.filter fun d => decide (d ∉ Q)) ↔ d ∈ T.filter fun d => decide (d ∉ Q) := by rw [e]
    simp only [List.mem_filter, decide_eq_true_eq] at e2
    by_cases hd : d ∈ Q
    · exact ⟨fun _ => hs.subset hd, fun _ => hQU d hd⟩
    · exact ⟨fun hh => (e2.1 ⟨hh, hd⟩).1, fun hh => (e2.2 ⟨hh, hd⟩).1⟩
  · intro hU
    have hone : ∀ q ∈ compM n v (maskB 0 Q), q = T.filter fun d => decide (d ∉ Q) := by
      intro q hq
      obtain ⟨U, h1, h2, h3⟩ := comp_makes hv (h.rest.sub hs) hq
      have e := hU U h1 (fun d hd => (h2 d).2 (.inl hd))
      subst e
      refine srt_ext (comp_rest _ _ _ _ hv hq).lt (h.rest.lt.filter _) fun d => ?_
      simp only [List.mem_filter, decide_eq_true_eq]
      exact ⟨fun hd => ⟨(h2 d).2 (.inr hd), h3 d hd⟩, fun ⟨hd, hd2⟩ => by rcases (h2 d).1 hd with h | h; (· exact absurd h hd2); (· exact h)⟩
    have hnd := comp_nodup (n := n) (v := v) (m := maskB 0 Q) hv
    generalize compM n v (maskB 0 Q) = L at hTm hone hnd
    match L, hTm, hone, hnd with
    | [], h1, _, _ => simp at h1
    | [a], _, _, _ => rfl
    | a :: b :: L, _, h2, h3 =>
      have e1 := h2 a (by simp)
      have e2 := h2 b (by simp)
      have h4 := (List.nodup_cons.1 h3).1
      exact absurd (by rw [e1, e2]; simp) h4
end
end Go.Vc
/-
  Plain words: the least part that fixes a system.
-/
namespace Go.Vc
/-- The least set with a property. -/
def LeastP (n : Nat) (p : Nat → Prop) (o : List Int) : Prop :=
  ∃ t, t < 2 ^ n ∧ p t ∧ o = pts t ∧ ∀ q, q < 2 ^ n → p q → ones t ≤ ones q ∧ (ones q = ones t → ¬ ltL (pts q) (pts t))
theorem LeastP.unique {n : Nat} {p : Nat → Prop} {a b : List Int} (h1 : LeastP n p a) (h2 : LeastP n p b) : a = b := by
  obtain ⟨T, a1, a2, rfl, a4⟩ := h1
  obtain ⟨U, b1, b2, rfl, b4⟩ := h2
  have h3 := a4 U b1 b2
  have h4 := b4 T a1 a2
  exact ltL_tri (fun h => h4.2 (by omega) h) (fun h => h3.2 (by omega) h)
theorem best_least {n : Nat} {p : Nat → Prop} {s : Nat} {found : Bool} {most : Int} {out : List Int} (h : BestI (-1) p s found most out) (hs : s = 2 ^ n) (he : ∃ q, q < 2 ^ n ∧ p q) : LeastP n p out := by
  subst hs
  cases hf : found with
  | false => obtain ⟨q, h1, h2⟩ := he; exact absurd h2 (h.no hf q h1)
  | true =>
    obtain ⟨t, a1, a2, a3, a4, a5⟩ := h.yes hf
    refine ⟨t, a1, a2, a3, fun U hU hm => ?_⟩
    rw [← a3]
    rcases a5 U hU hm with b1 | ⟨b1, b2⟩
    · exact ⟨by omega, fun e => by omega⟩
    · exact ⟨by omega, fun _ => b2⟩
/-- Which of the first k blocks a system has. -/
def hasM (bs U : List B3) : Nat → Nat
  | 0 => 0
  | k + 1 => if bs.getD k (0, 0, 0) ∈ U then hasM bs U k ||| 2 ^ k else hasM bs U k
theorem hasM_bit {bs U : List B3} {q : Nat} : ∀ k, (hasM bs U k).testBit q = (decide (q < k) && decide (bs.getD q (0, 0, 0) ∈ U)) := by
  intro k
  induction k with
  | zero => simp [hasM]
  | succ k ih =>
    simp only [hasM]
    split
    · rename_i h
      rw [Nat.testBit_or, ih, Nat.testBit_two_pow]
      by_cases e : k = q
      · subst e; rw [List.getD_eq_getElem?_getD] at *; simp [h]
      · by_cases e2 : q < k
        · simp [e, e2, show q < k + 1 by omega]
        · simp [e, e2, show ¬ q < k + 1 by omega]
    · rename_i h
      rw [ih]
      by_cases e : k = q
      · subst e; rw [List.getD_eq_getElem?_getD] at *; simp [h]
      · by_cases e2 : q < k
        · simp [e2, show q < k + 1 by omega]
        · simp [e2, show ¬ q < k + 1 by omega]
theorem hasM_lt {bs U : List B3} : ∀ k, hasM bs U k < 2 ^ k := by
  intro k
  induction k with
  | zero => simp [hasM]
  | succ k ih =>
    simp only [hasM]
    have h2 : (2 : Nat) ^ k < 2 ^ (k + 1) := by rw [Nat.pow_succ]; have := Nat.two_pow_pos k; omega
    split
    · exact Nat.or_lt_two_pow (by omega) h2
    · omega
/-- A part's blocks. -/
def partB (bs : List B3) (s : Nat) : List B3 := (pts s).map (blk bs)
/-- No other full system has all blocks of the part. -/
def FixP (bs : List B3) (all : List (List B3)) (s : Nat) : Prop := ∀ U ∈ all, (∀ q, s.testBit q = true → bs.getD q (0, 0, 0) ∈ U) → U = bs
theorem hasM_all {bs U : List B3} (hl : U.length = bs.length) (h1 : bs.Pairwise B3.lt) (h2 : U.Pairwise B3.lt) : hasM bs U bs.length = 2 ^ bs.length - 1 ↔ U = bs := by
  constructor
  · intro h
    have hm : ∀ d ∈ bs, d ∈ U := by
      intro d hd
      obtain ⟨i, hi, rfl⟩ := List.getElem_of_mem hd
      have e := hasM_bit (bs := bs) (U := U) (q := i) bs.length
      rw [h, Nat.testBit_two_pow_sub_one] at e
      simp [hi] at e
      exact e
    have hf : (bs.filter fun b => decide (b ∈ U)) = bs := List.filter_eq_self.2 fun a ha => by simpa using hm a ha
    have := common_all h1 h2 hl.symm
    rw [hf] at this
    exact this.1 hl.symm
  · rintro rfl
    apply Nat.eq_of_testBit_eq
    intro q
    rw [hasM_bit, Nat.testBit_two_pow_sub_one]
    by_cases hq : q < U.length
    · simp [hq]
    · simp [hq]
/-- The program's test of a part. -/
theorem fixP_impl {bs : List B3} {all : List (List B3)} {s : Nat} (hs : s < 2 ^ bs.length) (h1 : bs.Pairwise B3.lt) (hall : ∀ U ∈ all, U.length = bs.length ∧ U.Pairwise B3.lt) :
    FixP bs all s ↔ ¬ ∃ h ∈ ((all.map fun U => hasM bs U bs.length).filter fun h => decide (¬ h = 2 ^ bs.length - 1)), ∀ q, s.testBit q = true → h.testBit q = true := by
  have low : ∀ q, s.testBit q = true → q < bs.length := fun q hq => by
    rcases Nat.lt_or_ge q bs.length with h | h
    · exact h
    · rw [Nat.testBit_lt_two_pow (Nat.lt_of_lt_of_le hs (Nat.pow_le_pow_right (by decide) h))] at hq; cases hq
  constructor
  · rintro h ⟨x, hx, hq⟩
    obtain ⟨hx1, hx2⟩ := List.mem_filter.1 hx
    obtain ⟨U, hU, rfl⟩ := List.mem_map.1 hx1
    have e := h U hU fun q hs' => by
      have := hq q hs'
      rw [hasM_bit] at this
      simp at this
      exact this.2
    simp only [decide_eq_true_eq] at hx2
    exact hx2 ((hasM_all (hall U hU).1 h1 (hall U hU).2).2 e)
  · intro h U hU hq
    by_cases e : U = bs
    · exact e
    · exfalso
      refine h ⟨hasM bs U bs.length, List.mem_filter.2 ⟨List.mem_map.2 ⟨U, hU, rfl⟩, ?_⟩, fun q hs' => ?_⟩
      · simp only [decide_eq_true_eq]
        exact fun e2 => e ((hasM_all (hall U hU).1 h1 (hall U hU).2).1 e2)
      · rw [hasM_bit, decide_eq_true (low q hs'), decide_eq_true (hq q hs')]
        rfl
theorem fixP_top {bs : List B3} {all : List (List B3)} (h1 : bs.Pairwise B3.lt) (hall : ∀ U ∈ all, U.length = bs.length ∧ U.Pairwise B3.lt) : FixP bs all (2 ^ bs.length - 1) := by
  intro U hU h
  refine (hasM_all (hall U hU).1 h1 (hall U hU).2).1 ?_
  apply Nat.eq_of_testBit_eq
  intro q
  rw [hasM_bit, Nat.testBit_two_pow_sub_one]
  by_cases hq : q < bs.length
  · have := h q (by rw [Nat.testBit_two_pow_sub_one]; simpa using hq)
    simp [hq]
    simpa [hq] using this
  · simp [hq]
/-- Lists of so many of the numbers below n, from one on, in order. -/
def setsN (n : Nat) : Nat → Nat → List (List Int)
  | 0, _ => [[]]
  | c + 1, f => (List.range (n - f)).flatMap fun i => (setsN n c (f + i + 1)).map (((f + i : Nat) : Int) :: ·)
theorem mem_sets {n : Nat} : ∀ {c f : Nat} {L : List Int}, L ∈ setsN n c f ↔ L.length = c ∧ L.Pairwise (· < ·) ∧ ∀ i ∈ L, (f : Int) ≤ i ∧ i < n := by
  intro c
  induction c with
  | zero =>
    intro f L
    simp only [setsN, List.mem_singleton]
    constructor
    · rintro rfl; exact ⟨rfl, List.Pairwise.nil, fun _ h => by simp at h⟩
    · rintro ⟨h, _⟩; exact List.eq_nil_of_length_eq_zero h
  | succ c ih =>
    intro f L
    simp only [setsN, List.mem_flatMap, List.mem_range, List.mem_map]
    constructor
    · rintro ⟨i, hi, R, hR, rfl⟩
      obtain ⟨h1, h2, h3⟩ := ih.1 hR
      refine ⟨by simp [h1], List.pairwise_cons.2 ⟨fun j hj => by have := h3 j hj; omega, h2⟩, fun j hj => ?_⟩
      rcases List.mem_cons.1 hj with rfl | hj
      · omega
      · have := h3 j hj; omega
    · rintro ⟨h1, h2, h3⟩
      cases L with
      | nil => simp at h1
      | cons a R =>
        have ha := h3 a (by simp)
        obtain ⟨h4, h5⟩ := List.pairwise_cons.1 h2
        refine ⟨a.toNat - f, by omega, R, ih.2 ⟨by simpa using h1, h5, fun i hi => ?_⟩, ?_⟩
        · have := h4 i hi
          have := h3 i (by simp [hi])
          omega
        · congr 1; omega
theorem sets_sorted {n : Nat} : ∀ {c f : Nat}, (setsN n c f).Pairwise ltL := by
  intro c
  induction c with
  | zero => intro f; simp [setsN]
  | succ c ih =>
    intro f
    simp only [setsN]
    rw [List.flatMap_def, List.pairwise_flatten]
    refine ⟨fun l hl => ?_, ?_⟩
    · obtain ⟨i, _, rfl⟩ := List.mem_map.1 hl
      rw [List.pairwise_map]
      exact ih.imp fun h => ltL_cons.2 (.inr ⟨rfl, h⟩)
    · rw [List.pairwise_map]
      refine List.pairwise_lt_range.imp ?_
      intro a b hab x hx y hy
      obtain ⟨x', _, rfl⟩ := List.mem_map.1 hx
      obtain ⟨y', _, rfl⟩ := List.mem_map.1 hy
      exact ltL_cons.2 (.inl (by omega))
theorem foldl_bit : ∀ (xs : List Int) (m q : Nat), (xs.foldl (fun m p => m ||| 2 ^ p.toNat) m).testBit q = (m.testBit q || xs.any fun p => decide (p.toNat = q)) := by
  intro xs
  induction xs with
  | nil => intro m q; simp
  | cons x xs ih =>
    intro m q
    simp only [List.foldl_cons, List.any_cons]
    rw [ih, Nat.testBit_or, Nat.testBit_two_pow]
    cases m.testBit q <;> simp
theorem ptsAt_sorted (m : Nat) : ∀ v, (ptsAt m v).Pairwise (· < ·) := by
  intro v
  induction v with
  | zero => exact List.Pairwise.nil
  | succ v ih =>
    simp only [ptsAt]
    split
    · refine List.pairwise_append.2 ⟨ih, by simp, fun a ha b hb => ?_⟩
      have := (ptsAt_mem m v).1 ha
      simp only [List.mem_singleton] at hb
      omega
    · exact ih
theorem asc_ext {A B : List Int} (ha : A.Pairwise (· < ·)) (hb : B.Pairwise (· < ·)) (h : ∀ d, d ∈ A ↔ d ∈ B) : A = B := by
  have n1 : A.Nodup := ha.imp fun h => by omega
  have n2 : B.Nodup := hb.imp fun h => by omega
  exact ((List.perm_ext_iff_of_nodup n1 n2).2 h).eq_of_pairwise (fun a b _ _ h1 h2 => by omega) ha hb
theorem maskL_bitF (xs : List Int) (q : Nat) : (maskL xs).testBit q = true ↔ ∃ p ∈ xs, p.toNat = q := by
  unfold maskL
  rw [foldl_bit]
  simp
theorem pts_maskL {L : List Int} (h1 : L.Pairwise (· < ·)) (h2 : ∀ i ∈ L, 0 ≤ i ∧ i < 15) : pts (maskL L) = L := by
  refine asc_ext (ptsAt_sorted _ _) h1 fun d => ?_
  unfold pts
  rw [ptsAt_mem, maskL_bitF]
  constructor
  · rintro ⟨h3, h4, p, hp, h5⟩
    have := h2 p hp
    have e : p = d := by omega
    exact e ▸ hp
  · intro hd
    have := h2 d hd
    exact ⟨by omega, by omega, d, hd, rfl⟩
theorem maskL_pow {L : List Int} {n : Nat} (h2 : ∀ i ∈ L, 0 ≤ i ∧ i < n) : maskL L < 2 ^ n := by
  apply Nat.lt_pow_two_of_testBit
  intro i hi
  cases h : (maskL L).testBit i with
  | false => rfl
  | true =>
    obtain ⟨p, hp, e⟩ := (maskL_bitF L i).1 h
    have := h2 p hp
    omega
/-- The reference's search: the first list of the least length. -/
theorem least_of {n : Nat} {p : Nat → Prop} {c i : Nat} (hn : n ≤ 15) (hi : i < (setsN n c 0).length) (hp : p (maskL (setsN n c 0)[i])) (hno : ∀ j (hj : j < (setsN n c 0).length), j < i → ¬ p (maskL (setsN n c 0)[j]))
    (hlow : ∀ c', c' < c → ∀ L ∈ setsN n c' 0, ¬ p (maskL L)) : LeastP n p (setsN n c 0)[i] := by
  obtain ⟨h1, h2, h3⟩ := mem_sets.1 (List.getElem_mem hi)
  have h3' : ∀ j ∈ (setsN n c 0)[i], 0 ≤ j ∧ j < n := fun j hj => by have := h3 j hj; omega
  have hpt := pts_maskL h2 (fun j hj => by have := h3' j hj; omega)
  have hlen : ∀ q, q < 2 ^ n → (pts q).length = ones q := fun q hq => by
    unfold pts; rw [ptsAt_len, cov_ones (Nat.lt_of_lt_of_le hq (Nat.pow_le_pow_right (by decide) hn))]
  have hmask : ∀ q, q < 2 ^ n → maskL (pts q) = q := fun q hq => by
    apply Nat.eq_of_testBit_eq
    intro k
    have hk : (maskL (pts q)).testBit k = true ↔ q.testBit k = true := by
      rw [maskL_bitF]
      unfold pts
      constructor
      · rintro ⟨x, hx, rfl⟩; exact ((ptsAt_mem q 15).1 hx).2.2
      · intro h
        have hkn : k < n := by
          rcases Nat.lt_or_ge k n with h4 | h4
          · exact h4
          · rw [Nat.testBit_lt_two_pow (Nat.lt_of_lt_of_le hq (Nat.pow_le_pow_right (by decide) h4))] at h; cases h
        exact ⟨(k : Int), (ptsAt_mem q 15).2 ⟨by omega, by omega, by simpa using h⟩, by simp⟩
    cases h4 : (maskL (pts q)).testBit k <;> cases h5 : q.testBit k <;> simp_all
  have hin : ∀ q, q < 2 ^ n → pts q ∈ setsN n (ones q) 0 := fun q hq => mem_sets.2 ⟨hlen q hq, ptsAt_sorted _ _, fun j hj => by
    obtain ⟨h4, h5, h6⟩ := (ptsAt_mem q 15).1 hj
    refine ⟨by omega, ?_⟩
    rcases Nat.lt_or_ge j.toNat n with h7 | h7
    · omega
    · rw [Nat.testBit_lt_two_pow (Nat.lt_of_lt_of_le hq (Nat.pow_le_pow_right (by decide) h7))] at h6; cases h6⟩
  have ht := maskL_pow h3'
  refine ⟨maskL (setsN n c 0)[i], ht, hp, hpt.symm, fun q hq hpq => ?_⟩
  have e1 : ones (maskL (setsN n c 0)[i]) = c := by rw [← hlen _ ht, hpt, h1]
  rw [e1, hpt]
  have hq' := hin q hq
  refine ⟨?_, fun e => ?_⟩
  · rcases Nat.lt_or_ge (ones q) c with h4 | h4
    · exact absurd (by rw [hmask q hq]; exact hpq) (hlow _ h4 _ hq')
    · exact h4
  · rw [e] at hq'
    obtain ⟨j, hj, e2⟩ := List.getElem_of_mem hq'
    have hji : ¬ j < i := fun h => hno j hj h (by rw [e2, hmask q hq]; exact hpq)
    rw [← e2]
    intro hlt
    rcases Nat.lt_or_ge i j with h5 | h5
    · exact ltL_asymm hlt (List.pairwise_iff_getElem.1 sets_sorted i j hi hj h5)
    · have : i = j := by omega
      subst this
      exact ltL_irrefl _ hlt
end Go.Vc
