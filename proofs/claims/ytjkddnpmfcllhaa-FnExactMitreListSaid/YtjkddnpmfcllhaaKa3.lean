/-
  The calculus and plain words, part 3.
-/
import Derived.Test.YtjkddnpmfcllhaaKa2
import Derived.Lib.SliceRun
set_option linter.unusedVariables false
set_option linter.unusedSimpArgs false
/-
  The calculus, part 8: rows of rows: a row of slices, and what they lead to.
-/
namespace Go.Vc
open Go Go.RowKit

section
variable {P : Program} {w0 w : World} {H H' : List Assn} {α : Type} {T : TypeId} {C : Cod α}

/-- The slices' values; what they hold. -/
def tops (ps : List (Sl × List α)) : List Sl := ps.map (·.1)
def conts (ps : List (Sl × List α)) : List (List α) := ps.map (·.2)
theorem tops_len (ps : List (Sl × List α)) : (tops ps).length = ps.length := List.length_map ..
theorem conts_len (ps : List (Sl × List α)) : (conts ps).length = ps.length := List.length_map ..
theorem tops_append (ps qs : List (Sl × List α)) : tops (ps ++ qs) = tops ps ++ tops qs := List.map_append ..
theorem conts_append (ps qs : List (Sl × List α)) : conts (ps ++ qs) = conts ps ++ conts qs := List.map_append ..
theorem tops_get (ps : List (Sl × List α)) {k : Nat} (hk : k < (tops ps).length) : (tops ps)[k] = (ps[k]'(by rw [← tops_len]; exact hk)).1 := List.getElem_map ..
theorem conts_get (ps : List (Sl × List α)) {k : Nat} (hk : k < (conts ps).length) : (conts ps)[k] = (ps[k]'(by rw [← conts_len]; exact hk)).2 := List.getElem_map ..

def rowA (T : TypeId) (C : Cod α) (p : Sl × List α) : Assn := .sep (.pur (p.1.n = p.2.length)) (Own T C p.1.A p.1.c p.2)
/-- The inner rows: each owned, apart. -/
def RowsA (T : TypeId) (C : Cod α) (ps : List (Sl × List α)) : Assn := ⟨fun w F => SatF (ps.map (rowA T C)) w F, fun h hk => SatF.loc h hk⟩

theorem SatF_append {H1 H2 : List Assn} {w : World} {F : Nat → Prop} : SatF (H1 ++ H2) w F ↔ ∃ F1 F2, SatF H1 w F1 ∧ SatF H2 w F2 ∧ (∀ k, F1 k → ¬ F2 k) ∧ ∀ k, F k ↔ F1 k ∨ F2 k := by
  constructor
  · intro h
    induction H1 generalizing F with
    | nil => exact ⟨fun _ => False, F, fun _ h => h, h, fun _ h => h.elim, fun k => by simp⟩
    | cons A H1 ih =>
      obtain ⟨G1, G2, g1, g2, gd, gF⟩ := h
      obtain ⟨K1, K2, k1, k2, kd, kF⟩ := ih g2
      refine ⟨fun k => G1 k ∨ K1 k, K2, ⟨G1, K1, g1, k1, fun k h1 h2 => gd k h1 ((kF k).2 (.inl h2)), fun _ => Iff.rfl⟩, k2, ?_, ?_⟩
      · rintro k (h1 | h1) h2
        · exact gd k h1 ((kF k).2 (.inr h2))
        · exact kd k h1 h2
      · intro k
        rw [gF k, kF k, or_assoc]
  · rintro ⟨F1, F2, h1, h2, hd, hF⟩
    exact SatF_congr (SatF.append h1 h2 hd) (fun k => (hF k).symm)
theorem St.rows {ps : List (Sl × List α)} : St w0 (RowsA T C ps :: H) w ↔ St w0 (ps.map (rowA T C) ++ H) w := by
  constructor
  · rintro ⟨hb, F, ⟨F1, F2, h1, h2, hd, hF⟩, hk⟩
    exact ⟨hb, F, SatF_append.2 ⟨F1, F2, h1, h2, hd, hF⟩, hk⟩
  · rintro ⟨hb, F, hs, hk⟩
    obtain ⟨F1, F2, h1, h2, hd, hF⟩ := SatF_append.1 hs
    exact ⟨hb, F, ⟨F1, F2, h1, h2, hd, hF⟩, hk⟩
theorem RowsA.nil (hw : St w0 H w) : St w0 (RowsA T C ([] : List (Sl × List α)) :: H) w := St.rows.2 hw
theorem RowsA.permP {ps qs : List (Sl × List α)} (hp : ps.Perm qs) : ∀ w F, (RowsA T C ps).P w F → (RowsA T C qs).P w F := fun _ _ h => SatF.perm (hp.map _) h
theorem RowsA.perm {ps qs : List (Sl × List α)} (hp : ps.Perm qs) (hw : St w0 (RowsA T C ps :: H) w) : St w0 (RowsA T C qs :: H) w := hw.mono (RowsA.permP hp)
theorem RowsA.cons {A : Option Addr} {c : Nat} {xs : List α} {ps : List (Sl × List α)} (hw : St w0 (Own T C A c xs :: RowsA T C ps :: H) w) : St w0 (RowsA T C ((⟨A, xs.length, c⟩, xs) :: ps) :: H) w := by
  refine St.rows.2 ?_
  have h1 := St.rows.1 (hw.perm (List.Perm.swap _ _ _))
  have h2 : St w0 (Own T C A c xs :: (ps.map (rowA T C) ++ H)) w := h1.perm List.perm_middle
  exact (St.addPur rfl h2).unsep
theorem RowsA.uncons {s : Sl} {xs : List α} {ps : List (Sl × List α)} (hw : St w0 (RowsA T C ((s, xs) :: ps) :: H) w) : s.n = xs.length ∧ St w0 (Own T C s.A s.c xs :: RowsA T C ps :: H) w := by
  have h1 : St w0 (rowA T C (s, xs) :: (ps.map (rowA T C) ++ H)) w := St.rows.1 hw
  obtain ⟨h2, h3⟩ := (St.sep h1).pur
  refine ⟨h2, ?_⟩
  refine St.perm ?_ (List.Perm.swap _ _ _)
  refine St.rows.2 ?_
  exact h3.perm List.perm_middle.symm
theorem RowsA.app {ps qs : List (Sl × List α)} (hw : St w0 (RowsA T C ps :: RowsA T C qs :: H) w) : St w0 (RowsA T C (ps ++ qs) :: H) w := by
  refine St.rows.2 ?_
  rw [List.map_append, List.append_assoc]
  have h1 := St.rows.1 hw
  have h2 : St w0 (RowsA T C qs :: (ps.map (rowA T C) ++ H)) w := h1.perm List.perm_middle
  have h3 := St.rows.1 h2
  refine h3.perm ?_
  rw [← List.append_assoc, ← List.append_assoc]
  exact List.perm_append_comm.append_right H
theorem RowsA.unapp {ps qs : List (Sl × List α)} (hw : St w0 (RowsA T C (ps ++ qs) :: H) w) : St w0 (RowsA T C ps :: RowsA T C qs :: H) w := by
  have h1 := St.rows.1 hw
  rw [List.map_append, List.append_assoc] at h1
  refine St.rows.2 ?_
  have h2 : St w0 (qs.map (rowA T C) ++ (ps.map (rowA T C) ++ H)) w := h1.perm (by
    rw [← List.append_assoc, ← List.append_assoc]
    exact List.perm_append_comm.append_right H)
  exact (St.rows.2 h2).perm List.perm_middle.symm
theorem Own.le {A : Option Addr} {c i : Nat} {xs : List α} (hw : St w0 H w) (hp : pull i H = Option.some (Own T C A c xs, H')) : xs.length ≤ 9223372036854775807 := by
  obtain ⟨F, ho, hF⟩ := hw.get i hp
  rcases ho.2 with ⟨h1, h2⟩ | ⟨g, cap, cur, hvv, hbase, hh, hle, hmax, hcs, htake⟩
  · omega
  · simp only [maxLen] at hmax
    omega
theorem RowsA.rd {i : Nat} {ps : List (Sl × List α)} (hw : St w0 H w) (hp : pull i H = some (RowsA T C ps, H')) {p : Sl × List α} (hm : p ∈ ps) : (p.1.n = p.2.length ∧ p.2.length ≤ 9223372036854775807) ∧ Rd C w p.1.A p.2 := by
  obtain ⟨l, r, rfl⟩ := List.append_of_mem hm
  have h1 := RowsA.perm (qs := p :: (l ++ r)) List.perm_middle (hw.perm (pull_perm hp))
  obtain ⟨h2, h3⟩ := RowsA.uncons (s := p.1) (xs := p.2) h1
  exact ⟨⟨h2, Own.le h3 (i := 0) rfl⟩, Own.rd h3 (i := 0) rfl⟩
/-- The lengths are what they are told to be. -/
def LenOk (ps : List (Sl × List α)) : Prop := ∀ p ∈ ps, p.1.n = p.2.length ∧ p.2.length ≤ 9223372036854775807
theorem LenOk.le {ps : List (Sl × List α)} (h : LenOk ps) {k : Nat} (hk : k < ps.length) : (ps[k]).2.length ≤ 9223372036854775807 := (h _ (List.getElem_mem hk)).2
theorem RowsA.len {ps : List (Sl × List α)} (i : Nat) (hp : pull i H = some (RowsA T C ps, H')) : ∀ w, St w0 H w → LenOk ps := fun _ hw _ hm => (RowsA.rd hw hp hm).1
theorem LenOk.sl {ps : List (Sl × List α)} (h : LenOk ps) {k : Nat} (hk : k < ps.length) : (ps[k]).1.v = .slice (ps[k]).1.A (ps[k]).2.length (ps[k]).1.c := by
  unfold Sl.v
  rw [(h _ (List.getElem_mem hk)).1]

/-- What a load of slice k finds. -/
theorem Ld.row {A : Option Addr} {ps : List (Sl × List α)} (hr : ∀ w, St w0 H w → Rd SlC w A (tops ps)) (hn : LenOk ps) {k s : Nat} (hk : k < ps.length) (hs : s = 1) :
    ∀ w, St w0 H w → ∃ q, A.map (·.add (k * s)) = some q ∧ w.cell? q = some (.slice (ps[k]).1.A (ps[k]).2.length (ps[k]).1.c) := by
  have hk' : k < (tops ps).length := by rw [tops_len]; exact hk
  refine Ld.rd (C := SlC) hr hk' hs ?_
  simp only [SlC]
  rw [tops_get ps hk', hn.sl hk]
/-- .. and what lies there. -/
theorem Ld.rows {ps : List (Sl × List α)} (i : Nat) (hp : pull i H = some (RowsA T C ps, H')) {k : Nat} (hk : k < ps.length) : ∀ w, St w0 H w → Rd C w (ps[k]).1.A (ps[k]).2 :=
  fun _ hw => (RowsA.rd hw hp (List.getElem_mem hk)).2

/-- A list of lists that is read. -/
structure RdL (C : Cod α) (w : World) (A : Option Addr) (ps : List (Sl × List α)) : Prop where
  top : Rd SlC w A (tops ps)
  len : LenOk ps
  row : ∀ k (hk : k < ps.length), Rd C w (ps[k]).1.A (ps[k]).2
theorem RdL.below {A : Option Addr} {ps : List (Sl × List α)} {w' : World} (h : RdL C w A ps) (hb : Bel w.heap.size w w') : RdL C w' A ps := ⟨h.top.below hb, h.len, fun k hk => (h.row k hk).below hb⟩
theorem RdL.st {A : Option Addr} {ps : List (Sl × List α)} (h : RdL C w0 A ps) (hw : St w0 H w) : RdL C w A ps := h.below hw.below
theorem Ld.ll {T2 c : Nat} {A : Option Addr} {ps : List (Sl × List α)} {H2 : List Assn} (i j : Nat) (hp : pull i H = some (Own T2 SlC A c (tops ps), H')) (hq : pull j H = some (RowsA T C ps, H2)) : ∀ w, St w0 H w → RdL C w A ps :=
  fun w hw => ⟨Own.rd hw hp, RowsA.len j hq w hw, fun k hk => Ld.rows j hq hk w hw⟩
theorem RdL.nil (C : Cod α) (w : World) (A : Option Addr) : RdL C w A [] := ⟨Rd.nil _ _ _, fun _ h => by simp at h, fun k hk => by simp at hk⟩

/-- A list of lists, owned whole, as a value. -/
def LLv (T2 T : TypeId) (C : Cod α) (v : Value) (p : (Option Addr × Nat) × List (Sl × List α)) (xss : List (List α)) : Assn :=
  .sep (.pur (v = .slice p.1.1 (tops p.2).length p.1.2 ∧ conts p.2 = xss)) (.sep (Own T2 SlC p.1.1 p.1.2 (tops p.2)) (RowsA T C p.2))

/-- Nothing is owned at nil. -/
theorem Own.nilP (w : World) : (Own T C none 0 ([] : List α)).P w (fun _ => False) := by
  refine ⟨⟨by simp, .inl ⟨?_, ?_⟩⟩, fun k => ?_⟩
  all_goals simp [Value.ownBlock]
theorem St.addNil (hw : St w0 H w) : St w0 (Own T C none 0 ([] : List α) :: H) w :=
  hw.add (Bel.refl _ _) (Own.nilP w) (fun _ h => h.elim)

theorem tops_put {ps : List (Sl × List α)} {s : Sl} {xs : List α} (y : Nat) : tops (ps.take y ++ (s, xs) :: ps.drop y) = (tops ps).take y ++ s :: (tops ps).drop y := by simp [tops, List.map_take, List.map_drop]
theorem conts_put {ps : List (Sl × List α)} {s : Sl} {xs : List α} (y : Nat) : conts (ps.take y ++ (s, xs) :: ps.drop y) = (conts ps).take y ++ xs :: (conts ps).drop y := by simp [conts, List.map_take, List.map_drop]
theorem put_heap {T2 c d y : Nat} {A B : Option Addr} {ps : List (Sl × List α)} {xs : List α} {z : Sl} (hy : y ≤ ps.length) (hw : St w0 (Own T2 SlC A c ((shiftAt (tops ps) z y).set y ⟨B, xs.length, d⟩) :: RowsA T C ps :: Own T C B d xs :: H) w) :
    St w0 (Own T2 SlC A c (tops (ps.take y ++ (⟨B, xs.length, d⟩, xs) :: ps.drop y)) :: RowsA T C (ps.take y ++ (⟨B, xs.length, d⟩, xs) :: ps.drop y) :: H) w := by
  rw [shiftAt_done (by rw [tops_len]; exact hy), ← tops_put (xs := xs)] at hw
  have h1 := hw.perm (H' := Own T C B d xs :: RowsA T C ps :: Own T2 SlC A c (tops (ps.take y ++ (⟨B, xs.length, d⟩, xs) :: ps.drop y)) :: H) (by
    refine (List.Perm.swap _ _ _).trans ?_
    refine ((List.Perm.swap _ _ _).cons _).trans ?_
    exact List.Perm.swap _ _ _)
  have h2 := RowsA.perm (qs := ps.take y ++ (⟨B, xs.length, d⟩, xs) :: ps.drop y) (by
    refine List.Perm.trans ?_ List.perm_middle.symm
    rw [List.take_append_drop]) (RowsA.cons h1)
  exact h2.perm (List.Perm.swap _ _ _)
theorem snoc_heap {D : Cod Sl} {T2 c d : Nat} {A B : Option Addr} {ps : List (Sl × List α)} {xs : List α} (hw : St w0 (Own T2 D A c (tops ps ++ [⟨B, xs.length, d⟩]) :: RowsA T C ps :: Own T C B d xs :: H) w) :
    St w0 (Own T2 D A c (tops (ps ++ [(⟨B, xs.length, d⟩, xs)])) :: RowsA T C (ps ++ [(⟨B, xs.length, d⟩, xs)]) :: H) w := by
  rw [tops_append]
  have h1 := hw.perm (H' := Own T C B d xs :: RowsA T C ps :: Own T2 D A c (tops ps ++ [⟨B, xs.length, d⟩]) :: H) (by
    refine (List.Perm.swap _ _ _).trans ?_
    refine ((List.Perm.swap _ _ _).cons _).trans ?_
    exact List.Perm.swap _ _ _)
  have h2 := RowsA.perm (qs := ps ++ [(⟨B, xs.length, d⟩, xs)]) (List.perm_append_comm (l₁ := [_])) (RowsA.cons h1)
  exact h2.perm (List.Perm.swap _ _ _)
theorem one_heap {D : Cod Sl} {T2 c d : Nat} {A B : Option Addr} {xs : List α} (hw : St w0 (Own T2 D A c [⟨B, xs.length, d⟩] :: Own T C B d xs :: H) w) :
    St w0 (Own T2 D A c (tops [((⟨B, xs.length, d⟩ : Sl), xs)]) :: RowsA T C [((⟨B, xs.length, d⟩ : Sl), xs)] :: H) w :=
  snoc_heap (ps := []) ((RowsA.nil (T := T) (C := C) hw).perm (List.Perm.swap _ _ _))
theorem app_heap {D : Cod Sl} {T2 c : Nat} {A : Option Addr} {ps qs : List (Sl × List α)} (hw : St w0 (Own T2 D A c (tops ps ++ tops qs) :: RowsA T C ps :: RowsA T C qs :: H) w) :
    St w0 (Own T2 D A c (tops (ps ++ qs)) :: RowsA T C (ps ++ qs) :: H) w := by
  rw [tops_append]
  have h1 := hw.perm (H' := RowsA T C ps :: RowsA T C qs :: Own T2 D A c (tops ps ++ tops qs) :: H) ((List.Perm.swap _ _ _).trans ((List.Perm.swap _ _ _).cons _))
  exact (RowsA.app h1).perm (List.Perm.swap _ _ _)
theorem unrow {ps : List (Sl × List α)} {k : Nat} (hk : k < ps.length) (hw : St w0 (RowsA T C (ps.drop k) :: H) w) : St w0 (Own T C (ps[k]).1.A (ps[k]).1.c (ps[k]).2 :: RowsA T C (ps.drop (k + 1)) :: H) w := by
  rw [drop_cons hk] at hw
  exact (RowsA.uncons (s := (ps[k]).1) (xs := (ps[k]).2) hw).2
theorem Pu.eqlNil {o : Oper} {σ : Sig} {T T2 e : TypeId} {x y : Operand} {A : Option Addr} {n c m d : Nat} (hT : P.underlying T = some (.slice e)) (ho : o.op = .binOp .eql T x y T2) (hx : ev σ x = some (.slice A n c)) (hy : ev σ y = some (.slice none m d)) : Pu P w0 o σ H (.bool A.isNone) := by
  intro w hw a ha
  have h1 := ha x (by simp [ho, Op.operands]) _ hx
  have h2 := ha y (by simp [ho, Op.operands]) _ hy
  have he : (eqGuard .eql T x y (.slice A n c) (.slice none m d)).run P w = .ok () w := by
    unfold eqGuard
    simp
  simp [execOp, ho, h1, h2, he, Go.Lib.run_eql_slice_nil w T e A n c m d hT]
/-- A call of a function's value, whose result is a plain one. -/
theorem Ef.callPV {Q : Exit → Act → World → Prop} {o : Oper} {σ : Sig} {f : Operand} {g : FuncId} {l : List Operand} {ts : Array TypeId} {vs : List Value} {caps : Array Value} {r : Value} (hok : CallOk P g) (ho : o.op = .call { callee := .value f, args := l.toArray, argTypes := ts }) (hf : ev σ f = some (.func (.func g) #[] caps))
    (hargs : evs σ l = some vs) (hfn : ∀ w, St w0 H w → Does P g (vs ++ caps.toList) w [] (fun v => [.pur (v = r)])) : Ef P w0 o σ H Q (fun v H' => v = r ∧ H' = H) := by
  intro w hw a ha
  have := Ef.callV (Q := Q) ho hf hok hargs (Does.frame hfn) w hw a ha
  refine Oper.wp_mono ?_ this
  rintro a' w' ⟨v, H', rfl, hs, rfl⟩
  have hs' : St w0 (.pur (v = r) :: H) w' := hs
  exact ⟨v, H, rfl, hs'.pur.2, hs'.pur.1, rfl⟩
/-- A block of cells that is read. -/
def RdB (w : World) (b : Nat) (cs : List Value) : Prop := ∀ m u, cs[m]? = some u → w.cell? ⟨b, m, none⟩ = some u
theorem RdB.below {w' : World} {b : Nat} {cs : List Value} (h : RdB w b cs) (hb : Bel w.heap.size w w') : RdB w' b cs := by
  intro m u hm
  have h1 := h m u hm
  rw [hb.low.cell (World.block_lt_of_cell? w _ h1)]
  exact h1
theorem Blk.rdb {b t i : Nat} {cs : List Value} (hw : St w0 H w) (hp : pull i H = Option.some (Blk b cs t, H')) : RdB w b cs := fun m u hm => Blk.cell hw hp hm
theorem Ld.rdb {b j : Nat} {cs : List Value} {u : Value} (h : RdB w0 b cs) (hj : cs[j]? = some u) : ∀ w, St w0 H w → ∃ q, some (⟨b, j, none⟩ : Addr) = some q ∧ w.cell? q = some u := fun w hw => ⟨_, rfl, h.below hw.below j u hj⟩
theorem Ld.rdbs {b : Nat} {cs : List Value} (h : RdB w0 b cs) : ∀ w, St w0 H w → ∃ q, some (⟨b, 0, none⟩ : Addr) = some q ∧ ∀ m u, cs[m]? = some u → w.cell? (q.add m) = some u := by
  intro w hw
  refine ⟨_, rfl, fun m u hm => ?_⟩
  rw [add_mk, Nat.zero_add]
  exact h.below hw.below m u hm
theorem Rd.none {C : Cod α} {A : Option Addr} {xs : List α} (h : Rd C w A xs) (hA : A = none) : xs = [] := by
  cases xs with
  | nil => rfl
  | cons x xs =>
    have := h.some (by simp)
    rw [hA] at this
    cases this
theorem Pu.indexAddrS {o : Oper} {σ : Sig} {T : TypeId} {x y : Operand} {A : Option Addr} {n c : Nat} {e sz : Nat} {K : IntKind} {i : Int} (k : Nat) (ho : o.op = .indexAddr T x y) (hT : P.underlying T = some (.slice e)) (hs : Sz P e sz) (hx : ev σ x = some (.slice A n c)) (hy : ev σ y = some (.int K i)) (hi : i = (k : Int)) (hk : k < n) (hA : ∀ w, St w0 H w → A.isSome = true) :
    Pu P w0 o σ H (.pointer (A.map (·.add (k * sz)))) := fun w hw a ha => Pu.indexAddr k ho hT hs hx hy hi hk (hA w hw) w hw a ha
theorem Does.pre {f : FuncId} {args : List Value} {R : Value → List Assn} (hs : ∀ w, St w0 H w → St w0 H' w) (h : Does P f args w0 H' R) : Does P f args w0 H R := fun w hw => h w (hs w hw)

variable {N : Nat} {Q : Exit → Act → World → Prop} {σ : Sig} {ops : Array Oper} {rest : List Oper}
theorem V.map {c : Code} (hs : ∀ w, St w0 H w → St w0 H' w) (h : V P N w0 c Q σ H') : V P N w0 c Q σ H := fun w hw a ha => h w (hs w hw) a ha
theorem O.map (hs : ∀ w, St w0 H w → St w0 H' w) (h : O P N w0 ops Q rest σ H') : O P N w0 ops Q rest σ H := fun w hw a ha => h w (hs w hw) a ha
theorem X.map {e : Exit} (hs : ∀ w, St w0 H w → St w0 H' w) (h : X N w0 Q e σ H') : X N w0 Q e σ H := fun w hw a ha => h w (hs w hw) a ha
end
end Go.Vc
/-
  Plain words: masks of points; classes: sets of disjoint blocks that have all points.
-/
namespace Go.Vc

/-! ### Masks -/
theorem bit_one (m p : Nat) : (m >>> p) &&& 1 = if m.testBit p then 1 else 0 := by
  rw [Nat.and_one_is_mod, Nat.shiftRight_eq_div_pow, Nat.testBit_eq_decide_div_mod_eq]
  have := Nat.mod_two_eq_zero_or_one (m / 2 ^ p)
  rcases this with h | h <;> simp [h]
theorem bit_is (m p : Nat) : (m >>> p) &&& 1 = 1 ↔ m.testBit p = true := by rw [bit_one]; split <;> simp_all
theorem bit_not (m p : Nat) : (m >>> p) &&& 1 = 0 ↔ m.testBit p = false := by rw [bit_one]; split <;> simp_all
def bmask (b : B3) : Nat := 2 ^ b.1.toNat + 2 ^ b.2.1.toNat + 2 ^ b.2.2.toNat
theorem three_bits {x y z : Nat} (h1 : x < y) (h2 : y < z) (i : Nat) : (2 ^ x + 2 ^ y + 2 ^ z).testBit i = decide (i = x ∨ i = y ∨ i = z) := by
  have e1 : 2 ^ x + 2 ^ y + 2 ^ z = 2 ^ z + (2 ^ y + 2 ^ x) := by omega
  have l1 : 2 ^ x < 2 ^ y := Nat.pow_lt_pow_right (by decide) h1
  have l2 : 2 ^ y + 2 ^ x < 2 ^ z := by
    have : 2 ^ (y + 1) ≤ 2 ^ z := Nat.pow_le_pow_right (by decide) h2
    rw [Nat.pow_succ] at this
    omega
  have e2 := Nat.two_pow_add_eq_or_of_lt l2 1
  have e3 := Nat.two_pow_add_eq_or_of_lt l1 1
  rw [Nat.mul_one] at e2 e3
  rw [e1, e2, e3]
  simp only [Nat.testBit_or, Nat.testBit_two_pow]
  by_cases a : i = x <;> by_cases b : i = y <;> by_cases c : i = z <;> simp [a, b, c] <;> omega
theorem bmask_bit {v : Int} {b : B3} (h : good v b) (p : Nat) : (bmask b).testBit p = true ↔ has b (p : Int) := by
  unfold good at h
  unfold bmask has
  rw [three_bits (by omega) (by omega)]
  simp only [decide_eq_true_eq]
  omega
theorem bmask_lt {b : B3} (h : good 15 b) : bmask b < 65536 := by
  unfold good at h
  unfold bmask
  have h1 : 2 ^ b.1.toNat ≤ 2 ^ 14 := Nat.pow_le_pow_right (by decide) (by omega)
  have h2 : 2 ^ b.2.1.toNat ≤ 2 ^ 14 := Nat.pow_le_pow_right (by decide) (by omega)
  have h3 : 2 ^ b.2.2.toNat ≤ 2 ^ 14 := Nat.pow_le_pow_right (by decide) (by omega)
  omega
theorem and_zero {m n : Nat} : m &&& n = 0 ↔ ∀ p, ¬ (m.testBit p = true ∧ n.testBit p = true) := by
  constructor
  · intro h p hp
    have : (m &&& n).testBit p = true := by rw [Nat.testBit_and]; simp [hp]
    rw [h] at this
    simp at this
  · intro h
    apply Nat.eq_of_testBit_eq
    intro p
    rw [Nat.testBit_and]
    have := h p
    cases h1 : m.testBit p <;> cases h2 : n.testBit p <;> simp_all
theorem and_self {m n : Nat} : m &&& n = m ↔ ∀ p, m.testBit p = true → n.testBit p = true := by
  constructor
  · intro h p hp
    rw [← h, Nat.testBit_and] at hp
    simp at hp
    exact hp.2
  · intro h
    apply Nat.eq_of_testBit_eq
    intro p
    rw [Nat.testBit_and]
    have := h p
    cases h1 : m.testBit p <;> cases h2 : n.testBit p <;> simp_all

/-- How many of the first points a mask has. -/
def cov (m : Nat) : Nat → Nat
  | 0 => 0
  | v + 1 => cov m v + (if m.testBit v then 1 else 0)
theorem cov_le (m : Nat) : ∀ v, cov m v ≤ v := by
  intro v
  induction v with
  | zero => simp [cov]
  | succ v ih => simp only [cov]; split <;> omega
theorem cov_all {m : Nat} : ∀ {v : Nat}, cov m v = v ↔ ∀ p, p < v → m.testBit p = true := by
  intro v
  induction v with
  | zero => simp [cov]
  | succ v ih =>
    have := cov_le m v
    simp only [cov]
    constructor
    · intro h p hp
      split at h
      · by_cases e : p = v
        · subst e; assumption
        · exact ih.1 (by omega) p (by omega)
      · omega
    · intro h
      rw [if_pos (h v (by omega)), ih.2 (fun p hp => h p (by omega))]
theorem cov_or {m n : Nat} (h : m &&& n = 0) : ∀ v, cov (m ||| n) v = cov m v + cov n v := by
  intro v
  induction v with
  | zero => rfl
  | succ v ih =>
    have := and_zero.1 h v
    simp only [cov, ih, Nat.testBit_or]
    cases h1 : m.testBit v <;> cases h2 : n.testBit v <;> simp_all <;> omega
theorem cov_three {n x y z : Nat} (h1 : x < y) (h2 : y < z) (hn : ∀ p, n.testBit p = decide (p = x ∨ p = y ∨ p = z)) : ∀ v, cov n v = (if x < v then 1 else 0) + (if y < v then 1 else 0) + (if z < v then 1 else 0) := by
  intro v
  induction v with
  | zero => simp [cov]
  | succ v ih =>
    simp only [cov, ih, hn, decide_eq_true_eq]
    (repeat' split) <;> omega
theorem cov_bmask {v : Int} {b : B3} (h : good v b) : cov (bmask b) v.toNat = 3 := by
  have hb := h
  unfold good at h
  unfold bmask
  rw [cov_three (x := b.1.toNat) (y := b.2.1.toNat) (z := b.2.2.toNat) (by omega) (by omega) (fun p => three_bits (by omega) (by omega) p), if_pos (by omega), if_pos (by omega), if_pos (by omega)]

theorem pow35 {n : Nat} (h : 0 < n) : 35 ^ n = 35 * 35 ^ (n - 1) := by
  cases n with
  | zero => omega
  | succ n => rw [Nat.pow_succ, Nat.mul_comm]; rfl
/-! ### Classes -/
def blk (bs : List B3) (k : Int) : B3 := bs.getD k.toNat (0, 0, 0)
theorem blk_get {bs : List B3} {i : Nat} (h : i < bs.length) : blk bs (i : Int) = bs[i] := by simp [blk, h]
def okIx (bs : List B3) (k : Int) : Prop := 0 ≤ k ∧ k < bs.length
theorem blk_ix {bs : List B3} {k : Int} (h : okIx bs k) : blk bs k = bs[k.toNat]'(by obtain ⟨h1, h2⟩ := h; omega) := by
  obtain ⟨h1, h2⟩ := h
  have h3 : k.toNat < bs.length := by omega
  simp [blk, h3]
theorem blk_mem {bs : List B3} {k : Int} (h : okIx bs k) : blk bs k ∈ bs := by
  obtain ⟨h1, h2⟩ := h
  have h3 : k.toNat < bs.length := by omega
  have : blk bs k = bs[k.toNat] := by simp [blk, h3]
  rw [this]
  exact List.getElem_mem _
def disj (a b : B3) : Prop := ∀ p, ¬ (has a p ∧ has b p)
theorem disj.symm {a b : B3} (h : disj a b) : disj b a := fun p hp => h p ⟨hp.2, hp.1⟩
theorem not_disj_self (a : B3) : ¬ disj a a := fun h => h a.1 ⟨.inl rfl, .inl rfl⟩
/-- Blocks of numbers are disjoint. -/
def Djs (bs : List B3) (r : List Int) : Prop := r.Pairwise fun i j => disj (blk bs i) (blk bs j)
structure Cls (v : Int) (bs : List B3) (r : List Int) : Prop where
  ix : ∀ k ∈ r, okIx bs k
  up : r.Pairwise (· < ·)
  dj : Djs bs r
  all : ∀ p, 0 ≤ p → p < v → ∃ k ∈ r, has (blk bs k) p
structure Part (bs : List B3) (xs : List Int) (m : Nat) : Prop where
  ix : ∀ k ∈ xs, okIx bs k
  dj : Djs bs xs
  pts : ∀ p : Nat, m.testBit p = true ↔ ∃ k ∈ xs, has (blk bs k) (p : Int)
theorem Djs.inj {bs : List B3} {r : List Int} (h : Djs bs r) {i j : Int} (hi : i ∈ r) (hj : j ∈ r) (hne : i ≠ j) : disj (blk bs i) (blk bs j) := by
  induction r with
  | nil => simp at hi
  | cons a r ih =>
    obtain ⟨h1, h2⟩ := List.pairwise_cons.1 h
    rcases List.mem_cons.1 hi with rfl | hi'
    · rcases List.mem_cons.1 hj with rfl | hj'
      · exact absurd rfl hne
      · exact h1 _ hj'
    · rcases List.mem_cons.1 hj with rfl | hj'
      · exact (h1 _ hi').symm
      · exact ih h2 hi' hj'
theorem Djs.nodup {bs : List B3} {r : List Int} (h : Djs bs r) : r.Nodup := List.Pairwise.imp (fun {a b} hd e => by subst e; exact not_disj_self _ hd) h
/-- Two lists that strictly rise and have the same members. -/
theorem rise_unique : ∀ {l m : List Int}, l.Pairwise (· < ·) → m.Pairwise (· < ·) → (∀ r, r ∈ l ↔ r ∈ m) → l = m := by
  intro l
  induction l with
  | nil =>
    intro m _ _ h
    cases m with
    | nil => rfl
    | cons b m => exact absurd ((h b).2 (by simp)) (by simp)
  | cons a l ih =>
    intro m h1 h2 h
    cases m with
    | nil => exact absurd ((h a).1 (by simp)) (by simp)
    | cons b m =>
      obtain ⟨ha, hl⟩ := List.pairwise_cons.1 h1
      obtain ⟨hb, hm⟩ := List.pairwise_cons.1 h2
      have hab : a = b := by
        rcases List.mem_cons.1 ((h a).1 (by simp)) with e | e
        · exact e
        · rcases List.mem_cons.1 ((h b).2 (by simp)) with e' | e'
          · exact e'.symm
          · have := hb a e; have := ha b e'; omega
      subst hab
      rw [ih hl hm]
      intro r
      constructor
      · intro hr
        rcases List.mem_cons.1 ((h r).1 (by simp [hr])) with e | e
        · subst e
          have := ha _ hr; omega
        · exact e
      · intro hr
        rcases List.mem_cons.1 ((h r).2 (by simp [hr])) with e | e
        · subst e
          have := hb _ hr; omega
        · exact e
theorem rise_of {l : List Int} (hs : l.Pairwise (· ≤ ·)) (hn : l.Nodup) : l.Pairwise (· < ·) := by
  have := hs.and hn
  exact this.imp (fun {a b} h => by have := h.1; have := h.2; omega)
theorem good_lt {v : Int} {b : B3} (h : good v b) {p : Int} (hp : has b p) : 0 ≤ p ∧ p < v := by
  unfold good at h
  rcases hp with e | e | e <;> omega

section
variable {v : Int} {bs : List B3} {xs ys : List Int} {m : Nat}
/-- All points are met: one class begins so. -/
theorem cls_full (hb : ∀ b ∈ bs, good v b) (hp : Part bs xs m) (hm : m = 2 ^ v.toNat - 1) (hperm : ys.Perm xs) (hs : ys.Pairwise (· ≤ ·)) (r : List Int) : r = ys ↔ Cls v bs r ∧ ∀ k ∈ xs, k ∈ r := by
  have hup : ys.Pairwise (· < ·) := rise_of hs (hperm.nodup_iff.2 hp.dj.nodup)
  have hall : ∀ p, 0 ≤ p → p < v → ∃ k ∈ xs, has (blk bs k) p := by
    intro p h0 h1
    have h2 : m.testBit p.toNat = true := by rw [hm, Nat.testBit_two_pow_sub_one]; simp; omega
    obtain ⟨k, hk, hk2⟩ := (hp.pts _).1 h2
    exact ⟨k, hk, by rwa [Int.toNat_of_nonneg h0] at hk2⟩
  constructor
  · rintro rfl
    exact ⟨⟨fun k hk => hp.ix k (hperm.mem_iff.1 hk), hup, (hperm.pairwise_iff (fun h => h.symm)).2 hp.dj, fun p h0 h1 => let ⟨k, hk, h⟩ := hall p h0 h1; ⟨k, hperm.mem_iff.2 hk, h⟩⟩, fun k hk => hperm.mem_iff.2 hk⟩
  · rintro ⟨hc, hx⟩
    refine rise_unique hc.up hup (fun k => ?_)
    rw [hperm.mem_iff]
    refine ⟨fun hk => ?_, hx k⟩
    have hg := good_lt (hb _ (blk_mem (hc.ix k hk))) (p := (blk bs k).1) (.inl rfl)
    obtain ⟨j, hj, hj2⟩ := hall _ hg.1 hg.2
    by_cases e : j = k
    · exact e ▸ hj
    · exact absurd ⟨hj2, .inl rfl⟩ (hc.dj.inj (hx j hj) hk e (blk bs k).1)
/-- A block more. -/
theorem part_snoc (hb : ∀ b ∈ bs, good v b) (hp : Part bs xs m) {i : Nat} (hi : i < bs.length) (h0 : bmask bs[i] &&& m = 0) : Part bs (xs ++ [(i : Int)]) (m ||| bmask bs[i]) := by
  have hg := hb _ (List.getElem_mem hi)
  have h0' := and_zero.1 h0
  refine ⟨?_, ?_, ?_⟩
  · intro k hk
    rcases List.mem_append.1 hk with h | h
    · exact hp.ix k h
    · simp at h; subst h; exact ⟨by omega, by omega⟩
  · refine List.pairwise_append.2 ⟨hp.dj, List.pairwise_singleton .., ?_⟩
    intro a ha b hb'
    simp at hb'
    subst hb'
    intro p hpp
    rw [blk_get hi] at hpp
    have hq := good_lt hg hpp.2
    have h1 : m.testBit p.toNat = true := (hp.pts _).2 ⟨a, ha, by rw [Int.toNat_of_nonneg hq.1]; exact hpp.1⟩
    have h2 : (bmask bs[i]).testBit p.toNat = true := (bmask_bit hg _).2 (by rw [Int.toNat_of_nonneg hq.1]; exact hpp.2)
    exact h0' _ ⟨h2, h1⟩
  · intro p
    rw [Nat.testBit_or, Bool.or_eq_true, hp.pts, bmask_bit hg]
    constructor
    · rintro (⟨k, hk, h⟩ | h)
      · exact ⟨k, by simp [hk], h⟩
      · exact ⟨i, by simp, by rw [blk_get hi]; exact h⟩
    · rintro ⟨k, hk, h⟩
      rcases List.mem_append.1 hk with hk | hk
      · exact .inl ⟨k, hk, h⟩
      · simp at hk; subst hk; rw [blk_get hi] at h; exact .inr h
/-- What is found with the first blocks that have a point. -/
def FoundC (v : Int) (bs : List B3) (xs : List Int) (p : Int) (i : Nat) (r : List Int) : Prop := Cls v bs r ∧ (∀ k ∈ xs, k ∈ r) ∧ ∃ j : Nat, j < i ∧ (j : Int) ∈ r ∧ has (blk bs j) p
theorem found_zero {p : Int} {r : List Int} : ¬ FoundC v bs xs p 0 r := by rintro ⟨_, _, j, hj, _⟩; omega
theorem found_skip {p : Int} {i : Nat} {r : List Int} (h : ∀ r, ¬ (Cls v bs r ∧ (∀ k ∈ xs, k ∈ r) ∧ (i : Int) ∈ r ∧ has (blk bs i) p)) : FoundC v bs xs p (i + 1) r ↔ FoundC v bs xs p i r := by
  constructor
  · rintro ⟨h1, h2, j, hj, h3, h4⟩
    by_cases e : j = i
    · subst e
      exact absurd ⟨h1, h2, h3, h4⟩ (h r)
    · exact ⟨h1, h2, j, by omega, h3, h4⟩
  · rintro ⟨h1, h2, j, hj, h3⟩
    exact ⟨h1, h2, j, by omega, h3⟩
theorem found_succ {p : Int} {i : Nat} {r : List Int} (hh : has (blk bs i) p) : FoundC v bs xs p (i + 1) r ↔ FoundC v bs xs p i r ∨ (Cls v bs r ∧ ∀ k ∈ xs ++ [(i : Int)], k ∈ r) := by
  constructor
  · rintro ⟨h1, h2, j, hj, h3, h4⟩
    by_cases e : j = i
    · subst e
      refine .inr ⟨h1, fun k hk => ?_⟩
      rcases List.mem_append.1 hk with h | h
      · exact h2 k h
      · simp at h; subst h; exact h3
    · exact .inl ⟨h1, h2, j, by omega, h3, h4⟩
  · rintro (⟨h1, h2, j, hj, h3⟩ | ⟨h1, h2⟩)
    · exact ⟨h1, h2, j, by omega, h3⟩
    · exact ⟨h1, fun k hk => h2 k (by simp [hk]), i, by omega, h2 i (by simp), hh⟩
theorem found_all {p : Nat} (hv : (p : Int) < v) {r : List Int} : FoundC v bs xs (p : Int) bs.length r ↔ Cls v bs r ∧ ∀ k ∈ xs, k ∈ r := by
  constructor
  · rintro ⟨h1, h2, _⟩
    exact ⟨h1, h2⟩
  · rintro ⟨h1, h2⟩
    obtain ⟨k, hk, h3⟩ := h1.all p (by omega) hv
    have hk2 := h1.ix k hk
    have hk3 : ((k.toNat : Nat) : Int) = k := Int.toNat_of_nonneg hk2.1
    exact ⟨h1, h2, k.toNat, by have := hk2.2; omega, by rw [hk3]; exact hk, by rw [hk3]; exact h3⟩
/-- A block that meets those there are leads nowhere. -/
theorem found_meets (hb : ∀ b ∈ bs, good v b) (hp : Part bs xs m) {p i : Nat} (hi : i < bs.length) (hpm : m.testBit p = false) (h0 : ¬ bmask bs[i] &&& m = 0) (r : List Int) : ¬ (Cls v bs r ∧ (∀ k ∈ xs, k ∈ r) ∧ (i : Int) ∈ r ∧ has (blk bs i) (p : Int)) := by
  rintro ⟨h1, h2, h3, h4⟩
  apply h0
  rw [and_zero]
  rintro q ⟨hq1, hq2⟩
  have hg := hb _ (List.getElem_mem hi)
  obtain ⟨k, hk, hk2⟩ := (hp.pts q).1 hq2
  have hq3 := (bmask_bit hg q).1 hq1
  by_cases e : k = (i : Int)
  · subst e
    have : m.testBit p = true := (hp.pts p).2 ⟨_, hk, h4⟩
    rw [hpm] at this
    cases this
  · exact h1.dj.inj (h2 k hk) h3 e _ ⟨hk2, by rw [blk_get hi]; exact hq3⟩
theorem part_nil : Part bs [] 0 := ⟨by simp, List.Pairwise.nil, by simp⟩
/-- Points are left. -/
theorem part_left (hb : ∀ b ∈ bs, good v b) (hp : Part bs xs m) (hm : ¬ m = 2 ^ v.toNat - 1) {p : Nat} (h : ∀ q, q < p → m.testBit q = true) : (p : Int) < v := by
  rcases Int.lt_or_le (p : Int) v with h1 | h1
  · exact h1
  · exfalso
    apply hm
    apply Nat.eq_of_testBit_eq
    intro q
    rw [Nat.testBit_two_pow_sub_one]
    by_cases hq : q < v.toNat
    · rw [h q (by omega)]; simp [hq]
    · simp only [hq, decide_false]
      cases hc : m.testBit q with
      | false => rfl
      | true =>
        obtain ⟨k, hk, hk2⟩ := (hp.pts q).1 hc
        have := good_lt (hb _ (blk_mem (hp.ix k hk))) hk2
        omega
theorem part_pos (hb : ∀ b ∈ bs, good v b) (hp : Part bs xs m) (hm : ¬ m = 2 ^ v.toNat - 1) (hv : 0 ≤ v) : cov m v.toNat < v.toNat := by
  have h1 := cov_le m v.toNat
  rcases Nat.lt_or_ge (cov m v.toNat) v.toNat with h | h
  · exact h
  · have h2 := cov_all.1 (Nat.le_antisymm h1 h)
    have := part_left hb hp hm h2
    omega
theorem cov_snoc (hb : ∀ b ∈ bs, good v b) {i : Nat} (hi : i < bs.length) (h0 : bmask bs[i] &&& m = 0) : cov (m ||| bmask bs[i]) v.toNat = cov m v.toNat + 3 := by
  rw [cov_or (by rw [Nat.and_comm]; exact h0), cov_bmask (hb _ (List.getElem_mem hi))]
theorem mask_inside (hb : ∀ b ∈ bs, good v b) {i : Nat} (hi : i < bs.length) : bmask bs[i] &&& (2 ^ v.toNat - 1) = bmask bs[i] := by
  rw [and_self]
  intro p hp
  have hg := hb _ (List.getElem_mem hi)
  have := good_lt hg ((bmask_bit hg p).1 hp)
  rw [Nat.testBit_two_pow_sub_one]
  simp
  omega
end

/-! ### Extensions: sets of so many disjoint blocks that begin with some -/
def meets (b c : B3) : Prop := has c b.1 ∨ has c b.2.1 ∨ has c b.2.2
instance (b c : B3) : Decidable (meets b c) := inferInstanceAs (Decidable (_ ∨ _ ∨ _))
theorem meets_disj {b c : B3} : ¬ meets b c ↔ disj b c := by
  unfold meets disj
  constructor
  · intro h p ⟨h1, h2⟩
    rcases h1 with e | e | e
    · exact h (.inl (e ▸ h2))
    · exact h (.inr (.inl (e ▸ h2)))
    · exact h (.inr (.inr (e ▸ h2)))
  · intro h h'
    rcases h' with e | e | e
    · exact h _ ⟨.inl rfl, e⟩
    · exact h _ ⟨.inr (.inl rfl), e⟩
    · exact h _ ⟨.inr (.inr rfl), e⟩
structure Dj (bs : List B3) (r : List Int) : Prop where
  ix : ∀ k ∈ r, okIx bs k
  up : r.Pairwise (· < ·)
  dj : Djs bs r
def Ext (bs : List B3) (now : List Int) (many : Nat) (r : List Int) : Prop := Dj bs r ∧ now <+: r ∧ r.length = many
def ExtB (bs : List B3) (now : List Int) (many i : Nat) (r : List Int) : Prop := Ext bs now many r ∧ ∃ j : Nat, j < i ∧ (now ++ [(j : Int)]) <+: r
section
variable {bs : List B3} {now : List Int} {many i : Nat}
theorem ext_self (h : Dj bs now) (hl : now.length = many) : IsList (Ext bs now many) [now] := by
  refine ⟨List.pairwise_singleton .., fun r => ?_⟩
  rw [List.mem_singleton]
  constructor
  · rintro rfl
    exact ⟨h, List.prefix_refl _, hl⟩
  · rintro ⟨_, h2, h3⟩
    exact (h2.eq_of_length (by omega)).symm
/-- Where the search begins. -/
def fromOf (now : List Int) : Int := match now.getLast? with | some k => k + 1 | none => 0
theorem fromOf_pos {now : List Int} (h : 0 < now.length) : fromOf now = now[now.length - 1] + 1 := by
  unfold fromOf
  rw [List.getLast?_eq_getElem?, List.getElem?_eq_getElem (by omega)]
theorem fromOf_nil {now : List Int} (h : now.length = 0) : fromOf now = 0 := by
  have := List.eq_nil_of_length_eq_zero h
  subst this
  rfl
theorem fromOf_nonneg (h : Dj bs now) : 0 ≤ fromOf now ∧ fromOf now ≤ bs.length := by
  rcases Nat.eq_zero_or_pos now.length with h1 | h1
  · rw [fromOf_nil h1]; omega
  · rw [fromOf_pos h1]
    have := h.ix _ (List.getElem_mem (l := now) (n := now.length - 1) (by omega))
    unfold okIx at this
    omega
theorem last_lt (h : now.Pairwise (· < ·)) {j : Int} : (now ++ [j]).Pairwise (· < ·) ↔ (0 < now.length → fromOf now ≤ j) := by
  rw [List.pairwise_append]
  constructor
  · rintro ⟨_, _, h3⟩ hp
    rw [fromOf_pos hp]
    have := h3 _ (List.getElem_mem (l := now) (n := now.length - 1) (by omega)) j (by simp)
    omega
  · intro h2
    refine ⟨h, List.pairwise_singleton .., ?_⟩
    intro a ha b hb
    simp at hb
    subst hb
    obtain ⟨k, hk, rfl⟩ := List.getElem_of_mem ha
    have h3 := h2 (by omega)
    rw [fromOf_pos (by omega)] at h3
    by_cases e : k = now.length - 1
    · subst e; omega
    · have := List.pairwise_iff_getElem.1 h k (now.length - 1) hk (by omega) (by omega)
      omega
theorem extB_from (h : Dj bs now) {f : Nat} (hf : (f : Int) = fromOf now) {r : List Int} : ¬ ExtB bs now many f r := by
  rintro ⟨⟨h1, _, _⟩, j, hj, h2⟩
  have h3 := h1.up.sublist h2.sublist
  have h4 := (last_lt h.up).1 h3
  rcases Nat.eq_zero_or_pos now.length with h5 | h5
  · rw [fromOf_nil h5] at hf; omega
  · have := h4 h5; omega
theorem dj_snoc (h : Dj bs now) (hi : i < bs.length) (hf : fromOf now ≤ i) (hm : ∀ k ∈ now, ¬ meets (blk bs k) (blk bs i)) : Dj bs (now ++ [(i : Int)]) := by
  refine ⟨fun k hk => ?_, (last_lt h.up).2 (fun _ => hf), ?_⟩
  · rcases List.mem_append.1 hk with h1 | h1
    · exact h.ix k h1
    · simp at h1; subst h1; exact ⟨by omega, by omega⟩
  · refine List.pairwise_append.2 ⟨h.dj, List.pairwise_singleton .., ?_⟩
    intro a ha b hb
    simp at hb
    subst hb
    exact meets_disj.1 (hm a ha)
theorem extB_skip (h : ∃ k ∈ now, meets (blk bs k) (blk bs i)) (hn : ∀ k ∈ now, k < i) {r : List Int} : ExtB bs now many (i + 1) r ↔ ExtB bs now many i r := by
  constructor
  · rintro ⟨h1, j, hj, h2⟩
    refine ⟨h1, j, ?_, h2⟩
    by_cases e : j = i
    · subst e
      exfalso
      obtain ⟨k, hk, hm⟩ := h
      have h3 := h1.1.dj.sublist h2.sublist
      have h4 := (List.pairwise_append.1 h3).2.2 k hk j (by simp)
      exact meets_disj.2 h4 hm
    · omega
  · rintro ⟨h1, j, hj, h2⟩
    exact ⟨h1, j, by omega, h2⟩
theorem extB_succ {r : List Int} : ExtB bs now many (i + 1) r ↔ ExtB bs now many i r ∨ Ext bs (now ++ [(i : Int)]) many r := by
  constructor
  · rintro ⟨h1, j, hj, h2⟩
    by_cases e : j = i
    · subst e
      exact .inr ⟨h1.1, h2, h1.2.2⟩
    · exact .inl ⟨h1, j, by omega, h2⟩
  · rintro (⟨h1, j, hj, h2⟩ | ⟨h1, h2, h3⟩)
    · exact ⟨h1, j, by omega, h2⟩
    · exact ⟨⟨h1, (List.prefix_append _ _).trans h2, h3⟩, i, by omega, h2⟩
theorem ltL_prefix {now a b : List Int} {i j : Int} (hij : j < i) (ha : (now ++ [j]) <+: a) (hb : (now ++ [i]) <+: b) : ltL a b := by
  obtain ⟨a', rfl⟩ := ha
  obtain ⟨b', rfl⟩ := hb
  induction now with
  | nil => exact ltL_cons.2 (.inl hij)
  | cons x now ih => exact ltL_cons.2 (.inr ⟨rfl, ih⟩)
theorem extB_list {ls ls' : List (List Int)} (h1 : IsList (ExtB bs now many i) ls) (h2 : IsList (Ext bs (now ++ [(i : Int)]) many) ls') : IsList (ExtB bs now many (i + 1)) (ls ++ ls') := by
  refine ⟨List.pairwise_append.2 ⟨h1.1, h2.1, ?_⟩, fun r => ?_⟩
  · intro a ha b hb
    obtain ⟨_, j, hj, h3⟩ := (h1.2 a).1 ha
    exact ltL_prefix (by omega) h3 ((h2.2 b).1 hb).2.1
  · rw [List.mem_append, h1.2, h2.2, extB_succ]
theorem extB_all (hn : now.length < many) {r : List Int} : ExtB bs now many bs.length r ↔ Ext bs now many r := by
  constructor
  · exact fun h => h.1
  · rintro ⟨h1, h2, h3⟩
    refine ⟨⟨h1, h2, h3⟩, ?_⟩
    obtain ⟨t, rfl⟩ := h2
    cases t with
    | nil => simp at h3; omega
    | cons k t =>
      have hk := h1.ix k (by simp)
      have hk3 : ((k.toNat : Nat) : Int) = k := Int.toNat_of_nonneg hk.1
      refine ⟨k.toNat, by have := hk.2; omega, ?_⟩
      rw [hk3]
      exact ⟨t, by simp⟩
theorem below_from (h : Dj bs now) {j : Int} (hf : fromOf now ≤ j) : ∀ k ∈ now, k < j := by
  intro k hk
  have h1 := (last_lt h.up (j := j)).2 (fun _ => hf)
  exact (List.pairwise_append.1 h1).2.2 k hk j (by simp)
theorem dj_nil : Dj bs [] := ⟨by simp, List.Pairwise.nil, List.Pairwise.nil⟩
/-- The mask of a set of blocks. -/
def maskOf (bs : List B3) : List Int → Nat
  | [] => 0
  | k :: r => bmask (blk bs k) ||| maskOf bs r
theorem maskOf_bit {v : Int} (hb : ∀ b ∈ bs, good v b) {r : List Int} (hr : ∀ k ∈ r, okIx bs k) (p : Nat) : (maskOf bs r).testBit p = true ↔ ∃ k ∈ r, has (blk bs k) (p : Int) := by
  induction r with
  | nil => simp [maskOf]
  | cons k r ih =>
    simp only [maskOf, Nat.testBit_or, Bool.or_eq_true, ih (fun k hk => hr k (by simp [hk])), bmask_bit (hb _ (blk_mem (hr k (by simp)))), List.mem_cons]
    constructor
    · rintro (h | ⟨j, hj, h⟩)
      · exact ⟨k, .inl rfl, h⟩
      · exact ⟨j, .inr hj, h⟩
    · rintro ⟨j, rfl | hj, h⟩
      · exact .inl h
      · exact .inr ⟨j, hj, h⟩
theorem maskOf_cov {v : Int} (hb : ∀ b ∈ bs, good v b) {r : List Int} (hr : ∀ k ∈ r, okIx bs k) (hd : Djs bs r) : cov (maskOf bs r) v.toNat = 3 * r.length := by
  induction r with
  | nil =>
    have : ∀ n, cov 0 n = 0 := by
      intro n
      induction n with
      | zero => rfl
      | succ n ih => simp [cov, ih]
    simp [maskOf, this]
  | cons k r ih =>
    obtain ⟨h1, h2⟩ := List.pairwise_cons.1 hd
    have hr' : ∀ k ∈ r, okIx bs k := fun k hk => hr k (by simp [hk])
    have hk := hb _ (blk_mem (hr k (by simp)))
    have h0 : bmask (blk bs k) &&& maskOf bs r = 0 := by
      rw [and_zero]
      rintro p ⟨hp1, hp2⟩
      obtain ⟨j, hj, h3⟩ := (maskOf_bit hb hr' p).1 hp2
      exact h1 j hj _ ⟨(bmask_bit hk p).1 hp1, h3⟩
    simp only [maskOf, cov_or h0, ih hr' h2, cov_bmask hk, List.length_cons]
    omega
/-- Classes are the sets of a third of the points as many disjoint blocks. -/
theorem cls_count {v : Int} (hb : ∀ b ∈ bs, good v b) (hv : 0 ≤ v) (r : List Int) : Cls v bs r ↔ Dj bs r ∧ 3 * r.length = v.toNat := by
  have key : ∀ h : Dj bs r, (3 * r.length = v.toNat ↔ ∀ p : Int, 0 ≤ p → p < v → ∃ k ∈ r, has (blk bs k) p) := by
    intro h
    rw [← maskOf_cov hb h.ix h.dj, cov_all]
    constructor
    · intro h1 p h2 h3
      have := (maskOf_bit hb h.ix _).1 (h1 p.toNat (by omega))
      rwa [Int.toNat_of_nonneg h2] at this
    · intro h1 p hp
      exact (maskOf_bit hb h.ix p).2 (h1 p (by omega) (by omega))
  constructor
  · intro h
    have hd : Dj bs r := ⟨h.ix, h.up, h.dj⟩
    exact ⟨hd, (key hd).2 h.all⟩
  · rintro ⟨hd, h2⟩
    exact ⟨hd.ix, hd.up, hd.dj, (key hd).1 h2⟩
theorem cls_ext {v : Int} (hb : ∀ b ∈ bs, good v b) (hv : 0 ≤ v) (h3 : v % 3 = 0) {l : List (List Int)} (h : IsList (Ext bs [] (v / 3).toNat) l) : IsList (Cls v bs) l := by
  refine ⟨h.1, fun r => ?_⟩
  rw [h.2 r, cls_count hb hv]
  unfold Ext
  simp only [List.nil_prefix, true_and]
  constructor
  · rintro ⟨h1, h2⟩
    exact ⟨h1, by omega⟩
  · rintro ⟨h1, h2⟩
    exact ⟨h1, by omega⟩
theorem cls_none {v : Int} (hb : ∀ b ∈ bs, good v b) (hv : 0 ≤ v) (h3 : ¬ v % 3 = 0) : IsList (Cls v bs) [] := by
  refine ⟨List.Pairwise.nil, fun r => ?_⟩
  rw [cls_count hb hv]
  simp
  intro _
  omega
end
end Go.Vc
/-
  The calculus, part 9: a part of an element of an owned row is written; rows taken out and put back; the marks of the laws.
-/
namespace Go.Vc
open Go Go.RowKit

section
variable {P : Program} {w0 w : World} {H H' : List Assn} {α : Type} {T : TypeId} {C : Cod α} {Q : Exit → Act → World → Prop} {σ : Sig} {o : Oper}

theorem flat_set (C : Cod α) (xs : List α) (k j : Nat) (u : Value) (y : α) (hk : k < xs.length) (hj : j < C.sz) (hy : C.enc y = (C.enc xs[k]).set j u) : (xs.flatMap C.enc).set (k * C.sz + j) u = (xs.set k y).flatMap C.enc := by
  induction xs generalizing k with
  | nil => simp at hk
  | cons x xs ih =>
    cases k with
    | zero =>
      simp only [Nat.zero_mul, Nat.zero_add, List.flatMap_cons, List.set_cons_zero]
      rw [List.set_append_left _ _ (by rw [C.len]; exact hj)]
      simp only [List.getElem_cons_zero] at hy
      rw [hy]
    | succ k =>
      simp only [List.flatMap_cons, List.set_cons_succ]
      rw [List.set_append_right _ _ (by rw [C.len, Nat.add_mul]; omega), C.len]
      have : (k + 1) * C.sz + j - C.sz = k * C.sz + j := by rw [Nat.add_mul]; omega
      rw [this, ih k (by simpa using hk) (by simpa using hy)]

/-- A store into part j of element k of an owned row. -/
theorem Ef.storeOwnAt {T e s c : Nat} {x y : Operand} {v : Value} {A : Option Addr} {xs : List α} (i : Nat) (k j : Nat) (u : α) (ho : o.op = .store T x y) (hs : Sz P T 1) (hx : ev σ x = some (.pointer ((A.map (·.add (k * s))).map (·.add j)))) (hy : ev σ y = some v)
    (hp : pull i H = some (Own e C A c xs, H')) (hsz : s = C.sz) (hk : k < xs.length) (hj : j < C.sz) (hv : v.cells = #[v]) (h1v : v.oneCell' = true) (hu : C.enc u = (C.enc xs[k]).set j v) :
    Ef P w0 o σ H Q (fun _ H'' => H'' = repl i H (Own e C A c (xs.set k u))) := by
  intro w hw a ha
  have h1' := ha x (by simp [ho, Op.operands]) _ hx
  have h2' := ha y (by simp [ho, Op.operands]) _ hy
  subst hsz
  have hw2 := hw.perm (pull_perm hp)
  obtain ⟨F, ho', hF⟩ := hw.get i hp
  rcases ho'.2 with ⟨h1, h2⟩ | ⟨g, cap, cur, hvv, hbase, hh, hle, hmax, hcs, htake⟩
  · omega
  · have hA : A = some ⟨g, 0, none⟩ := by injection hvv
    have hcap : c = cap := by injection hvv
    subst hA
    have hkc : k * C.sz + j < xs.length * C.sz := by
      have : (k + 1) * C.sz ≤ xs.length * C.sz := Nat.mul_le_mul_right _ (by omega)
      rw [Nat.add_mul] at this
      omega
    have hn : xs.length * C.sz ≤ cur.size := by rw [hcs]; exact Nat.mul_le_mul_right _ hle
    have hst := run_storeCells_at P g (k * C.sz + j) e [v] 0 cur w hh (by simp; omega) (by simpa using h1v)
    simp only [Nat.add_zero] at hst
    have hrun : (execOp a.eval o).run P w = .ok .skip (w.setRow g (cur.toList.take (k * C.sz + j) ++ [v] ++ cur.toList.drop (k * C.sz + j + [v].length)).toArray) := by
      simp [execOp, ho, h1', h2', Instr.storeAt, Instr.sureAddr, storeVar, run_sz hs, hv, add_mk, hst]
    have hset : cur.toList.take (k * C.sz + j) ++ [v] ++ cur.toList.drop (k * C.sz + j + [v].length) = cur.toList.set (k * C.sz + j) v := by
      rw [List.set_eq_take_append_cons_drop, if_pos (by simp; omega)]
      simp
    rw [hset] at hrun
    unfold Oper.wp
    rw [hrun]
    refine ⟨undef, _, rfl, ?_, rfl⟩
    refine St.perm ?_ (repl_perm hp)
    refine hw2.upd (B := Own e C (some ⟨g, 0, none⟩) c (xs.set k u)) ?_
    rintro F2 ⟨ho2, hF2⟩ hb
    refine ⟨⟨rfl, rfl, rfl, by simp [World.setRow], fun m _ hm => setRow_other w g m _ (fun e1 => hm ((hF2 m).2 (by subst e1; rfl))), Nat.le_refl _⟩, F2, ⟨⟨?_, .inr ⟨g, cap, _, ?_, Nat.zero_le _, setRow_heap w g cur _ e _ hh, ?_, hmax, ?_, ?_⟩⟩, ?_⟩, ?_⟩
    · rw [length_flatMap_enc]
    · rw [hcap]
    · simpa using hle
    · simpa using hcs
    · rw [List.length_set, List.take_set, htake]
      exact flat_set C xs k j v u hk hj hu
    · intro m
      rw [hF2 m]
      simp
    · intro m hm
      exact ⟨.inl hm, by have := (hb m hm).2; simpa [World.setRow] using this⟩

theorem Pu.indexArr' {T : TypeId} {x y : Operand} {p : Option Addr} {e sz n : Nat} {K : IntKind} {i : Int} (k : Nat) (ho : o.op = .indexAddr T x y) (hT : P.underlying T = some (.array n e)) (hs : Sz P e sz) (hx : ev σ x = some (.pointer p)) (hy : ev σ y = some (.int K i)) (hi : i = (k : Int)) (hk : k < n) (h1 : sz = 1) (hp : ∀ w, St w0 H w → p.isSome = true) :
    Pu P w0 o σ H (.pointer (p.map (·.add k))) := by
  intro w hw a ha
  have h1' := ha x (by simp [ho, Op.operands]) _ hx
  have h2 := ha y (by simp [ho, Op.operands]) _ hy
  obtain ⟨q, rfl⟩ := Option.isSome_iff_exists.1 (hp w hw)
  subst hi
  subst h1
  simp [execOp, ho, h1', h2, Instr.indexAt, Instr.sureAddr, asIntOf, run_underlying hT, run_sz hs, hk]

/-! ### Marks -/
def marks (m : Int) (n : Nat) : List Int := (List.range n).map fun i => m + (i : Nat)
theorem marks_len (m : Int) (n : Nat) : (marks m n).length = n := by simp [marks]
theorem marks_get (m : Int) (n : Nat) {k : Nat} (hk : k < (marks m n).length) : (marks m n)[k] = m + k := by simp [marks]
def markAt (xs : List Int) (m : Int) (k : Nat) : List Int := marks m k ++ xs.drop k
theorem markAt_zero (xs : List Int) (m : Int) : markAt xs m 0 = xs := by simp [markAt, marks]
theorem markAt_len {xs : List Int} {m : Int} {k : Nat} (h : k ≤ xs.length) : (markAt xs m k).length = xs.length := by simp [markAt, marks_len]; omega
theorem markAt_set {xs : List Int} {m : Int} {k : Nat} (h : k < xs.length) : (markAt xs m k).set k (m + k) = markAt xs m (k + 1) := by
  unfold markAt
  rw [List.set_append_right _ _ (by rw [marks_len]; exact Nat.le_refl _), marks_len, Nat.sub_self, drop_cons h, List.set_cons_zero]
  unfold marks
  rw [List.range_succ, List.map_append, List.append_assoc]
  rfl
theorem markAt_all {xs : List Int} {m : Int} {k : Nat} (h : k = xs.length) : markAt xs m k = marks m xs.length := by
  subst h
  simp [markAt]
/-- The marks of a list of lists. -/
def sumLen : List (Sl × List Int) → Nat
  | [] => 0
  | p :: r => p.2.length + sumLen r
def markL : Int → List (Sl × List Int) → List (Sl × List Int)
  | _, [] => []
  | m, p :: r => (p.1, marks m p.2.length) :: markL (m + p.2.length) r
theorem markL_tops : ∀ (ps : List (Sl × List Int)) (m : Int), tops (markL m ps) = tops ps := by
  intro ps
  induction ps with
  | nil => intro m; rfl
  | cons p ps ih => intro m; simp only [tops, markL, List.map_cons] at *; rw [ih]
theorem markL_len (m : Int) (ps : List (Sl × List Int)) : (markL m ps).length = ps.length := by rw [← tops_len, markL_tops, tops_len]
theorem sumLen_append : ∀ (ps qs : List (Sl × List Int)), sumLen (ps ++ qs) = sumLen ps + sumLen qs := by
  intro ps
  induction ps with
  | nil => intro qs; simp [sumLen]
  | cons p ps ih => intro qs; simp only [List.cons_append, sumLen, ih]; omega
theorem markL_append : ∀ (ps qs : List (Sl × List Int)) (m : Int), markL m (ps ++ qs) = markL m ps ++ markL (m + sumLen ps) qs := by
  intro ps
  induction ps with
  | nil => intro qs m; simp [markL, sumLen]
  | cons p ps ih =>
    intro qs m
    simp only [List.cons_append, markL, sumLen, ih]
    congr 3
    push_cast
    omega
theorem sumLen_take {ps : List (Sl × List Int)} {k : Nat} (hk : k < ps.length) : sumLen (ps.take (k + 1)) = sumLen (ps.take k) + (ps[k]).2.length := by rw [take_snoc hk, sumLen_append]; simp [sumLen]
theorem markL_take {ps : List (Sl × List Int)} {k : Nat} (hk : k < ps.length) (m : Int) : markL m (ps.take (k + 1)) = markL m (ps.take k) ++ [((ps[k]).1, marks (m + sumLen (ps.take k)) (ps[k]).2.length)] := by rw [take_snoc hk, markL_append]; rfl
theorem sumLen_le {ps : List (Sl × List Int)} {k : Nat} : sumLen (ps.take k) ≤ sumLen ps := by
  have := sumLen_append (ps.take k) (ps.drop k)
  rw [List.take_append_drop] at this
  omega
theorem markL_get {ps : List (Sl × List Int)} {k : Nat} (m : Int) (hk : k < ps.length) (hk' : k < (markL m ps).length) : (markL m ps)[k] = ((ps[k]).1, marks (m + sumLen (ps.take k)) (ps[k]).2.length) := by
  have h1 := markL_append (ps.take (k + 1)) (ps.drop (k + 1)) m
  rw [List.take_append_drop, markL_take hk] at h1
  have h2 : (markL m (ps.take k)).length = k := by rw [markL_len, List.length_take]; omega
  apply Option.some.inj
  rw [← List.getElem?_eq_getElem hk', h1, List.append_assoc, List.getElem?_append_right (by omega), h2]
  simp
theorem sumLen_bound {ps : List (Sl × List Int)} {M : Nat} (h : ∀ q ∈ conts ps, q.length ≤ M) : sumLen ps ≤ ps.length * M := by
  induction ps with
  | nil => simp [sumLen]
  | cons p ps ih =>
    have h1 := h p.2 (by simp [conts])
    have h2 := ih (fun q hq => h q (by simp only [conts, List.map_cons, List.mem_cons] at *; exact .inr hq))
    simp only [sumLen, List.length_cons, Nat.add_mul, Nat.one_mul]
    omega
theorem Ld.llm {T2 c i j : Nat} {A : Option Addr} {ps : List (Sl × List Int)} {m : Int} {H2 : List Assn} (hp : pull i H = some (Own T2 SlC A c (tops ps), H')) (hq : pull j H = some (RowsA T I64 (markL m ps), H2)) : ∀ w, St w0 H w → RdL I64 w A (markL m ps) := by
  rw [← markL_tops ps m] at hp
  exact Ld.ll i j hp hq
/-- A row is taken out. -/
theorem row_out {ps qs : List (Sl × List α)} {k : Nat} (hk : k < ps.length) (hw : St w0 (RowsA T C (qs ++ ps.drop k) :: H) w) : St w0 (Own T C (ps[k]).1.A (ps[k]).1.c (ps[k]).2 :: RowsA T C (qs ++ ps.drop (k + 1)) :: H) w := by
  rw [drop_cons hk] at hw
  exact (RowsA.uncons (s := (ps[k]).1) (xs := (ps[k]).2) (RowsA.perm List.perm_middle hw)).2
/-- .. and another put in. -/
theorem row_in {ps qs : List (Sl × List α)} {s : Sl} {xs : List α} (hn : s.n = xs.length) (hw : St w0 (Own T C s.A s.c xs :: RowsA T C (qs ++ ps) :: H) w) : St w0 (RowsA T C ((qs ++ [(s, xs)]) ++ ps) :: H) w := by
  have h1 := RowsA.cons hw
  have h2 : (⟨s.A, xs.length, s.c⟩ : Sl) = s := by rw [← hn]
  rw [h2] at h1
  rw [List.append_assoc]
  exact RowsA.perm List.perm_middle.symm h1
end
end Go.Vc
/-
  Plain words: sets of points as masks: how many, which; blocks inside, blocks met.
-/
namespace Go.Vc

/-- How many bits a number has. -/
def ones (m : Nat) : Nat := if h : m = 0 then 0 else m % 2 + ones (m / 2)
termination_by m
decreasing_by omega
theorem ones_zero : ones 0 = 0 := by unfold ones; simp
theorem ones_step {m : Nat} (h : 0 < m) : ones m = m % 2 + ones (m / 2) := by
  rw [ones, dif_neg (by omega)]
theorem ones_le (m : Nat) : ones m ≤ m := by
  induction m using Nat.strongRecOn with
  | _ m ih =>
    by_cases h : m = 0
    · subst h; simp [ones_zero]
    · rw [ones_step (by omega)]
      have := ih (m / 2) (by omega)
      omega
theorem cov_half (m : Nat) : ∀ v, cov m (v + 1) = m % 2 + cov (m / 2) v := by
  intro v
  induction v with
  | zero =>
    simp only [cov, Nat.zero_add, Nat.add_zero]
    rw [Nat.testBit_zero]
    have := Nat.mod_two_eq_zero_or_one m
    rcases this with h | h <;> simp [h]
  | succ v ih =>
    rw [cov, ih, cov, Nat.testBit_succ]
    omega
theorem cov_ones : ∀ {v m : Nat}, m < 2 ^ v → cov m v = ones m := by
  intro v
  induction v with
  | zero =>
    intro m h
    have : m = 0 := by simpa using h
    subst this
    rw [ones_zero]; rfl
  | succ v ih =>
    intro m h
    rw [cov_half, ih (by rw [Nat.pow_succ] at h; omega)]
    by_cases h0 : m = 0
    · subst h0; simp [ones_zero]
    · exact (ones_step (by omega)).symm
/-- What the word-wise count gives, step by step. -/
def st1 (x : Nat) : Nat := Nat.add (Nat.land (Nat.shiftRight x 1) 6148914691236517205) (Nat.land x 6148914691236517205)
def st2 (x : Nat) : Nat := Nat.add (Nat.land (Nat.shiftRight x 2) 3689348814741910323) (Nat.land x 3689348814741910323)
def st3 (x : Nat) : Nat := Nat.land (Nat.add (Nat.shiftRight x 4) x) 1085102592571150095
def st4 (x : Nat) : Nat := Nat.add x (Nat.shiftRight x 8)
def st5 (x : Nat) : Nat := Nat.add x (Nat.shiftRight x 16)
def st6 (x : Nat) : Nat := Nat.add x (Nat.shiftRight x 32)
def c64 (x : Nat) : Nat := Nat.land (st6 (st5 (st4 (st3 (st2 (st1 x)))))) 127
theorem shr_le (x k : Nat) : Nat.shiftRight x k ≤ x := by
  have : Nat.shiftRight x k = x / 2 ^ k := Nat.shiftRight_eq_div_pow x k
  rw [this]
  exact Nat.div_le_self _ _
theorem land_le (x y : Nat) : Nat.land x y ≤ x := Nat.and_le_left
theorem nadd (a b : Nat) : Nat.add a b = a + b := rfl
theorem st1_le (x : Nat) : st1 x ≤ 2 * x := by
  have h1 := land_le (Nat.shiftRight x 1) 6148914691236517205
  have h2 := land_le x 6148914691236517205
  have h3 := shr_le x 1
  unfold st1
  rw [nadd]
  omega
theorem st2_le (x : Nat) : st2 x ≤ 2 * x := by
  have h1 := land_le (Nat.shiftRight x 2) 3689348814741910323
  have h2 := land_le x 3689348814741910323
  have h3 := shr_le x 2
  unfold st2
  rw [nadd]
  omega
theorem st3_le (x : Nat) : st3 x ≤ 2 * x := by
  have h1 := land_le (Nat.add (Nat.shiftRight x 4) x) 1085102592571150095
  have h3 := shr_le x 4
  unfold st3
  rw [nadd] at *
  omega
theorem st4_le (x : Nat) : st4 x ≤ 2 * x := by
  have h3 := shr_le x 8
  unfold st4
  rw [nadd]
  omega
theorem st5_le (x : Nat) : st5 x ≤ 2 * x := by
  have h3 := shr_le x 16
  unfold st5
  rw [nadd]
  omega
theorem st6_le (x : Nat) : st6 x ≤ 2 * x := by
  have h3 := shr_le x 32
  unfold st6
  rw [nadd]
  omega
theorem and_add_lt {x k c B : Nat} (h : 2 * x < B) : ((x >>> k) &&& c) + (x &&& c) < B := by
  have h1 : (x >>> k) &&& c ≤ x >>> k := Nat.and_le_left
  have h2 : x &&& c ≤ x := Nat.and_le_left
  have h3 : x >>> k ≤ x := shr_le x k
  omega
theorem shr_add_lt {x k B : Nat} (h : 2 * x < B) : (x >>> k) + x < B := by
  have h3 : x >>> k ≤ x := shr_le x k
  omega
theorem add_shr_lt {x k B : Nat} (h : 2 * x < B) : x + (x >>> k) < B := by
  have h3 : x >>> k ≤ x := shr_le x k
  omega
def covB (m : Nat) : Nat → Nat
  | 0 => 0
  | v + 1 => covB m v + (m >>> v) % 2
theorem covB_eq (m : Nat) : ∀ v, covB m v = cov m v := by
  intro v
  induction v with
  | zero => rfl
  | succ v ih =>
    simp only [cov, covB, ih]
    congr 1
    rw [← Nat.and_one_is_mod, bit_one]
def cB (m : Nat) : Nat := Nat.add (Nat.mod m 2) (Nat.add (Nat.mod (Nat.shiftRight m 1) 2) (Nat.add (Nat.mod (Nat.shiftRight m 2) 2) (Nat.add (Nat.mod (Nat.shiftRight m 3) 2) (Nat.add (Nat.mod (Nat.shiftRight m 4) 2) (Nat.add (Nat.mod (Nat.shiftRight m 5) 2) (Nat.add (Nat.mod (Nat.shiftRight m 6) 2) (Nat.add (Nat.mod (Nat.shiftRight m 7) 2) (Nat.add (Nat.mod (Nat.shiftRight m 8) 2) (Nat.add (Nat.mod (Nat.shiftRight m 9) 2) (Nat.add (Nat.mod (Nat.shiftRight m 10) 2) (Nat.add (Nat.mod (Nat.shiftRight m 11) 2) (Nat.add (Nat.mod (Nat.shiftRight m 12) 2) (Nat.add (Nat.mod (Nat.shiftRight m 13) 2) (Nat.mod (Nat.shiftRight m 14) 2))))))))))))))
def loB (h n : Nat) : Bool := Nat.rec true (fun l r => (Nat.beq (c64 (Nat.add (Nat.mul 256 h) l)) (cB (Nat.add (Nat.mul 256 h) l))).and r) n
def hiB (n : Nat) : Bool := Nat.rec true (fun h r => (loB h 256).and r) n
theorem hiB_all : hiB 128 = true := by decide +kernel
theorem loB_at (h : Nat) : ∀ n, loB h n = true → ∀ l, l < n → c64 (256 * h + l) = cB (256 * h + l) := by
  intro n
  induction n with
  | zero => intro _ l hl; omega
  | succ n ih =>
    intro hh l hl
    have h1 : ((Nat.beq (c64 (256 * h + n)) (cB (256 * h + n))).and (loB h n)) = true := hh
    rw [Bool.and_eq_true] at h1
    by_cases e : l = n
    · subst e; exact Nat.eq_of_beq_eq_true h1.1
    · exact ih h1.2 l (by omega)
theorem hiB_at : ∀ n, hiB n = true → ∀ h, h < n → loB h 256 = true := by
  intro n
  induction n with
  | zero => intro _ l hl; omega
  | succ n ih =>
    intro hh l hl
    have h1 : ((loB n 256).and (hiB n)) = true := hh
    rw [Bool.and_eq_true] at h1
    by_cases e : l = n
    · subst e; exact h1.1
    · exact ih h1.2 l (by omega)
theorem cB_cov (m : Nat) : cB m = covB m 15 := by
  have e : ∀ a b : Nat, Nat.add a b = a + b := fun _ _ => rfl
  have f : ∀ k : Nat, Nat.mod (Nat.shiftRight m k) 2 = (m >>> k) % 2 := fun _ => rfl
  have g : Nat.mod m 2 = (m >>> 0) % 2 := rfl
  unfold cB
  simp only [covB, e, f, g]
  omega
theorem c64_small (m : Nat) (hm : m < 32768) : c64 m = cov m 15 := by
  rw [← covB_eq, ← cB_cov]
  have h1 := loB_at (m / 256) 256 (hiB_at 128 hiB_all (m / 256) (by omega)) (m % 256) (by omega)
  rwa [Nat.div_add_mod] at h1
theorem c64_ones {m : Nat} (h : m < 32768) : c64 m = ones m := by rw [c64_small m h, cov_ones (by simpa using h)]

/-- The points of a set, below v. -/
def ptsAt (m : Nat) : Nat → List Int
  | 0 => []
  | v + 1 => if m.testBit v then ptsAt m v ++ [(v : Int)] else ptsAt m v
def pts (m : Nat) : List Int := ptsAt m 15
theorem ptsAt_len (m : Nat) : ∀ v, (ptsAt m v).length = cov m v := by
  intro v
  induction v with
  | zero => rfl
  | succ v ih => simp only [ptsAt, cov]; split <;> simp [ih]
theorem ptsAt_mem (m : Nat) {p : Int} : ∀ v, p ∈ ptsAt m v ↔ 0 ≤ p ∧ p < v ∧ m.testBit p.toNat = true := by
  intro v
  induction v with
  | zero => simp [ptsAt]; omega
  | succ v ih =>
    simp only [ptsAt]
    split
    · rename_i h
      rw [List.mem_append, ih, List.mem_singleton]
      constructor
      · rintro (h1 | h1)
        · exact ⟨h1.1, by omega, h1.2.2⟩
        · subst h1; exact ⟨by omega, by omega, by simpa using h⟩
      · rintro ⟨h1, h2, h3⟩
        by_cases e : p = v
        · exact .inr e
        · exact .inl ⟨h1, by omega, h3⟩
    · rename_i h
      rw [ih]
      constructor
      · rintro ⟨h1, h2, h3⟩
        exact ⟨h1, by omega, h3⟩
      · rintro ⟨h1, h2, h3⟩
        refine ⟨h1, ?_, h3⟩
        by_cases e : p = v
        · subst e
          simp at h h3
          rw [h] at h3
          cases h3
        · omega
theorem pts_inj {m n : Nat} (hm : m < 32768) (hn : n < 32768) (h : pts m = pts n) : m = n := by
  apply Nat.eq_of_testBit_eq
  intro i
  by_cases hi : i < 15
  · have h1 := ptsAt_mem m (p := (i : Int)) 15
    have h2 := ptsAt_mem n (p := (i : Int)) 15
    unfold pts at h
    rw [h] at h1
    have h3 := h1.symm.trans h2
    simp only [Int.toNat_natCast] at h3
    have h4 : m.testBit i = true ↔ n.testBit i = true := by
      constructor
      · intro hb; exact (h3.1 ⟨by omega, by omega, hb⟩).2.2
      · intro hb; exact (h3.2 ⟨by omega, by omega, hb⟩).2.2
    cases hx : m.testBit i <;> cases hy : n.testBit i <;> simp_all
  · have h1 : m < 2 ^ i := Nat.lt_of_lt_of_le hm (by have : 2 ^ 15 ≤ 2 ^ i := Nat.pow_le_pow_right (by decide) (by omega); omega)
    have h2 : n < 2 ^ i := Nat.lt_of_lt_of_le hn (by have : 2 ^ 15 ≤ 2 ^ i := Nat.pow_le_pow_right (by decide) (by omega); omega)
    rw [Nat.testBit_lt_two_pow h1, Nat.testBit_lt_two_pow h2]
/-- No block lies inside. -/
def Indep (bs : List B3) (s : Nat) : Prop := ∀ b ∈ bs, ¬ bmask b &&& s = bmask b
/-- All blocks are met. -/
def MeetsAll (bs : List B3) (s : Nat) : Prop := ∀ b ∈ bs, ¬ bmask b &&& s = 0
/-- How many of the first blocks lie inside. -/
def inside (bs : List B3) (s k : Nat) : Nat := ((bs.take k).filter fun b => decide (bmask b &&& s = bmask b)).length
theorem inside_succ {bs : List B3} {s k : Nat} (hk : k < bs.length) : inside bs s (k + 1) = inside bs s k + if bmask bs[k] &&& s = bmask bs[k] then 1 else 0 := by
  unfold inside
  rw [take_snoc hk, List.filter_append, List.length_append]
  congr 1
  by_cases h : bmask bs[k] &&& s = bmask bs[k] <;> simp [h]
theorem inside_le {bs : List B3} {s k : Nat} : inside bs s k ≤ k := by
  unfold inside
  exact Nat.le_trans (List.length_filter_le _ _) (by simp; omega)
theorem inside_none {bs : List B3} {s : Nat} : inside bs s bs.length = 0 ↔ Indep bs s := by
  unfold inside Indep
  rw [List.take_length, List.length_eq_zero_iff, List.filter_eq_nil_iff]
  simp
/-- The mask of a list of points. -/
def maskL (xs : List Int) : Nat := xs.foldl (fun m p => m ||| 2 ^ p.toNat) 0
theorem maskL_snoc (xs : List Int) (p : Int) : maskL (xs ++ [p]) = maskL xs ||| 2 ^ p.toNat := by simp [maskL, List.foldl_append]
theorem maskL_succ {xs : List Int} {k : Nat} (hk : k < xs.length) : maskL (xs.take (k + 1)) = maskL (xs.take k) ||| 2 ^ (xs[k]).toNat := by rw [take_snoc hk, maskL_snoc]
theorem maskL_lt {xs : List Int} (h : ∀ p ∈ xs, 0 ≤ p ∧ p < 15) : maskL xs < 32768 := by
  have key : ∀ (xs : List Int) (m : Nat), (∀ p ∈ xs, 0 ≤ p ∧ p < 15) → m < 2 ^ 15 → xs.foldl (fun m p => m ||| 2 ^ p.toNat) m < 2 ^ 15 := by
    intro xs
    induction xs with
    | nil => intro m _ hm; exact hm
    | cons p xs ih =>
      intro m hp hm
      refine ih _ (fun q hq => hp q (by simp [hq])) (Nat.or_lt_two_pow hm ?_)
      have := hp p (by simp)
      exact Nat.pow_lt_pow_right (by decide) (by omega)
  exact key xs 0 h (by decide)
theorem maskL_block {v : Int} {b : B3} (h : good v b) : maskL (bl b) = bmask b := by
  have hb := h
  unfold good at h
  apply Nat.eq_of_testBit_eq
  intro i
  have h1 : maskL (bl b) = ((0 ||| 2 ^ b.1.toNat) ||| 2 ^ b.2.1.toNat) ||| 2 ^ b.2.2.toNat := rfl
  rw [h1]
  unfold bmask
  rw [three_bits (by omega) (by omega)]
  simp only [Nat.testBit_or, Nat.testBit_two_pow, Nat.zero_testBit, Bool.false_or]
  by_cases a : i = b.1.toNat <;> by_cases b' : i = b.2.1.toNat <;> by_cases c : i = b.2.2.toNat <;> simp [a, b', c] <;> omega
end Go.Vc
/-
  The calculus, part 10: values of functions with bound arguments.
-/
namespace Go.Vc
open Go Go.RowKit
section
variable {P : Program} {w0 w : World} {H H' : List Assn} {Q : Exit → Act → World → Prop} {σ : Sig} {o : Oper}
theorem Ef.callVB {f : Operand} {g : FuncId} {l : List Operand} {ts : Array TypeId} {vs : List Value} {bnd caps : Array Value} {R : Value → List Assn} (ho : o.op = .call { callee := .value f, args := l.toArray, argTypes := ts }) (hf : ev σ f = some (.func (.func g) bnd caps)) (hok : CallOk P g)
    (hargs : evs σ l = some vs) (hfn : Does P g (bnd.toList ++ vs ++ caps.toList) w0 H R) : Ef P w0 o σ H Q (fun v H' => H' = R v) := by
  intro w hw a ha
  have h1 := ha f (by simp [ho, Op.operands, Call.operands]) _ hf
  have h2 := evs_map (a := a) (fun x hx v hv => ha x (by simp [ho, Op.operands, Call.operands]; exact .inr hx) v hv) hargs
  have h3 : (l.toArray.map a.eval) = vs.toArray := by apply Array.ext'; rw [← h2]; simp
  unfold Oper.wp
  have : (execOp a.eval o).run P w = .ok (.enter g (bnd.toList ++ vs ++ caps.toList).toArray) w := by
    have e2 : bnd ++ vs.toArray ++ caps = (bnd.toList ++ vs ++ caps.toList).toArray := by apply Array.ext'; simp
    simp only [execOp, ho, resolve, h1, h3, Deferred.ofValue, invoke, Sem.run_bind, Sem.run_pure, Result.andThen_ok, run_callFunc hok, e2]
  rw [this]
  refine Calls.mono (hfn w hw) ?_
  rintro e w' ⟨v, rfl, hs⟩
  exact ⟨v, _, rfl, hs, rfl⟩
theorem Ef.callPB {f : Operand} {g : FuncId} {l : List Operand} {ts : Array TypeId} {vs : List Value} {bnd caps : Array Value} {r : Value} (hok : CallOk P g) (ho : o.op = .call { callee := .value f, args := l.toArray, argTypes := ts }) (hf : ev σ f = some (.func (.func g) bnd caps))
    (hargs : evs σ l = some vs) (hfn : ∀ w, St w0 H w → Does P g (bnd.toList ++ vs ++ caps.toList) w [] (fun v => [.pur (v = r)])) : Ef P w0 o σ H Q (fun v H' => v = r ∧ H' = H) := by
  intro w hw a ha
  have := Ef.callVB (Q := Q) ho hf hok hargs (Does.frame hfn) w hw a ha
  refine Oper.wp_mono ?_ this
  rintro a' w' ⟨v, H', rfl, hs, rfl⟩
  have hs' : St w0 (.pur (v = r) :: H) w' := hs
  exact ⟨v, H, rfl, hs'.pur.2, hs'.pur.1, rfl⟩
theorem Pu.makeBound {f : Nat} {bs caps : Array Operand} {us vs : List Value} (ho : o.op = .makeFunc (.func f) bs caps) (hb : evs σ bs.toList = some us) (hx : evs σ caps.toList = some vs) : Pu P w0 o σ H (.func (.func f) us.toArray vs.toArray) := by
  intro w hw a ha
  have hag : ∀ x ∈ bs.toList ++ caps.toList, ∀ v, ev σ x = some v → a.eval x = v := fun x hx v hv => ha x (by simp [ho, Op.operands] at *; first | exact hx | (rcases hx with h | h <;> simp [h])) v hv
  have h1 := evs_map (a := a) (fun x hx v hv => hag x (by simp [Array.mem_toList_iff] at *; exact .inl hx) v hv) hb
  have h2 := evs_map (a := a) (fun x hx v hv => hag x (by simp [Array.mem_toList_iff] at *; exact .inr hx) v hv) hx
  have e1 : bs.map a.eval = us.toArray := by apply Array.ext'; rw [← h1]; simp
  have e2 : caps.map a.eval = vs.toArray := by apply Array.ext'; rw [← h2]; simp
  simp [execOp, ho, Instr.makeFunc, e1, e2]
/-- Where ways meet again, with something that is known to be there. -/
theorem V.cutE {N : Nat} {c : Code} {β : Type} (σv : β → Sig) (σc : Sig) (Hi : β → List Assn) (Hc : List Assn) (Φ : β → Prop) (hc : Ent σ σc) (hH : Sub H Hc)
    (h1 : V P N w0 c (Exit.then (fun a w => ∃ y, Φ y ∧ Env N (σv y ++ σc) a ∧ St w0 (Hi y ++ Hc) w) Q) σ H) (h2 : ∀ y, Φ y → X N w0 Q .normal (σv y ++ σc) (Hi y ++ Hc)) : V P N w0 c Q σ H := by
  intro w hw a ha
  refine wp_mono (h1 w hw a ha) ?_
  intro e a' w' hq
  cases e with
  | normal =>
    obtain ⟨y, hy, h3, h4⟩ := hq
    exact h2 y hy w' h4 a' h3
  | _ => exact hq
theorem X.cutE {N : Nat} {β : Type} {σv : β → Sig} {σc : Sig} {Hi : β → List Assn} {Hc : List Assn} {Φ : β → Prop} (y : β) (hΦ : Φ y) (hσ : Ent σ (σv y)) (hc : Ent σ σc) (hH : Sub H (Hi y ++ Hc)) :
    X N w0 (Exit.then (fun a w => ∃ y, Φ y ∧ Env N (σv y ++ σc) a ∧ St w0 (Hi y ++ Hc) w) Q) .normal σ H :=
  fun w hw a ha => ⟨y, hΦ, ha.ent (hσ.append hc), hw.sub hH⟩
/-- One of two operations comes next. -/
theorem D.either {N : Nat} {ops : Array Oper} {Hs : List Assn} (hwf : wfB ops = true) {effs done : List Nat} {e1 e2 : Nat} (hcl : closedL ops done [e1, e2] = true) (h1 : Cand P N w0 ops Q effs done σ Hs H e1) (h2 : Cand P N w0 ops Q effs done σ Hs H e2) : D P N w0 ops Q effs done σ Hs H := by
  refine D.effS hwf [e1, e2] e1 (by simp) hcl ?_
  intro e he
  simp only [List.mem_cons, List.not_mem_nil, or_false] at he
  rcases he with rfl | rfl
  · exact h1
  · exact h2
/-- make, with a length that is a number's. -/
theorem Ef.makeI {α : Type} {T e sz bytes n : Nat} {x y : Operand} {z : Value} {K1 K2 : IntKind} {i : Int} (C : Cod α) (u : α) (ho : o.op = .makeSlice T x y) (hT : P.underlying T = some (.slice e)) (hi : Inf P e sz bytes z) (hs : sz = C.sz) (hz : z.cells.toList = C.enc u)
    (hx : ev σ x = some (.int K1 i)) (hy : ev σ y = some (.int K2 i)) (hin : i = (n : Int)) (hb : bytes * n ≤ 281474976710656) (hm : n ≤ 9223372036854775807) :
    Ef P w0 o σ H Q (fun v H' => ∃ A, A.isSome = true ∧ v = .slice A n n ∧ H' = Own e C A n (List.replicate n u) :: H) := by
  subst hin
  exact Ef.make C u ho hT hi hs hz hx hy hb hm
/-! ### Arrays of numbers, by an index -/
theorem Ld.arrK {b t off : Nat} {xs : List Int} {n k : Nat} (i : Nat) (hp : pull i H = some (Blk b (xs.map (Value.int .i64)) t, H')) (ho : off = 0 + k * 1) (hk : k < n) (hn : xs.length = n) : ∀ w, St w0 H w → ∃ q, some (⟨b, off, none⟩ : Addr) = some q ∧ w.cell? q = some (.int .i64 (xs.getD k 0)) := by
  intro w hw
  subst ho
  refine ⟨_, rfl, Blk.cell hw hp ?_⟩
  have : 0 + k * 1 = k := by omega
  rw [this, List.getElem?_map, List.getElem?_eq_getElem (by omega)]
  simp [List.getD, hk, hn]
theorem Ef.storeArr {T : TypeId} {x y : Operand} {b t off n : Nat} {xs : List Int} {v : Int} (i : Nat) (k : Nat) (ho : o.op = .store T x y) (hs : Sz P T 1) (hx : ev σ x = some (.pointer (some ⟨b, off, none⟩))) (hy : ev σ y = some (.int .i64 v))
    (hp : pull i H = some (Blk b (xs.map (Value.int .i64)) t, H')) (hoff : off = 0 + k * 1) (hk : k < n) (hn : xs.length = n) :
    Ef P w0 o σ H Q (fun _ H'' => H'' = repl i H (Blk b ((xs.set k v).map (Value.int .i64)) t)) := by
  subst hoff
  have h0 : 0 + k * 1 = k := by omega
  rw [h0] at hx
  exact Ef.store1 i ho hs hx hy hp rfl rfl (by simp; omega) (by rw [List.map_set])
end
end Go.Vc
/-
  Plain words: lists with a prefix; four blocks with six points, each in two of them.
-/
namespace Go.Vc

/-! ### Lists with a prefix -/
section
variable {p : List Int → Prop} {now : List Int} {ls ls' : List (List Int)} {i n f : Nat}
def Pre (p : List Int → Prop) (now r : List Int) : Prop := p r ∧ now <+: r
def PreB (p : List Int → Prop) (now : List Int) (i : Nat) (r : List Int) : Prop := p r ∧ ∃ j : Nat, j < i ∧ (now ++ [(j : Int)]) <+: r
theorem preB_none (h : ∀ r (j : Nat), p r → (now ++ [(j : Int)]) <+: r → f ≤ j) : IsList (PreB p now f) [] := by
  refine ⟨SrtL.nil, fun r => ?_⟩
  simp only [List.not_mem_nil, false_iff]
  rintro ⟨h1, j, hj, h2⟩
  have := h r j h1 h2
  omega
theorem preB_step (h1 : IsList (PreB p now i) ls) (h2 : IsList (Pre p (now ++ [(i : Int)])) ls') : IsList (PreB p now (i + 1)) (ls ++ ls') := by
  refine ⟨List.pairwise_append.2 ⟨h1.1, h2.1, fun a ha b hb => ?_⟩, fun r => ?_⟩
  · obtain ⟨_, j, hj, h3⟩ := (h1.2 a).1 ha
    exact ltL_prefix (i := (i : Int)) (j := (j : Int)) (by omega) h3 ((h2.2 b).1 hb).2
  · rw [List.mem_append, h1.2, h2.2]
    constructor
    · rintro (⟨h3, j, hj, h4⟩ | ⟨h3, h4⟩)
      · exact ⟨h3, j, by omega, h4⟩
      · exact ⟨h3, i, by omega, h4⟩
    · rintro ⟨h3, j, hj, h4⟩
      by_cases e : j = i
      · subst e; exact .inr ⟨h3, h4⟩
      · exact .inl ⟨h3, j, by omega, h4⟩
theorem preB_skip (h1 : IsList (PreB p now i) ls) (hn : ∀ r, p r → ¬ (now ++ [(i : Int)]) <+: r) : IsList (PreB p now (i + 1)) ls := by
  have h := preB_step h1 (ls' := []) ⟨SrtL.nil, fun r => by simp only [List.not_mem_nil, false_iff]; exact fun h => hn r h.1 h.2⟩
  rwa [List.append_nil] at h
theorem preB_all (h : IsList (PreB p now n) ls) (hall : ∀ r, p r → now <+: r → ∃ j : Nat, j < n ∧ (now ++ [(j : Int)]) <+: r) : IsList (Pre p now) ls := by
  refine ⟨h.1, fun r => (h.2 r).trans ⟨?_, ?_⟩⟩
  · rintro ⟨h1, j, hj, h2⟩
    exact ⟨h1, (List.prefix_append _ _).trans h2⟩
  · rintro ⟨h1, h2⟩
    exact ⟨h1, hall r h1 h2⟩
theorem pre_top (h : IsList (Pre p []) ls) : IsList p ls := ⟨h.1, fun r => (h.2 r).trans ⟨fun h => h.1, fun h => ⟨h, List.nil_prefix⟩⟩⟩
theorem pre_one {q : List Int} (hl : ∀ r, p r → r.length = q.length) (hq : p q) : IsList (Pre p q) [q] := by
  refine ⟨List.pairwise_singleton _ _, fun r => ?_⟩
  rw [List.mem_singleton]
  constructor
  · rintro rfl; exact ⟨hq, List.prefix_refl _⟩
  · rintro ⟨h1, h2⟩
    exact (h2.eq_of_length (hl r h1).symm).symm
end

/-! ### Three points of a block -/
def Tri (B : B3) (x y z : Int) : Prop := x ≠ y ∧ x ≠ z ∧ y ≠ z ∧ ∀ p, has B p ↔ p = x ∨ p = y ∨ p = z
theorem Tri.swap {B : B3} {x y z : Int} (h : Tri B x y z) : Tri B x z y := ⟨h.2.1, h.1, fun e => h.2.2.1 e.symm, fun p => (h.2.2.2 p).trans (by omega)⟩
theorem Tri.rot {B : B3} {x y z : Int} (h : Tri B x y z) : Tri B y x z := ⟨fun e => h.1 e.symm, h.2.2.1, h.2.1, fun p => (h.2.2.2 p).trans (by omega)⟩
theorem Tri.h1 {B : B3} {x y z : Int} (h : Tri B x y z) : has B x := (h.2.2.2 x).2 (.inl rfl)
theorem Tri.h2 {B : B3} {x y z : Int} (h : Tri B x y z) : has B y := (h.2.2.2 y).2 (.inr (.inl rfl))
theorem Tri.h3 {B : B3} {x y z : Int} (h : Tri B x y z) : has B z := (h.2.2.2 z).2 (.inr (.inr rfl))
theorem tri_of {v : Int} {B : B3} (hg : good v B) {x y z : Int} (hx : has B x) (hy : has B y) (hz : has B z) (h1 : x ≠ y) (h2 : x ≠ z) (h3 : y ≠ z) : Tri B x y z := by
  refine ⟨h1, h2, h3, fun p => ?_⟩
  unfold good at hg
  unfold has at *
  omega
theorem tri_sum {v : Int} {B : B3} (hg : good v B) {x y z : Int} (h : Tri B x y z) : B.1 + B.2.1 + B.2.2 = x + y + z := by
  have h1 := h.h1
  have h2 := h.h2
  have h3 := h.h3
  obtain ⟨e1, e2, e3, _⟩ := h
  unfold good at hg
  unfold has at *
  omega
theorem tri_pair {B : B3} {a c e x y : Int} (h : Tri B a c e) (h' : Tri B a x y) : (c = x ∧ e = y) ∨ (c = y ∧ e = x) := by
  have h1 := (h'.2.2.2 c).1 h.h2
  have h2 := (h'.2.2.2 e).1 h.h3
  obtain ⟨e1, e2, e3, _⟩ := h
  omega
/-- The other points of a block. -/
def oth1 (b : B3) (a : Int) : Int := if a = b.1 then b.2.1 else b.1
def oth2 (b : B3) (a : Int) : Int := if a = b.1 then b.2.2 else if a = b.2.1 then b.2.2 else b.2.1
theorem tri_oth {v : Int} {B : B3} (hg : good v B) {a : Int} (ha : has B a) : Tri B a (oth1 B a) (oth2 B a) := by
  unfold good at hg
  have ha' := ha
  unfold has at ha'
  refine tri_of (v := v) (by unfold good; exact hg) ha ?_ ?_ ?_ ?_ ?_
  all_goals (try unfold oth1); (try unfold oth2); (try unfold has); (repeat' split) <;> omega
/-- A common point, the first of the first block, or -1. -/
noncomputable def cpt (a b : B3) : Int := if has b a.1 then a.1 else if has b a.2.1 then a.2.1 else if has b a.2.2 then a.2.2 else -1
theorem cpt_yes {v : Int} {a b : B3} (hg : good v a) (h : ¬ cpt a b < 0) : has a (cpt a b) ∧ has b (cpt a b) := by
  unfold cpt at *
  split
  · exact ⟨.inl rfl, by assumption⟩
  · split
    · exact ⟨.inr (.inl rfl), by assumption⟩
    · split
      · exact ⟨.inr (.inr rfl), by assumption⟩
      · simp_all
theorem cpt_no {v : Int} {a b : B3} (hg : good v a) (h : cpt a b < 0) (p : Int) : ¬ (has a p ∧ has b p) := by
  unfold good at hg
  rintro ⟨h1, h2⟩
  unfold cpt at h
  unfold has at h1
  rcases h1 with rfl | rfl | rfl
  · rw [if_pos h2] at h; omega
  · split at h
    · omega
    · omega
  · split at h
    · omega
    · split at h
      · omega
      · omega

/-! ### The block of two points, and its third point -/
noncomputable def num (bs : List B3) (a b : Int) : Int := idxP (fun c => has c a ∧ has c b) bs
noncomputable def third (bs : List B3) (a b : Int) : Int := if num bs a b < 0 then -1 else (blk bs (num bs a b)).1 + (blk bs (num bs a b)).2.1 + (blk bs (num bs a b)).2.2 - a - b
theorem third_found {bs : List B3} {a b : Int} {k : Nat} (hk : k < bs.length) (h1 : has bs[k] a) (h2 : has bs[k] b) (hn : ∀ j (hj : j < bs.length), j < k → ¬ (has bs[j] a ∧ has bs[j] b)) : num bs a b = k ∧ third bs a b = bs[k].1 + bs[k].2.1 + bs[k].2.2 - a - b := by
  have h := idxP_found (p := fun c => has c a ∧ has c b) hk ⟨h1, h2⟩ hn
  have e : num bs a b = k := h
  refine ⟨e, ?_⟩
  unfold third
  rw [e, if_neg (by omega), blk_get hk]
theorem third_none {bs : List B3} {a b : Int} (hn : ∀ j (hj : j < bs.length), ¬ (has bs[j] a ∧ has bs[j] b)) : num bs a b = -1 ∧ third bs a b = -1 := by
  have e : num bs a b = -1 := idxP_none (p := fun c => has c a ∧ has c b) hn
  refine ⟨e, ?_⟩
  unfold third
  rw [e, if_pos (by omega)]
theorem first_of {bs : List B3} {q : B3 → Prop} (h : ∃ k, ∃ hk : k < bs.length, q bs[k]) : ∃ k, ∃ hk : k < bs.length, q bs[k] ∧ ∀ j (hj : j < bs.length), j < k → ¬ q bs[j] := by
  classical
  obtain ⟨k, hk, h1⟩ := h
  have key : ∀ n, ∀ k, k ≤ n → ∀ hk : k < bs.length, q bs[k] → ∃ k, ∃ hk : k < bs.length, q bs[k] ∧ ∀ j (hj : j < bs.length), j < k → ¬ q bs[j] := by
    intro n
    induction n with
    | zero => intro k h0 hk h1; exact ⟨k, hk, h1, fun j hj h => by omega⟩
    | succ n ih =>
      intro k h0 hk h1
      by_cases h2 : ∃ j, ∃ hj : j < bs.length, j < k ∧ q bs[j]
      · obtain ⟨j, hj, h3, h4⟩ := h2
        exact ih j (by omega) hj h4
      · exact ⟨k, hk, h1, fun j hj h3 h4 => h2 ⟨j, hj, h3, h4⟩⟩
  exact key k k (Nat.le_refl _) hk h1
section
variable {v : Int} {bs : List B3}
theorem STS.two (h : STS v bs) {i j : Nat} (hi : i < bs.length) (hj : j < bs.length) {x y : Int} (hxy : x ≠ y) (h1 : has bs[i] x) (h2 : has bs[i] y) (h3 : has bs[j] x) (h4 : has bs[j] y) : i = j := by
  have key : ∀ {i j : Nat} (hi : i < bs.length) (hj : j < bs.length), j < i → has bs[i] x → has bs[i] y → has bs[j] x → has bs[j] y → False := by
    intro i j hi hj hji h1 h2 h3 h4
    have hc := (common_le (h.good _ (List.getElem_mem hj)).three).1 (h.fits i hi hi j hj hji)
    obtain ⟨c1, c2, c3⟩ := hc
    unfold has at h1 h2
    rcases h1 with rfl | rfl | rfl <;> rcases h2 with rfl | rfl | rfl <;> first | exact hxy rfl | exact c1 ⟨h3, h4⟩ | exact c1 ⟨h4, h3⟩ | exact c2 ⟨h3, h4⟩ | exact c2 ⟨h4, h3⟩ | exact c3 ⟨h3, h4⟩ | exact c3 ⟨h4, h3⟩
  rcases Nat.lt_trichotomy i j with h5 | h5 | h5
  · exact (key hj hi h5 h3 h4 h1 h2).elim
  · exact h5
  · exact (key hi hj h5 h1 h2 h3 h4).elim
theorem third_tri (h : STS v bs) {k : Nat} (hk : k < bs.length) {x y z : Int} (ht : Tri bs[k] x y z) : num bs x y = k ∧ third bs x y = z := by
  have h1 := third_found hk ht.h1 ht.h2 (fun j hj hjk hh => by have := h.two hj hk ht.1 hh.1 hh.2 ht.h1 ht.h2; omega)
  refine ⟨h1.1, ?_⟩
  rw [h1.2]
  have := tri_sum (h.good _ (List.getElem_mem hk)) ht
  omega
theorem third_some (h : STS v bs) {x y : Int} (hxy : x ≠ y) (h0 : ¬ third bs x y < 0) : ∃ k : Nat, ∃ hk : k < bs.length, num bs x y = k ∧ Tri bs[k] x y (third bs x y) := by
  classical
  by_cases hc : ∃ k, ∃ hk : k < bs.length, has bs[k] x ∧ has bs[k] y
  · obtain ⟨k, hk, ⟨h1, h2⟩, h3⟩ := first_of (q := fun c => has c x ∧ has c y) hc
    have h4 := third_found hk h1 h2 h3
    refine ⟨k, hk, h4.1, ?_⟩
    have hg := h.good _ (List.getElem_mem hk)
    rw [h4.2]
    generalize bs[k] = B at *
    unfold good at hg
    refine tri_of (v := v) (by unfold good; exact hg) h1 h2 ?_ hxy ?_ ?_ <;> unfold has at * <;> omega
  · have := third_none (bs := bs) (a := x) (b := y) (fun j hj hh => hc ⟨j, hj, hh⟩)
    omega
end

/-! ### Pasch -/
def hasN (B : B3) (p : Int) : Nat := if has B p then 1 else 0
/-- How many blocks of a list of numbers have a point. -/
def cntP (bs : List B3) (q : List Int) (p : Int) : Nat := (q.map fun k => hasN (blk bs k) p).sum
theorem cntP_perm {bs : List B3} {q r : List Int} (h : q.Perm r) (p : Int) : cntP bs q p = cntP bs r p := (h.map _).sum_nat
structure PQ (bs : List B3) (q : List Int) : Prop where
  four : q.length = 4
  up : q.Pairwise (· < ·)
  ix : ∀ k ∈ q, okIx bs k
  two : ∀ p, cntP bs q p = 0 ∨ cntP bs q p = 2
def P4 (A B C D : B3) : Prop := ∀ p, hasN A p + hasN B p + hasN C p + hasN D p = 0 ∨ hasN A p + hasN B p + hasN C p + hasN D p = 2
theorem cntP_four {bs : List B3} {a b c d : Int} (p : Int) : cntP bs [a, b, c, d] p = hasN (blk bs a) p + hasN (blk bs b) p + hasN (blk bs c) p + hasN (blk bs d) p := by simp [cntP]; omega
theorem hasN_one {B : B3} {p : Int} (h : has B p) : hasN B p = 1 := if_pos h
theorem hasN_zero {B : B3} {p : Int} (h : ¬ has B p) : hasN B p = 0 := if_neg h
theorem hasN_le (B : B3) (p : Int) : hasN B p ≤ 1 := by unfold hasN; split <;> omega
theorem of_hasN {B : B3} {p : Int} (h : hasN B p = 1) : has B p := by
  unfold hasN at h
  split at h
  · assumption
  · cases h
theorem P4.swap12 {A B C D : B3} (h : P4 A B C D) : P4 B A C D := fun p => by have := h p; omega
theorem P4.swap23 {A B C D : B3} (h : P4 A B C D) : P4 A C B D := fun p => by have := h p; omega
theorem P4.swap34 {A B C D : B3} (h : P4 A B C D) : P4 A B D C := fun p => by have := h p; omega
/-- Two blocks have no two points in common. -/
def Two (A B : B3) : Prop := ∀ x y, x ≠ y → has A x → has A y → has B x → has B y → False
theorem Two.symm {A B : B3} (h : Two A B) : Two B A := fun x y e h1 h2 h3 h4 => h x y e h3 h4 h1 h2
/-- A point of a block is in just one of the others. -/
theorem p4_one {A B C D : B3} (h : P4 A B C D) {p : Int} (hp : has A p) : (has B p ∧ ¬ has C p ∧ ¬ has D p) ∨ (¬ has B p ∧ has C p ∧ ¬ has D p) ∨ (¬ has B p ∧ ¬ has C p ∧ has D p) := by
  have h1 := h p
  rw [hasN_one hp] at h1
  by_cases hB : has B p <;> by_cases hC : has C p <;> by_cases hD : has D p <;> simp [hasN, hB, hC, hD] at h1 ⊢
theorem p4_meet {v : Int} {A B C D : B3} (hg : good v A) (h : P4 A B C D) (hC : Two A C) (hD : Two A D) : ∃ p, has A p ∧ has B p := by
  by_cases hn : ∃ p, has A p ∧ has B p
  · exact hn
  · exfalso
    have hg' := hg
    unfold good at hg'
    have a1 : has A A.1 := .inl rfl
    have a2 : has A A.2.1 := .inr (.inl rfl)
    have a3 : has A A.2.2 := .inr (.inr rfl)
    have n : ∀ p, has A p → ¬ has B p := fun p h1 h2 => hn ⟨p, h1, h2⟩
    have o1 := p4_one h a1
    have o2 := p4_one h a2
    have o3 := p4_one h a3
    have n1 := n _ a1
    have n2 := n _ a2
    have n3 := n _ a3
    have e12 : A.1 ≠ A.2.1 := by omega
    have e13 : A.1 ≠ A.2.2 := by omega
    have e23 : A.2.1 ≠ A.2.2 := by omega
    rcases o1 with o1 | o1 | o1
    · exact n1 o1.1
    · rcases o2 with o2 | o2 | o2
      · exact n2 o2.1
      · exact hC _ _ e12 a1 a2 o1.2.1 o2.2.1
      · rcases o3 with o3 | o3 | o3
        · exact n3 o3.1
        · exact hC _ _ e13 a1 a3 o1.2.1 o3.2.1
        · exact hD _ _ e23 a2 a3 o2.2.2 o3.2.2
    · rcases o2 with o2 | o2 | o2
      · exact n2 o2.1
      · rcases o3 with o3 | o3 | o3
        · exact n3 o3.1
        · exact hC _ _ e23 a2 a3 o2.2.1 o3.2.1
        · exact hD _ _ e13 a1 a3 o1.2.2 o3.2.2
      · exact hD _ _ e12 a1 a2 o1.2.2 o2.2.2
/-- Six points: of each two of the four blocks one. -/
theorem p4_six {v : Int} {A B C D : B3} (gA : good v A) (gB : good v B) (gC : good v C) (gD : good v D) (h : P4 A B C D) (tAB : Two A B) (tAC : Two A C) (tAD : Two A D) (tBC : Two B C) (tBD : Two B D) (tCD : Two C D) :
    ∃ a12 a13 a14 a23 a24 a34, Tri A a12 a13 a14 ∧ Tri B a12 a23 a24 ∧ Tri C a13 a23 a34 ∧ Tri D a14 a24 a34 := by
  obtain ⟨a12, x1, x2⟩ := p4_meet gA h tAC tAD
  obtain ⟨a13, y1, y2⟩ := p4_meet gA h.swap23 tAB tAD
  obtain ⟨a14, z1, z2⟩ := p4_meet gA h.swap34.swap23 tAB tAC
  obtain ⟨a23, u1, u2⟩ := p4_meet gB h.swap12.swap23 tAB.symm tBD
  obtain ⟨a24, v1, v2⟩ := p4_meet gB h.swap12.swap34.swap23 tAB.symm tBC
  obtain ⟨a34, w1, w2⟩ := p4_meet gC h.swap23.swap12.swap34.swap23 tAC.symm tBC.symm
  have ox := p4_one h x1
  have oy := p4_one h y1
  have oz := p4_one h z1
  have ou := p4_one h.swap12 u1
  have ov := p4_one h.swap12 v1
  have ow := p4_one h.swap23.swap12 w1
  have e1 : a12 ≠ a13 := by rintro rfl; simp_all
  have e2 : a12 ≠ a14 := by rintro rfl; simp_all
  have e3 : a13 ≠ a14 := by rintro rfl; simp_all
  have e4 : a12 ≠ a23 := by rintro rfl; simp_all
  have e5 : a12 ≠ a24 := by rintro rfl; simp_all
  have e6 : a23 ≠ a24 := by rintro rfl; simp_all
  have e7 : a13 ≠ a23 := by rintro rfl; simp_all
  have e8 : a13 ≠ a34 := by rintro rfl; simp_all
  have e9 : a23 ≠ a34 := by rintro rfl; simp_all
  have e10 : a14 ≠ a24 := by rintro rfl; simp_all
  have e11 : a14 ≠ a34 := by rintro rfl; simp_all
  have e12 : a24 ≠ a34 := by rintro rfl; simp_all
  exact ⟨a12, a13, a14, a23, a24, a34, tri_of gA x1 y1 z1 e1 e2 e3, tri_of gB x2 u1 v1 e4 e5 e6, tri_of gC y2 u2 w1 e7 e8 e9, tri_of gD z2 v2 w2 e10 e11 e12⟩
theorem six_p4 {A B C D : B3} {a12 a13 a14 a23 a24 a34 : Int} (h1 : Tri A a12 a13 a14) (h2 : Tri B a12 a23 a24) (h3 : Tri C a13 a23 a34) (h4 : Tri D a14 a24 a34) (n1 : a12 ≠ a34) (n2 : a13 ≠ a24) (n3 : a14 ≠ a23) : P4 A B C D := by
  intro p
  obtain ⟨p1, p2, p3, f1⟩ := h1
  obtain ⟨q1, q2, q3, f2⟩ := h2
  obtain ⟨r1, r2, r3, f3⟩ := h3
  obtain ⟨s1, s2, s3, f4⟩ := h4
  have g1 := f1 p
  have g2 := f2 p
  have g3 := f3 p
  have g4 := f4 p
  have G : ∀ (B : B3) (q : Prop) [Decidable q], (has B p ↔ q) → hasN B p = if q then 1 else 0 := by
    intro B q _ hq
    unfold hasN
    by_cases hh : q <;> simp [hh, hq]
  rw [G _ _ g1, G _ _ g2, G _ _ g3, G _ _ g4]
  clear g1 g2 g3 g4 f1 f2 f3 f4 G
  by_cases b1 : p = a12
  · subst b1; simp_all
  by_cases b2 : p = a13
  · subst b2; simp_all
  by_cases b3 : p = a14
  · subst b3; simp_all
  by_cases b4 : p = a23
  · subst b4; simp_all
  by_cases b5 : p = a24
  · subst b5; simp_all
  simp [b1, b2, b3, b4, b5]
  by_cases b6 : p = a34 <;> simp [b6]
section
variable {v : Int} {bs : List B3}
theorem two_of (h : STS v bs) {i j : Nat} (hi : i < bs.length) (hj : j < bs.length) (hne : i ≠ j) : Two bs[i] bs[j] := fun x y e h1 h2 h3 h4 => hne (h.two hi hj e h1 h2 h3 h4)
/-- What is found for two blocks. -/
def Hit (bs : List B3) (i j c e d f : Int) (r : List Int) : Prop := ¬ third bs c f < 0 ∧ third bs d e = third bs c f ∧ r.Perm [i, j, num bs c f, num bs d e] ∧ r.Pairwise (· ≤ ·)
theorem hit_pq (h : STS v bs) {i j : Nat} (hi : i < bs.length) (hj : j < bs.length) (hne : i ≠ j) {a c e d f : Int} (t1 : Tri bs[i] a c e) (t2 : Tri bs[j] a d f) {r : List Int} (hh : Hit bs i j c e d f r) : PQ bs r ∧ (i : Int) ∈ r ∧ (j : Int) ∈ r := by
  obtain ⟨h1, h2, h3, h4⟩ := hh
  have hcf : c ≠ f := by rintro rfl; exact hne (h.two hi hj t1.1 t1.h1 t1.h2 t2.h1 t2.h3)
  have hde : d ≠ e := by rintro rfl; exact hne (h.two hi hj t1.2.1 t1.h1 t1.h3 t2.h1 t2.h2)
  have hcd : c ≠ d := by rintro rfl; exact hne (h.two hi hj t1.1 t1.h1 t1.h2 t2.h1 t2.h2)
  have hef : e ≠ f := by rintro rfl; exact hne (h.two hi hj t1.2.1 t1.h1 t1.h3 t2.h1 t2.h3)
  obtain ⟨k, hk, n1, t3⟩ := third_some h hcf h1
  obtain ⟨m, hm, n2, t4⟩ := third_some h hde (by rw [h2]; exact h1)
  rw [h2] at t4
  have ki : k ≠ i := by rintro rfl; exact hne (h.two hi hj t2.2.1 t1.h1 t3.h2 t2.h1 t2.h3)
  have kj : k ≠ j := by rintro rfl; exact hne (h.two hi hj t1.1 t1.h1 t1.h2 t2.h1 t3.h1)
  have mi : m ≠ i := by rintro rfl; exact hne (h.two hi hj t2.1 t1.h1 t4.h1 t2.h1 t2.h2)
  have mj : m ≠ j := by rintro rfl; exact hne (h.two hi hj t1.2.1 t1.h1 t1.h3 t2.h1 t4.h2)
  have km : k ≠ m := by rintro rfl; exact ki (h.two hk hi t1.2.2.1 t3.h1 t4.h2 t1.h2 t1.h3)
  have hab : a ≠ third bs c f := by
    intro e1
    rw [← e1] at t3
    exact ki (h.two hk hi t1.1 t3.h3 t3.h1 t1.h1 t1.h2)
  rw [n1, n2] at h3
  have hp := six_p4 (A := bs[i]) (B := bs[j]) (C := bs[k]) (D := bs[m]) t1 t2.swap t3 t4.rot hab hcd hef
  refine ⟨⟨by rw [h3.length_eq]; rfl, rise_of h4 (h3.nodup_iff.2 (by simp; omega)), fun q hq => ?_, fun p => ?_⟩, h3.mem_iff.2 (by simp), h3.mem_iff.2 (by simp)⟩
  · have := h3.mem_iff.1 hq
    simp only [List.mem_cons, List.not_mem_nil, or_false] at this
    unfold okIx
    omega
  · rw [cntP_perm h3, cntP_four, blk_get hi, blk_get hj, blk_get hk, blk_get hm]
    exact hp p
theorem pq_two (h : STS v bs) {i j : Nat} (hi : i < bs.length) (hj : j < bs.length) (hne : i ≠ j) {r : List Int} (hq : PQ bs r) (hir : (i : Int) ∈ r) (hjr : (j : Int) ∈ r) :
    ∃ k m : Nat, ∃ (hk : k < bs.length) (hm : m < bs.length), r.Perm [(i : Int), (j : Int), (k : Int), (m : Int)] ∧ P4 bs[i] bs[j] bs[k] bs[m] ∧ k ≠ i ∧ k ≠ j ∧ m ≠ i ∧ m ≠ j ∧ k ≠ m := by
  have p1 := List.perm_cons_erase hir
  have hj2 : (j : Int) ∈ r.erase (i : Int) := (List.mem_erase_of_ne (by omega)).2 hjr
  have p2 := List.perm_cons_erase hj2
  have hlen : ((r.erase (i : Int)).erase (j : Int)).length = 2 := by
    rw [List.length_erase_of_mem hj2, List.length_erase_of_mem hir, hq.four]
  obtain ⟨k, m, hkm⟩ : ∃ k m, (r.erase (i : Int)).erase (j : Int) = [k, m] := by
    match hh : (r.erase (i : Int)).erase (j : Int), hlen with
    | [k, m], _ => exact ⟨k, m, rfl⟩
  rw [hkm] at p2
  have p3 : r.Perm [(i : Int), (j : Int), k, m] := p1.trans (p2.cons _)
  have hk := hq.ix k (p3.mem_iff.2 (by simp))
  have hm := hq.ix m (p3.mem_iff.2 (by simp))
  have hnd : ([(i : Int), (j : Int), k, m]).Nodup := p3.nodup_iff.1 (hq.up.imp (fun h => Int.ne_of_lt h))
  obtain ⟨k, rfl⟩ : ∃ k' : Nat, k = k' := ⟨k.toNat, by unfold okIx at hk; omega⟩
  obtain ⟨m, rfl⟩ : ∃ m' : Nat, m = m' := ⟨m.toNat, by unfold okIx at hm; omega⟩
  unfold okIx at hk hm
  have hk' : k < bs.length := by omega
  have hm' : m < bs.length := by omega
  refine ⟨k, m, hk', hm', p3, fun p => ?_, ?_⟩
  · have := hq.two p
    rw [cntP_perm p3, cntP_four, blk_get hi, blk_get hj, blk_get hk', blk_get hm'] at this
    exact this
  · simp at hnd
    omega
theorem pq_meet (h : STS v bs) {i j : Nat} (hi : i < bs.length) (hj : j < bs.length) (hne : i ≠ j) {r : List Int} (hq : PQ bs r) (hir : (i : Int) ∈ r) (hjr : (j : Int) ∈ r) : ∃ p, has bs[i] p ∧ has bs[j] p := by
  obtain ⟨k, m, hk, hm, _, h4, n1, n2, n3, n4, n5⟩ := pq_two h hi hj hne hq hir hjr
  exact p4_meet (h.good _ (List.getElem_mem hi)) h4 (two_of h hi hk (by omega)) (two_of h hi hm (by omega))
theorem hit_iff (h : STS v bs) {i j : Nat} (hi : i < bs.length) (hj : j < bs.length) (hne : i ≠ j) {a c e d f : Int} (t1 : Tri bs[i] a c e) (t2 : Tri bs[j] a d f) (r : List Int) :
    (Hit bs i j c e d f r ∨ Hit bs i j c e f d r) ↔ PQ bs r ∧ (i : Int) ∈ r ∧ (j : Int) ∈ r := by
  constructor
  · rintro (hh | hh)
    · exact hit_pq h hi hj hne t1 t2 hh
    · exact hit_pq h hi hj hne t1 t2.swap hh
  · rintro ⟨hq, hir, hjr⟩
    obtain ⟨k, m, hk, hm, p3, h4, n1, n2, n3, n4, n5⟩ := pq_two h hi hj hne hq hir hjr
    have G : ∀ {i : Nat} (hi : i < bs.length), good v bs[i] := fun hi => h.good _ (List.getElem_mem hi)
    obtain ⟨a12, a13, a14, a23, a24, a34, s1, s2, s3, s4⟩ := p4_six (G hi) (G hj) (G hk) (G hm) h4 (two_of h hi hj hne) (two_of h hi hk (by omega)) (two_of h hi hm (by omega)) (two_of h hj hk (by omega)) (two_of h hj hm (by omega)) (two_of h hk hm n5)
    have ea : a12 = a := by
      by_cases e1 : a12 = a
      · exact e1
      · exact (hne (h.two hi hj e1 s1.h1 t1.h1 s2.h1 t2.h1)).elim
    subst ea
    have hs : r.Pairwise (· ≤ ·) := hq.up.imp (fun h => Int.le_of_lt h)
    have hz : 0 ≤ a34 := (good_lt (G hk) s3.h3).1
    have K : ∀ {x y z : Int} {k : Nat} (hk : k < bs.length), Tri bs[k] x y z → num bs x y = k ∧ third bs x y = z := fun hk ht => third_tri h hk ht
    have sw : r.Perm [(i : Int), (j : Int), (m : Int), (k : Int)] := p3.trans (((List.Perm.swap _ _ _).cons _).cons _)
    rcases tri_pair t1 s1 with ⟨rfl, rfl⟩ | ⟨rfl, rfl⟩ <;> rcases tri_pair t2 s2 with ⟨rfl, rfl⟩ | ⟨rfl, rfl⟩
    · right
      have k1 := K hk s3
      have k2 := K hm s4.rot
      exact ⟨by omega, by omega, by rw [k1.1, k2.1]; exact p3, hs⟩
    · left
      have k1 := K hk s3
      have k2 := K hm s4.rot
      exact ⟨by omega, by omega, by rw [k1.1, k2.1]; exact p3, hs⟩
    · left
      have k1 := K hm s4
      have k2 := K hk s3.rot
      exact ⟨by omega, by omega, by rw [k1.1, k2.1]; exact sw, hs⟩
    · right
      have k1 := K hm s4
      have k2 := K hk s3.rot
      exact ⟨by omega, by omega, by rw [k1.1, k2.1]; exact sw, hs⟩
end
end Go.Vc
/-
  Plain words: counts of points; the walks that find all Pasch.
-/
namespace Go.Vc

/-! ### Counts -/
def cN (ps : List Int) (k : Int) : Int := ((ps.count k : Nat) : Int)
def cntA (ps : List Int) : List Int := [cN ps 0, cN ps 1, cN ps 2, cN ps 3, cN ps 4, cN ps 5, cN ps 6, cN ps 7, cN ps 8, cN ps 9, cN ps 10, cN ps 11, cN ps 12, cN ps 13, cN ps 14]
theorem cntA_len (ps : List Int) : (cntA ps).length = 15 := rfl
theorem pt15 {p : Int} (h0 : 0 ≤ p) (h1 : p < 15) : p = 0 ∨ p = 1 ∨ p = 2 ∨ p = 3 ∨ p = 4 ∨ p = 5 ∨ p = 6 ∨ p = 7 ∨ p = 8 ∨ p = 9 ∨ p = 10 ∨ p = 11 ∨ p = 12 ∨ p = 13 ∨ p = 14 := by omega
theorem cntA_get (ps : List Int) {p : Int} (h0 : 0 ≤ p) (h1 : p < 15) : (cntA ps).getD p.toNat 0 = cN ps p := by
  rcases pt15 h0 h1 with rfl | rfl | rfl | rfl | rfl | rfl | rfl | rfl | rfl | rfl | rfl | rfl | rfl | rfl | rfl <;> rfl
theorem cN_snoc (ps : List Int) (p k : Int) : cN (ps ++ [p]) k = cN ps k + if p = k then 1 else 0 := by
  unfold cN
  rw [List.count_append, List.count_singleton]
  by_cases h : p = k
  · subst h; simp
  · simp [h]
theorem cntA_set (ps : List Int) {p : Int} (h0 : 0 ≤ p) (h1 : p < 15) : (cntA ps).set p.toNat ((cntA ps).getD p.toNat 0 + 1) = cntA (ps ++ [p]) := by
  rw [cntA_get ps h0 h1]
  rcases pt15 h0 h1 with rfl | rfl | rfl | rfl | rfl | rfl | rfl | rfl | rfl | rfl | rfl | rfl | rfl | rfl | rfl <;> simp [cntA, cN_snoc]
theorem cnt_bd {ps : List Int} (h : ps.length ≤ 100) (k : Nat) : 0 ≤ (cntA ps).getD k 0 ∧ (cntA ps).getD k 0 ≤ 100 := by
  have key : ∀ x ∈ cntA ps, 0 ≤ x ∧ x ≤ 100 := by
    intro x hx
    have h1 : ∀ p, 0 ≤ cN ps p ∧ cN ps p ≤ 100 := fun p => by unfold cN; have := List.count_le_length (a := p) (l := ps); omega
    simp only [cntA, List.mem_cons, List.not_mem_nil, or_false] at hx
    rcases hx with h | h | h | h | h | h | h | h | h | h | h | h | h | h | h <;> rw [h] <;> exact h1 _
  by_cases hk : k < (cntA ps).length
  · have e : (cntA ps).getD k 0 = (cntA ps)[k] := by simp [List.getD, hk]
    rw [e]
    exact key _ (List.getElem_mem hk)
  · have e : (cntA ps).getD k 0 = 0 := by simp [List.getD, Nat.le_of_not_lt hk]
    rw [e]
    omega
/-- How many numbers from 0 on are counted at least once. -/
def posL : List Int → Nat
  | [] => 0
  | x :: r => (if 0 < x then 1 else 0) + posL r
def dist (ps : List Int) : Nat := posL (cntA ps)
theorem posL_set : ∀ (xs : List Int) (k : Nat), k < xs.length → 0 ≤ xs.getD k 0 → posL (xs.set k (xs.getD k 0 + 1)) = posL xs + if xs.getD k 0 = 0 then 1 else 0 := by
  intro xs
  induction xs with
  | nil => intro k hk; simp at hk
  | cons x xs ih =>
    intro k hk h0
    cases k with
    | zero =>
      simp only [List.getD_cons_zero, List.set_cons_zero, posL] at *
      by_cases h : x = 0
      · subst h; simp; omega
      · rw [if_pos (by omega), if_pos (by omega), if_neg h]; omega
    | succ k =>
      simp only [List.getD_cons_succ, List.set_cons_succ, posL] at *
      rw [ih k (by simpa using hk) h0]
      omega
theorem dist_snoc (ps : List Int) {p : Int} (h0 : 0 ≤ p) (h1 : p < 15) : dist (ps ++ [p]) = dist ps + if cN ps p = 0 then 1 else 0 := by
  unfold dist
  rw [← cntA_set ps h0 h1, posL_set _ _ (by rw [cntA_len]; omega) (by rw [cntA_get ps h0 h1]; unfold cN; omega), cntA_get ps h0 h1]
theorem cnt_one (ps : List Int) {p : Int} (h0 : 0 ≤ p) (h1 : p < 15) : (cntA (ps ++ [p])).getD p.toNat 0 = 1 ↔ cN ps p = 0 := by
  rw [cntA_get _ h0 h1, cN_snoc, if_pos rfl]
  omega
theorem dist_le (ps : List Int) : dist ps ≤ 15 := by
  have : ∀ xs : List Int, posL xs ≤ xs.length := by
    intro xs
    induction xs with
    | nil => simp [posL]
    | cons x xs ih => simp only [posL, List.length_cons]; split <;> omega
  exact this _
theorem sumL_cnt : ∀ ps : List Int, (∀ p ∈ ps, 0 ≤ p ∧ p < 15) → (cntA ps).sum = ps.length := by
  intro ps
  have key : ∀ (n : Nat) (ps : List Int), ps.length = n → (∀ p ∈ ps, 0 ≤ p ∧ p < 15) → (cntA ps).sum = ps.length := by
    intro n
    induction n with
    | zero => intro ps h _; rw [List.eq_nil_of_length_eq_zero h]; rfl
    | succ n ih =>
      intro ps h hp
      have hne : ps ≠ [] := by intro e; subst e; simp at h
      obtain ⟨qs, q, rfl⟩ : ∃ qs q, ps = qs ++ [q] := ⟨ps.dropLast, ps.getLast hne, (List.dropLast_concat_getLast hne).symm⟩
      rw [List.length_append, List.length_singleton] at h ⊢
      have h1 := ih qs (by omega) (fun p h => hp p (by simp [h]))
      have h2 := hp q (by simp)
      have h3 : (cntA (qs ++ [q])).sum = (cntA qs).sum + 1 := by
        rcases pt15 h2.1 h2.2 with rfl | rfl | rfl | rfl | rfl | rfl | rfl | rfl | rfl | rfl | rfl | rfl | rfl | rfl | rfl <;> simp [cntA, cN_snoc] <;> omega
      rw [h3, h1]
      push_cast
      rfl
  exact key _ ps rfl
theorem pos_two : ∀ xs : List Int, (∀ x ∈ xs, 0 ≤ x) → (∀ x ∈ xs, x ≤ 2) → xs.sum ≤ 2 * posL xs ∧ (xs.sum = 2 * posL xs → ∀ x ∈ xs, x = 0 ∨ x = 2) := by
  intro xs
  induction xs with
  | nil => intro _ _; simp [posL]
  | cons x xs ih =>
    intro h0 h2
    obtain ⟨i1, i2⟩ := ih (fun y hy => h0 y (by simp [hy])) (fun y hy => h2 y (by simp [hy]))
    have hx := h0 x (by simp)
    have hx2 := h2 x (by simp)
    simp only [posL, List.sum_cons]
    push_cast
    by_cases hp : 0 < x
    · rw [if_pos hp]
      refine ⟨by omega, fun e y hy => ?_⟩
      rcases List.mem_cons.1 hy with rfl | hy
      · omega
      · exact i2 (by omega) y hy
    · rw [if_neg hp]
      refine ⟨by omega, fun e y hy => ?_⟩
      rcases List.mem_cons.1 hy with rfl | hy
      · omega
      · exact i2 (by omega) y hy
theorem two_pos : ∀ xs : List Int, (∀ x ∈ xs, x = 0 ∨ x = 2) → xs.sum = 2 * posL xs := by
  intro xs
  induction xs with
  | nil => intro _; simp [posL]
  | cons x xs ih =>
    intro h
    have i1 := ih (fun y hy => h y (by simp [hy]))
    have hx := h x (by simp)
    simp only [posL, List.sum_cons]
    push_cast
    rcases hx with rfl | rfl <;> simp <;> omega
theorem mem_cntA {ps : List Int} {x : Int} : x ∈ cntA ps ↔ ∃ p : Int, 0 ≤ p ∧ p < 15 ∧ x = cN ps p := by
  constructor
  · intro h
    simp only [cntA, List.mem_cons, List.not_mem_nil, or_false] at h
    rcases h with h | h | h | h | h | h | h | h | h | h | h | h | h | h | h <;> exact ⟨_, by decide, by decide, h⟩
  · rintro ⟨p, h0, h1, rfl⟩
    rcases pt15 h0 h1 with rfl | rfl | rfl | rfl | rfl | rfl | rfl | rfl | rfl | rfl | rfl | rfl | rfl | rfl | rfl <;> simp [cntA]
theorem six_iff {ps : List Int} (hp : ∀ p ∈ ps, 0 ≤ p ∧ p < 15) (hl : ps.length = 12) : (dist ps = 6 ∧ ¬ ∃ x ∈ cntA ps, 2 < x) ↔ ∀ p, ps.count p = 0 ∨ ps.count p = 2 := by
  have hs := sumL_cnt ps hp
  rw [hl] at hs
  have h0 : ∀ x ∈ cntA ps, 0 ≤ x := by
    intro x hx
    obtain ⟨p, _, _, rfl⟩ := mem_cntA.1 hx
    unfold cN
    omega
  constructor
  · rintro ⟨h1, h2⟩ p
    have h3 := pos_two (cntA ps) h0 (fun x hx => by
      by_cases e : 2 < x
      · exact absurd ⟨x, hx, e⟩ h2
      · omega)
    by_cases hm : p ∈ ps
    · obtain ⟨q1, q2⟩ := hp p hm
      have h4 := h3.2 (by unfold dist at h1; rw [hs, h1]; rfl) (cN ps p) (mem_cntA.2 ⟨p, q1, q2, rfl⟩)
      unfold cN at h4
      omega
    · exact .inl (List.count_eq_zero.2 hm)
  · intro h
    have h5 : ∀ x ∈ cntA ps, x = 0 ∨ x = 2 := by
      intro x hx
      obtain ⟨p, _, _, rfl⟩ := mem_cntA.1 hx
      have := h p
      unfold cN
      omega
    have h3 := two_pos (cntA ps) h5
    refine ⟨by unfold dist; omega, ?_⟩
    rintro ⟨x, hx, h6⟩
    have := h5 x hx
    omega
theorem bl_count {v : Int} {b : B3} (hg : good v b) (p : Int) : (bl b).count p = hasN b p := by
  unfold good at hg
  unfold bl hasN has
  by_cases h1 : b.1 = p
  · have : ¬ b.2.1 = p := by omega
    have : ¬ b.2.2 = p := by omega
    simp_all
  · by_cases h2 : b.2.1 = p
    · have : ¬ b.2.2 = p := by omega
      simp_all
    · by_cases h3 : b.2.2 = p <;> simp_all
/-- Each point is in none or two of them. -/
def PasB (l : List B3) : Prop := ∀ p, (l.flatMap bl).count p = 0 ∨ (l.flatMap bl).count p = 2
noncomputable instance (l : List B3) : Decidable (PasB l) := Classical.propDecidable _
theorem pasB_four {v : Int} {a b c d : B3} (ha : good v a) (hb : good v b) (hc : good v c) (hd : good v d) : PasB [a, b, c, d] ↔ P4 a b c d := by
  unfold PasB P4
  refine forall_congr' fun p => ?_
  simp only [List.flatMap_cons, List.flatMap_nil, List.append_nil, List.count_append, bl_count ha, bl_count hb, bl_count hc, bl_count hd]
  have : ∀ x y z u : Nat, x + (y + (z + u)) = x + y + z + u := by intros; omega
  rw [this]
theorem flat_pts {l : List B3} (h : ∀ b ∈ l, good 15 b) : ∀ p ∈ l.flatMap bl, 0 ≤ p ∧ p < 15 := by
  intro p hp
  obtain ⟨b, hb, h1⟩ := List.mem_flatMap.1 hp
  have hg := h b hb
  unfold good at hg
  simp only [bl, List.mem_cons, List.not_mem_nil, or_false] at h1
  omega
theorem flat_len (l : List B3) : (l.flatMap bl).length = 3 * l.length := by
  induction l with
  | nil => rfl
  | cons b l ih => simp [List.flatMap_cons, bl, ih]; omega
theorem flat_snoc (l : List B3) {k : Nat} (hk : k < l.length) : (l.take (k + 1)).flatMap bl = (((l.take k).flatMap bl ++ [l[k].1]) ++ [l[k].2.1]) ++ [l[k].2.2] := by
  rw [take_snoc hk, List.flatMap_append]
  simp [bl]

/-! ### The program's walk -/
section
variable {v : Int} {bs : List B3}
theorem pq_quad {r : List Int} (h : PQ bs r) : ∃ i j k m : Nat, i < j ∧ j < k ∧ k < m ∧ m < bs.length ∧ r = [(i : Int), (j : Int), (k : Int), (m : Int)] := by
  obtain ⟨h4, hu, hi, _⟩ := h
  match r, h4 with
  | [a, b, c, d], _ =>
    have ha := hi a (by simp)
    have hb := hi b (by simp)
    have hc := hi c (by simp)
    have hd := hi d (by simp)
    unfold okIx at ha hb hc hd
    simp only [List.pairwise_cons, List.mem_cons, List.not_mem_nil, or_false] at hu
    have u1 := hu.1 b (by simp)
    have u2 := hu.2.1 c (by simp)
    have u3 := hu.2.2.1 d (by simp)
    refine ⟨a.toNat, b.toNat, c.toNat, d.toNat, by omega, by omega, by omega, by omega, ?_⟩
    congr 1
    · omega
    · congr 1
      · omega
      · congr 1
        · omega
        · congr 1; omega
theorem pq_of {i j k m : Nat} (h1 : i < j) (h2 : j < k) (h3 : k < m) (h4 : m < bs.length) (hp : P4 bs[i] bs[j] bs[k] bs[m]) : PQ bs [(i : Int), (j : Int), (k : Int), (m : Int)] := by
  refine ⟨rfl, by simp; omega, fun q hq => ?_, fun p => ?_⟩
  · simp only [List.mem_cons, List.not_mem_nil, or_false] at hq
    unfold okIx
    omega
  · rw [cntP_four, blk_get (by omega), blk_get (by omega), blk_get (by omega), blk_get h4]
    exact hp p
theorem pq_p4 {i j k m : Nat} (h1 : i < j) (h2 : j < k) (h3 : k < m) (h4 : m < bs.length) (h : PQ bs [(i : Int), (j : Int), (k : Int), (m : Int)]) : P4 bs[i] bs[j] bs[k] bs[m] := by
  intro p
  have := h.two p
  rwa [cntP_four, blk_get (by omega), blk_get (by omega), blk_get (by omega), blk_get h4] at this
theorem pre4 {a b c d : Int} {i j k m : Nat} : ([a] <+: [(i : Int), (j : Int), (k : Int), (m : Int)] ↔ a = i) ∧ ([a, b] <+: [(i : Int), (j : Int), (k : Int), (m : Int)] ↔ a = i ∧ b = j) ∧ ([a, b, c] <+: [(i : Int), (j : Int), (k : Int), (m : Int)] ↔ a = i ∧ b = j ∧ c = k) ∧ ([a, b, c, d] <+: [(i : Int), (j : Int), (k : Int), (m : Int)] ↔ a = i ∧ b = j ∧ c = k ∧ d = m) := by
  simp [List.cons_prefix_cons]
theorem pas0 : IsList (PreB (PQ bs) [] 0) [] := preB_none fun r j _ _ => Nat.zero_le _
theorem pas1 {i : Nat} : IsList (PreB (PQ bs) [(i : Int)] (i + 1)) [] := by
  refine preB_none fun r x h hp => ?_
  obtain ⟨a, b, c, d, h1, h2, h3, h4, rfl⟩ := pq_quad h
  have := (pre4 (c := 0) (d := 0)).2.1.1 hp
  omega
theorem pas2 {i j : Nat} : IsList (PreB (PQ bs) [(i : Int), (j : Int)] (j + 1)) [] := by
  refine preB_none fun r x h hp => ?_
  obtain ⟨a, b, c, d, h1, h2, h3, h4, rfl⟩ := pq_quad h
  have := (pre4 (d := 0)).2.2.1.1 hp
  omega
theorem pas3 {i j k : Nat} : IsList (PreB (PQ bs) [(i : Int), (j : Int), (k : Int)] (k + 1)) [] := by
  refine preB_none fun r x h hp => ?_
  obtain ⟨a, b, c, d, h1, h2, h3, h4, rfl⟩ := pq_quad h
  have := pre4.2.2.2.1 hp
  omega
theorem pas3_all {i j k n : Nat} {ls : List (List Int)} (hn : bs.length ≤ n) (h : IsList (PreB (PQ bs) [(i : Int), (j : Int), (k : Int)] n) ls) : IsList (Pre (PQ bs) [(i : Int), (j : Int), (k : Int)]) ls := by
  refine preB_all h fun r hq hp => ?_
  obtain ⟨a, b, c, d, h1, h2, h3, h4, rfl⟩ := pq_quad hq
  have := (pre4 (d := 0)).2.2.1.1 hp
  exact ⟨d, by omega, pre4.2.2.2.2 (by omega)⟩
theorem pas2_all {i j n : Nat} {ls : List (List Int)} (hn : bs.length ≤ n) (h : IsList (PreB (PQ bs) [(i : Int), (j : Int)] n) ls) : IsList (Pre (PQ bs) [(i : Int), (j : Int)]) ls := by
  refine preB_all h fun r hq hp => ?_
  obtain ⟨a, b, c, d, h1, h2, h3, h4, rfl⟩ := pq_quad hq
  have := (pre4 (c := 0) (d := 0)).2.1.1 hp
  exact ⟨c, by omega, (pre4 (d := 0)).2.2.1.2 (by omega)⟩
theorem pas1_all {i n : Nat} {ls : List (List Int)} (hn : bs.length ≤ n) (h : IsList (PreB (PQ bs) [(i : Int)] n) ls) : IsList (Pre (PQ bs) [(i : Int)]) ls := by
  refine preB_all h fun r hq hp => ?_
  obtain ⟨a, b, c, d, h1, h2, h3, h4, rfl⟩ := pq_quad hq
  have := (pre4 (b := 0) (c := 0) (d := 0)).1.1 hp
  exact ⟨b, by omega, (pre4 (c := 0) (d := 0)).2.1.2 (by omega)⟩
theorem pas0_all {n : Nat} {ls : List (List Int)} (hn : bs.length ≤ n) (h : IsList (PreB (PQ bs) [] n) ls) : IsList (PQ bs) ls := by
  refine pre_top (preB_all h fun r hq hp => ?_)
  obtain ⟨a, b, c, d, h1, h2, h3, h4, rfl⟩ := pq_quad hq
  exact ⟨a, by omega, (pre4 (b := 0) (c := 0) (d := 0)).1.2 rfl⟩
/-- Blocks of a Pasch meet. -/
theorem pas_meet (h : STS v bs) {r : List Int} {i j : Nat} (hi : i < bs.length) (hj : j < bs.length) (hne : i ≠ j) (hq : PQ bs r) (hir : (i : Int) ∈ r) (hjr : (j : Int) ∈ r) : meets bs[i] bs[j] := by
  by_cases hm : meets bs[i] bs[j]
  · exact hm
  · obtain ⟨p, h1, h2⟩ := pq_meet h hi hj hne hq hir hjr
    exact absurd ⟨h1, h2⟩ (meets_disj.1 hm p)
theorem pas_skip1 (h : STS v bs) {i j : Nat} {ls : List (List Int)} (hij : i < j) (hj : j < bs.length) (hm : ¬ meets bs[i] bs[j]) (hl : IsList (PreB (PQ bs) [(i : Int)] j) ls) : IsList (PreB (PQ bs) [(i : Int)] (j + 1)) ls := by
  refine preB_skip hl fun r hq hp => hm ?_
  have m1 : (i : Int) ∈ r := hp.subset (by simp)
  have m2 : (j : Int) ∈ r := hp.subset (by simp)
  exact pas_meet h (by omega) hj (by omega) hq m1 m2
theorem pas_skip2 (h : STS v bs) {i j k : Nat} {ls : List (List Int)} (hij : i < j) (hjk : j < k) (hk : k < bs.length) (hm : ¬ meets bs[i] bs[k] ∨ ¬ meets bs[j] bs[k]) (hl : IsList (PreB (PQ bs) [(i : Int), (j : Int)] k) ls) : IsList (PreB (PQ bs) [(i : Int), (j : Int)] (k + 1)) ls := by
  refine preB_skip hl fun r hq hp => ?_
  have m1 : (i : Int) ∈ r := hp.subset (by simp)
  have m2 : (j : Int) ∈ r := hp.subset (by simp)
  have m3 : (k : Int) ∈ r := hp.subset (by simp)
  rcases hm with hm | hm
  · exact hm (pas_meet h (by omega) hk (by omega) hq m1 m3)
  · exact hm (pas_meet h (by omega) hk (by omega) hq m2 m3)
theorem pas_yes {i j k m : Nat} {ls : List (List Int)} (h1 : i < j) (h2 : j < k) (h3 : k < m) (h4 : m < bs.length) (hp : P4 bs[i] bs[j] bs[k] bs[m]) (hl : IsList (PreB (PQ bs) [(i : Int), (j : Int), (k : Int)] m) ls) : IsList (PreB (PQ bs) [(i : Int), (j : Int), (k : Int)] (m + 1)) (ls ++ [[(i : Int), (j : Int), (k : Int), (m : Int)]]) :=
  preB_step hl (pre_one (fun r hr => by rw [hr.four]; rfl) (pq_of h1 h2 h3 h4 hp))
theorem pas_no {i j k m : Nat} {ls : List (List Int)} (h1 : i < j) (h2 : j < k) (h3 : k < m) (h4 : m < bs.length) (hp : ¬ P4 bs[i] bs[j] bs[k] bs[m]) (hl : IsList (PreB (PQ bs) [(i : Int), (j : Int), (k : Int)] m) ls) : IsList (PreB (PQ bs) [(i : Int), (j : Int), (k : Int)] (m + 1)) ls := by
  refine preB_skip hl fun r hq hpre => hp ?_
  have e : [(i : Int), (j : Int), (k : Int), (m : Int)] = r := hpre.eq_of_length (by rw [hq.four]; rfl)
  subst e
  exact pq_p4 h1 h2 h3 h4 hq

/-! ### The reference's walk -/
/-- What has been found from pairs ahead of (i, j). -/
def SeenP (bs : List B3) (i j : Nat) (r : List Int) : Prop := PQ bs r ∧ ∃ x y : Nat, y < x ∧ (x < i ∨ (x = i ∧ y < j)) ∧ (x : Int) ∈ r ∧ (y : Int) ∈ r
theorem seen_zero {r : List Int} : ¬ SeenP bs 0 0 r := by rintro ⟨_, x, y, h1, h2, _⟩; omega
theorem seen_row {i : Nat} {r : List Int} : SeenP bs i i r ↔ SeenP bs (i + 1) 0 r := by
  constructor
  · rintro ⟨h, x, y, h1, h2, h3⟩; exact ⟨h, x, y, h1, by omega, h3⟩
  · rintro ⟨h, x, y, h1, h2, h3⟩; exact ⟨h, x, y, h1, by omega, h3⟩
theorem seen_step {i j : Nat} (hij : j < i) {r : List Int} : SeenP bs i (j + 1) r ↔ SeenP bs i j r ∨ (PQ bs r ∧ (i : Int) ∈ r ∧ (j : Int) ∈ r) := by
  constructor
  · rintro ⟨h, x, y, h1, h2, h3, h4⟩
    by_cases e : x = i ∧ y = j
    · obtain ⟨rfl, rfl⟩ := e
      exact .inr ⟨h, h3, h4⟩
    · exact .inl ⟨h, x, y, h1, by omega, h3, h4⟩
  · rintro (⟨h, x, y, h1, h2, h3, h4⟩ | ⟨h, h3, h4⟩)
    · exact ⟨h, x, y, h1, by omega, h3, h4⟩
    · exact ⟨h, i, j, hij, .inr ⟨rfl, by omega⟩, h3, h4⟩
theorem seen_skip (h : STS v bs) {i j : Nat} (hij : j < i) (hi : i < bs.length) (hm : ∀ p, ¬ (has bs[i] p ∧ has bs[j] p)) {r : List Int} : SeenP bs i (j + 1) r ↔ SeenP bs i j r := by
  rw [seen_step hij]
  constructor
  · rintro (h1 | ⟨h1, h2, h3⟩)
    · exact h1
    · obtain ⟨p, hp⟩ := pq_meet h hi (show j < bs.length by omega) (by omega) h1 h2 h3
      exact absurd hp (hm p)
  · exact .inl
/-- What the turns have found. -/
def HitT (bs : List B3) (i j c e d f : Int) (turn : Nat) (r : List Int) : Prop := (0 < turn ∧ Hit bs i j c e d f r) ∨ (1 < turn ∧ Hit bs i j c e f d r)
theorem hitT_zero {i j c e d f : Int} {r : List Int} : ¬ HitT bs i j c e d f 0 r := by rintro (⟨h, _⟩ | ⟨h, _⟩) <;> omega
theorem hitT_step {i j c e d f d' f' : Int} {turn : Nat} {r : List Int} (ht : turn < 2) (h0 : turn % 2 = 0 → d' = d ∧ f' = f) (h1 : turn % 2 = 1 → d' = f ∧ f' = d) : HitT bs i j c e d f (turn + 1) r ↔ HitT bs i j c e d f turn r ∨ Hit bs i j c e d' f' r := by
  unfold HitT
  by_cases e0 : turn = 0
  · subst e0
    obtain ⟨rfl, rfl⟩ := h0 rfl
    simp
  · have e1 : turn = 1 := by omega
    subst e1
    obtain ⟨rfl, rfl⟩ := h1 rfl
    simp
theorem hit_eq {i j c e d f : Int} {q r : List Int} (h1 : ¬ third bs c f < 0) (h2 : third bs d e = third bs c f) (hp : q.Perm [i, j, num bs c f, num bs d e]) (hs : q.Pairwise (· ≤ ·)) : Hit bs i j c e d f r ↔ r = q := by
  constructor
  · rintro ⟨_, _, h3, h4⟩
    exact (h3.trans hp.symm).eq_of_pairwise (fun a b _ _ h5 h6 => by omega) h4 hs
  · rintro rfl
    exact ⟨h1, h2, hp, hs⟩
theorem hitT_end {i j c e d f : Int} {turn : Nat} {r : List Int} (ht : 2 ≤ turn) : HitT bs i j c e d f turn r ↔ Hit bs i j c e d f r ∨ Hit bs i j c e f d r := by
  unfold HitT
  have h1 : 0 < turn := by omega
  have h2 : 1 < turn := by omega
  simp [h1, h2]
theorem seen_all {r : List Int} : SeenP bs bs.length 0 r ↔ PQ bs r := by
  constructor
  · exact fun h => h.1
  · intro h
    obtain ⟨i, j, k, m, h1, h2, h3, h4, rfl⟩ := pq_quad h
    exact ⟨h, j, i, h1, .inl (by omega), by simp, by simp⟩
end
end Go.Vc
