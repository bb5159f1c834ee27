/-
  The calculus and plain words, part 3.
-/
import Derived.Test.YtnngcemighmikaaKa2
import Derived.Lib.SliceRun
set_option linter.unusedVariables false
set_option linter.unusedSimpArgs false
/-
  The calculus, part 8: rows of rows: a row of slices, and what they lead to.
-/
namespace Go.Vc
open Go Go.RowKit

section
variable {P : Program} {w0 w : World} {H H' : List Assn} {α : Type} {T : TypeId} {C : Cod α}

/-- The slices' values; what they hold. -/
def tops (ps : List (Sl × List α)) : List Sl := ps.map (·.1)
def conts (ps : List (Sl × List α)) : List (List α) := ps.map (·.2)
theorem tops_len (ps : List (Sl × List α)) : (tops ps).length = ps.length := List.length_map ..
theorem conts_len (ps : List (Sl × List α)) : (conts ps).length = ps.length := List.length_map ..
theorem tops_append (ps qs : List (Sl × List α)) : tops (ps ++ qs) = tops ps ++ tops qs := List.map_append ..
theorem conts_append (ps qs : List (Sl × List α)) : conts (ps ++ qs) = conts ps ++ conts qs := List.map_append ..
theorem tops_get (ps : List (Sl × List α)) {k : Nat} (hk : k < (tops ps).length) : (tops ps)[k] = (ps[k]'(by rw [← tops_len]; exact hk)).1 := List.getElem_map ..
theorem conts_get (ps : List (Sl × List α)) {k : Nat} (hk : k < (conts ps).length) : (conts ps)[k] = (ps[k]'(by rw [← conts_len]; exact hk)).2 := List.getElem_map ..

def rowA (T : TypeId) (C : Cod α) (p : Sl × List α) : Assn := .sep (.pur (p.1.n = p.2.length)) (Own T C p.1.A p.1.c p.2)
/-- The inner rows: each owned, apart. -/
def RowsA (T : TypeId) (C : Cod α) (ps : List (Sl × List α)) : Assn := ⟨fun w F => SatF (ps.map (rowA T C)) w F, fun h hk => SatF.loc h hk⟩

theorem SatF_append {H1 H2 : List Assn} {w : World} {F : Nat → Prop} : SatF (H1 ++ H2) w F ↔ ∃ F1 F2, SatF H1 w F1 ∧ SatF H2 w F2 ∧ (∀ k, F1 k → ¬ F2 k) ∧ ∀ k, F k ↔ F1 k ∨ F2 k := by
  constructor
  · intro h
    induction H1 generalizing F with
    | nil => exact ⟨fun _ => False, F, fun _ h => h, h, fun _ h => h.elim, fun k => by simp⟩
    | cons A H1 ih =>
      obtain ⟨G1, G2, g1, g2, gd, gF⟩ := h
      obtain ⟨K1, K2, k1, k2, kd, kF⟩ := ih g2
      refine ⟨fun k => G1 k ∨ K1 k, K2, ⟨G1, K1, g1, k1, fun k h1 h2 => gd k h1 ((kF k).2 (.inl h2)), fun _ => Iff.rfl⟩, k2, ?_, ?_⟩
      · rintro k (h1 | h1) h2
        · exact gd k h1 ((kF k).2 (.inr h2))
        · exact kd k h1 h2
      · intro k
        rw [gF k, kF k, or_assoc]
  · rintro ⟨F1, F2, h1, h2, hd, hF⟩
    exact SatF_congr (SatF.append h1 h2 hd) (fun k => (hF k).symm)
theorem St.rows {ps : List (Sl × List α)} : St w0 (RowsA T C ps :: H) w ↔ St w0 (ps.map (rowA T C) ++ H) w := by
  constructor
  · rintro ⟨hb, F, ⟨F1, F2, h1, h2, hd, hF⟩, hk⟩
    exact ⟨hb, F, SatF_append.2 ⟨F1, F2, h1, h2, hd, hF⟩, hk⟩
  · rintro ⟨hb, F, hs, hk⟩
    obtain ⟨F1, F2, h1, h2, hd, hF⟩ := SatF_append.1 hs
    exact ⟨hb, F, ⟨F1, F2, h1, h2, hd, hF⟩, hk⟩
theorem RowsA.nil (hw : St w0 H w) : St w0 (RowsA T C ([] : List (Sl × List α)) :: H) w := St.rows.2 hw
theorem RowsA.permP {ps qs : List (Sl × List α)} (hp : ps.Perm qs) : ∀ w F, (RowsA T C ps).P w F → (RowsA T C qs).P w F := fun _ _ h => SatF.perm (hp.map _) h
theorem RowsA.perm {ps qs : List (Sl × List α)} (hp : ps.Perm qs) (hw : St w0 (RowsA T C ps :: H) w) : St w0 (RowsA T C qs :: H) w := hw.mono (RowsA.permP hp)
theorem RowsA.cons {A : Option Addr} {c : Nat} {xs : List α} {ps : List (Sl × List α)} (hw : St w0 (Own T C A c xs :: RowsA T C ps :: H) w) : St w0 (RowsA T C ((⟨A, xs.length, c⟩, xs) :: ps) :: H) w := by
  refine St.rows.2 ?_
  have h1 := St.rows.1 (hw.perm (List.Perm.swap _ _ _))
  have h2 : St w0 (Own T C A c xs :: (ps.map (rowA T C) ++ H)) w := h1.perm List.perm_middle
  exact (St.addPur rfl h2).unsep
theorem RowsA.uncons {s : Sl} {xs : List α} {ps : List (Sl × List α)} (hw : St w0 (RowsA T C ((s, xs) :: ps) :: H) w) : s.n = xs.length ∧ St w0 (Own T C s.A s.c xs :: RowsA T C ps :: H) w := by
  have h1 : St w0 (rowA T C (s, xs) :: (ps.map (rowA T C) ++ H)) w := St.rows.1 hw
  obtain ⟨h2, h3⟩ := (St.sep h1).pur
  refine ⟨h2, ?_⟩
  refine St.perm ?_ (List.Perm.swap _ _ _)
  refine St.rows.2 ?_
  exact h3.perm List.perm_middle.symm
theorem RowsA.app {ps qs : List (Sl × List α)} (hw : St w0 (RowsA T C ps :: RowsA T C qs :: H) w) : St w0 (RowsA T C (ps ++ qs) :: H) w := by
  refine St.rows.2 ?_
  rw [List.map_append, List.append_assoc]
  have h1 := St.rows.1 hw
  have h2 : St w0 (RowsA T C qs :: (ps.map (rowA T C) ++ H)) w := h1.perm List.perm_middle
  have h3 := St.rows.1 h2
  refine h3.perm ?_
  rw [← List.append_assoc, ← List.append_assoc]
  exact List.perm_append_comm.append_right H
theorem RowsA.unapp {ps qs : List (Sl × List α)} (hw : St w0 (RowsA T C (ps ++ qs) :: H) w) : St w0 (RowsA T C ps :: RowsA T C qs :: H) w := by
  have h1 := St.rows.1 hw
  rw [List.map_append, List.append_assoc] at h1
  refine St.rows.2 ?_
  have h2 : St w0 (qs.map (rowA T C) ++ (ps.map (rowA T C) ++ H)) w := h1.perm (by
    rw [← List.append_assoc, ← List.append_assoc]
    exact List.perm_append_comm.append_right H)
  exact (St.rows.2 h2).perm List.perm_middle.symm
theorem Own.le {A : Option Addr} {c i : Nat} {xs : List α} (hw : St w0 H w) (hp : pull i H = Option.some (Own T C A c xs, H')) : xs.length ≤ 9223372036854775807 := by
  obtain ⟨F, ho, hF⟩ := hw.get i hp
  rcases ho.2 with ⟨h1, h2⟩ | ⟨g, cap, cur, hvv, hbase, hh, hle, hmax, hcs, htake⟩
  · omega
  · simp only [maxLen] at hmax
    omega
theorem RowsA.rd {i : Nat} {ps : List (Sl × List α)} (hw : St w0 H w) (hp : pull i H = some (RowsA T C ps, H')) {p : Sl × List α} (hm : p ∈ ps) : (p.1.n = p.2.length ∧ p.2.length ≤ 9223372036854775807) ∧ Rd C w p.1.A p.2 := by
  obtain ⟨l, r, rfl⟩ := List.append_of_mem hm
  have h1 := RowsA.perm (qs := p :: (l ++ r)) List.perm_middle (hw.perm (pull_perm hp))
  obtain ⟨h2, h3⟩ := RowsA.uncons (s := p.1) (xs := p.2) h1
  exact ⟨⟨h2, Own.le h3 (i := 0) rfl⟩, Own.rd h3 (i := 0) rfl⟩
/-- The lengths are what they are told to be. -/
def LenOk (ps : List (Sl × List α)) : Prop := ∀ p ∈ ps, p.1.n = p.2.length ∧ p.2.length ≤ 9223372036854775807
theorem LenOk.le {ps : List (Sl × List α)} (h : LenOk ps) {k : Nat} (hk : k < ps.length) : (ps[k]).2.length ≤ 9223372036854775807 := (h _ (List.getElem_mem hk)).2
theorem RowsA.len {ps : List (Sl × List α)} (i : Nat) (hp : pull i H = some (RowsA T C ps, H')) : ∀ w, St w0 H w → LenOk ps := fun _ hw _ hm => (RowsA.rd hw hp hm).1
theorem LenOk.sl {ps : List (Sl × List α)} (h : LenOk ps) {k : Nat} (hk : k < ps.length) : (ps[k]).1.v = .slice (ps[k]).1.A (ps[k]).2.length (ps[k]).1.c := by
  unfold Sl.v
  rw [(h _ (List.getElem_mem hk)).1]

/-- What a load of slice k finds. -/
theorem Ld.row {A : Option Addr} {ps : List (Sl × List α)} (hr : ∀ w, St w0 H w → Rd SlC w A (tops ps)) (hn : LenOk ps) {k s : Nat} (hk : k < ps.length) (hs : s = 1) :
    ∀ w, St w0 H w → ∃ q, A.map (·.add (k * s)) = some q ∧ w.cell? q = some (.slice (ps[k]).1.A (ps[k]).2.length (ps[k]).1.c) := by
  have hk' : k < (tops ps).length := by rw [tops_len]; exact hk
  refine Ld.rd (C := SlC) hr hk' hs ?_
  simp only [SlC]
  rw [tops_get ps hk', hn.sl hk]
/-- .. and what lies there. -/
theorem Ld.rows {ps : List (Sl × List α)} (i : Nat) (hp : pull i H = some (RowsA T C ps, H')) {k : Nat} (hk : k < ps.length) : ∀ w, St w0 H w → Rd C w (ps[k]).1.A (ps[k]).2 :=
  fun _ hw => (RowsA.rd hw hp (List.getElem_mem hk)).2

/-- A list of lists that is read. -/
structure RdL (C : Cod α) (w : World) (A : Option Addr) (ps : List (Sl × List α)) : Prop where
  top : Rd SlC w A (tops ps)
  len : LenOk ps
  row : ∀ k (hk : k < ps.length), Rd C w (ps[k]).1.A (ps[k]).2
theorem RdL.below {A : Option Addr} {ps : List (Sl × List α)} {w' : World} (h : RdL C w A ps) (hb : Bel w.heap.size w w') : RdL C w' A ps := ⟨h.top.below hb, h.len, fun k hk => (h.row k hk).below hb⟩
theorem RdL.st {A : Option Addr} {ps : List (Sl × List α)} (h : RdL C w0 A ps) (hw : St w0 H w) : RdL C w A ps := h.below hw.below
theorem Ld.ll {T2 c : Nat} {A : Option Addr} {ps : List (Sl × List α)} {H2 : List Assn} (i j : Nat) (hp : pull i H = some (Own T2 SlC A c (tops ps), H')) (hq : pull j H = some (RowsA T C ps, H2)) : ∀ w, St w0 H w → RdL C w A ps :=
  fun w hw => ⟨Own.rd hw hp, RowsA.len j hq w hw, fun k hk => Ld.rows j hq hk w hw⟩
theorem RdL.nil (C : Cod α) (w : World) (A : Option Addr) : RdL C w A [] := ⟨Rd.nil _ _ _, fun _ h => by simp at h, fun k hk => by simp at hk⟩

/-- A list of lists, owned whole, as a value. -/
def LLv (T2 T : TypeId) (C : Cod α) (v : Value) (p : (Option Addr × Nat) × List (Sl × List α)) (xss : List (List α)) : Assn :=
  .sep (.pur (v = .slice p.1.1 (tops p.2).length p.1.2 ∧ conts p.2 = xss)) (.sep (Own T2 SlC p.1.1 p.1.2 (tops p.2)) (RowsA T C p.2))

/-- Nothing is owned at nil. -/
theorem Own.nilP (w : World) : (Own T C none 0 ([] : List α)).P w (fun _ => False) := by
  refine ⟨⟨by simp, .inl ⟨?_, ?_⟩⟩, fun k => ?_⟩
  all_goals simp [Value.ownBlock]
theorem St.addNil (hw : St w0 H w) : St w0 (Own T C none 0 ([] : List α) :: H) w :=
  hw.add (Bel.refl _ _) (Own.nilP w) (fun _ h => h.elim)

theorem tops_put {ps : List (Sl × List α)} {s : Sl} {xs : List α} (y : Nat) : tops (ps.take y ++ (s, xs) :: ps.drop y) = (tops ps).take y ++ s :: (tops ps).drop y := by simp [tops, List.map_take, List.map_drop]
theorem conts_put {ps : List (Sl × List α)} {s : Sl} {xs : List α} (y : Nat) : conts (ps.take y ++ (s, xs) :: ps.drop y) = (conts ps).take y ++ xs :: (conts ps).drop y := by simp [conts, List.map_take, List.map_drop]
theorem put_heap {T2 c d y : Nat} {A B : Option Addr} {ps : List (Sl × List α)} {xs : List α} {z : Sl} (hy : y ≤ ps.length) (hw : St w0 (Own T2 SlC A c ((shiftAt (tops ps) z y).set y ⟨B, xs.length, d⟩) :: RowsA T C ps :: Own T C B d xs :: H) w) :
    St w0 (Own T2 SlC A c (tops (ps.take y ++ (⟨B, xs.length, d⟩, xs) :: ps.drop y)) :: RowsA T C (ps.take y ++ (⟨B, xs.length, d⟩, xs) :: ps.drop y) :: H) w := by
  rw [shiftAt_done (by rw [tops_len]; exact hy), ← tops_put (xs := xs)] at hw
  have h1 := hw.perm (H' := Own T C B d xs :: RowsA T C ps :: Own T2 SlC A c (tops (ps.take y ++ (⟨B, xs.length, d⟩, xs) :: ps.drop y)) :: H) (by
    refine (List.Perm.swap _ _ _).trans ?_
    refine ((List.Perm.swap _ _ _).cons _).trans ?_
    exact List.Perm.swap _ _ _)
  have h2 := RowsA.perm (qs := ps.take y ++ (⟨B, xs.length, d⟩, xs) :: ps.drop y) (by
    refine List.Perm.trans ?_ List.perm_middle.symm
    rw [List.take_append_drop]) (RowsA.cons h1)
  exact h2.perm (List.Perm.swap _ _ _)
theorem snoc_heap {D : Cod Sl} {T2 c d : Nat} {A B : Option Addr} {ps : List (Sl × List α)} {xs : List α} (hw : St w0 (Own T2 D A c (tops ps ++ [⟨B, xs.length, d⟩]) :: RowsA T C ps :: Own T C B d xs :: H) w) :
    St w0 (Own T2 D A c (tops (ps ++ [(⟨B, xs.length, d⟩, xs)])) :: RowsA T C (ps ++ [(⟨B, xs.length, d⟩, xs)]) :: H) w := by
  rw [tops_append]
  have h1 := hw.perm (H' := Own T C B d xs :: RowsA T C ps :: Own T2 D A c (tops ps ++ [⟨B, xs.length, d⟩]) :: H) (by
    refine (List.Perm.swap _ _ _).trans ?_
    refine ((List.Perm.swap _ _ _).cons _).trans ?_
    exact List.Perm.swap _ _ _)
  have h2 := RowsA.perm (qs := ps ++ [(⟨B, xs.length, d⟩, xs)]) (List.perm_append_comm (l₁ := [_])) (RowsA.cons h1)
  exact h2.perm (List.Perm.swap _ _ _)
theorem one_heap {D : Cod Sl} {T2 c d : Nat} {A B : Option Addr} {xs : List α} (hw : St w0 (Own T2 D A c [⟨B, xs.length, d⟩] :: Own T C B d xs :: H) w) :
    St w0 (Own T2 D A c (tops [((⟨B, xs.length, d⟩ : Sl), xs)]) :: RowsA T C [((⟨B, xs.length, d⟩ : Sl), xs)] :: H) w :=
  snoc_heap (ps := []) ((RowsA.nil (T := T) (C := C) hw).perm (List.Perm.swap _ _ _))
theorem app_heap {D : Cod Sl} {T2 c : Nat} {A : Option Addr} {ps qs : List (Sl × List α)} (hw : St w0 (Own T2 D A c (tops ps ++ tops qs) :: RowsA T C ps :: RowsA T C qs :: H) w) :
    St w0 (Own T2 D A c (tops (ps ++ qs)) :: RowsA T C (ps ++ qs) :: H) w := by
  rw [tops_append]
  have h1 := hw.perm (H' := RowsA T C ps :: RowsA T C qs :: Own T2 D A c (tops ps ++ tops qs) :: H) ((List.Perm.swap _ _ _).trans ((List.Perm.swap _ _ _).cons _))
  exact (RowsA.app h1).perm (List.Perm.swap _ _ _)
theorem unrow {ps : List (Sl × List α)} {k : Nat} (hk : k < ps.length) (hw : St w0 (RowsA T C (ps.drop k) :: H) w) : St w0 (Own T C (ps[k]).1.A (ps[k]).1.c (ps[k]).2 :: RowsA T C (ps.drop (k + 1)) :: H) w := by
  rw [drop_cons hk] at hw
  exact (RowsA.uncons (s := (ps[k]).1) (xs := (ps[k]).2) hw).2
theorem Pu.eqlNil {o : Oper} {σ : Sig} {T T2 e : TypeId} {x y : Operand} {A : Option Addr} {n c m d : Nat} (hT : P.underlying T = some (.slice e)) (ho : o.op = .binOp .eql T x y T2) (hx : ev σ x = some (.slice A n c)) (hy : ev σ y = some (.slice none m d)) : Pu P w0 o σ H (.bool A.isNone) := by
  intro w hw a ha
  have h1 := ha x (by simp [ho, Op.operands]) _ hx
  have h2 := ha y (by simp [ho, Op.operands]) _ hy
  have he : (eqGuard .eql T x y (.slice A n c) (.slice none m d)).run P w = .ok () w := by
    unfold eqGuard
    simp
  simp [execOp, ho, h1, h2, he, Go.Lib.run_eql_slice_nil w T e A n c m d hT]
/-- A call of a function's value, whose result is a plain one. -/
theorem Ef.callPV {Q : Exit → Act → World → Prop} {o : Oper} {σ : Sig} {f : Operand} {g : FuncId} {l : List Operand} {ts : Array TypeId} {vs : List Value} {caps : Array Value} {r : Value} (hok : CallOk P g) (ho : o.op = .call { callee := .value f, args := l.toArray, argTypes := ts }) (hf : ev σ f = some (.func (.func g) #[] caps))
    (hargs : evs σ l = some vs) (hfn : ∀ w, St w0 H w → Does P g (vs ++ caps.toList) w [] (fun v => [.pur (v = r)])) : Ef P w0 o σ H Q (fun v H' => v = r ∧ H' = H) := by
  intro w hw a ha
  have := Ef.callV (Q := Q) ho hf hok hargs (Does.frame hfn) w hw a ha
  refine Oper.wp_mono ?_ this
  rintro a' w' ⟨v, H', rfl, hs, rfl⟩
  have hs' : St w0 (.pur (v = r) :: H) w' := hs
  exact ⟨v, H, rfl, hs'.pur.2, hs'.pur.1, rfl⟩
/-- A block of cells that is read. -/
def RdB (w : World) (b : Nat) (cs : List Value) : Prop := ∀ m u, cs[m]? = some u → w.cell? ⟨b, m, none⟩ = some u
theorem RdB.below {w' : World} {b : Nat} {cs : List Value} (h : RdB w b cs) (hb : Bel w.heap.size w w') : RdB w' b cs := by
  intro m u hm
  have h1 := h m u hm
  rw [hb.low.cell (World.block_lt_of_cell? w _ h1)]
  exact h1
theorem Blk.rdb {b t i : Nat} {cs : List Value} (hw : St w0 H w) (hp : pull i H = Option.some (Blk b cs t, H')) : RdB w b cs := fun m u hm => Blk.cell hw hp hm
theorem Ld.rdb {b j : Nat} {cs : List Value} {u : Value} (h : RdB w0 b cs) (hj : cs[j]? = some u) : ∀ w, St w0 H w → ∃ q, some (⟨b, j, none⟩ : Addr) = some q ∧ w.cell? q = some u := fun w hw => ⟨_, rfl, h.below hw.below j u hj⟩
theorem Ld.rdbs {b : Nat} {cs : List Value} (h : RdB w0 b cs) : ∀ w, St w0 H w → ∃ q, some (⟨b, 0, none⟩ : Addr) = some q ∧ ∀ m u, cs[m]? = some u → w.cell? (q.add m) = some u := by
  intro w hw
  refine ⟨_, rfl, fun m u hm => ?_⟩
  rw [add_mk, Nat.zero_add]
  exact h.below hw.below m u hm
theorem Rd.none {C : Cod α} {A : Option Addr} {xs : List α} (h : Rd C w A xs) (hA : A = none) : xs = [] := by
  cases xs with
  | nil => rfl
  | cons x xs =>
    have := h.some (by simp)
    rw [hA] at this
    cases this
theorem Pu.indexAddrS {o : Oper} {σ : Sig} {T : TypeId} {x y : Operand} {A : Option Addr} {n c : Nat} {e sz : Nat} {K : IntKind} {i : Int} (k : Nat) (ho : o.op = .indexAddr T x y) (hT : P.underlying T = some (.slice e)) (hs : Sz P e sz) (hx : ev σ x = some (.slice A n c)) (hy : ev σ y = some (.int K i)) (hi : i = (k : Int)) (hk : k < n) (hA : ∀ w, St w0 H w → A.isSome = true) :
    Pu P w0 o σ H (.pointer (A.map (·.add (k * sz)))) := fun w hw a ha => Pu.indexAddr k ho hT hs hx hy hi hk (hA w hw) w hw a ha
theorem Does.pre {f : FuncId} {args : List Value} {R : Value → List Assn} (hs : ∀ w, St w0 H w → St w0 H' w) (h : Does P f args w0 H' R) : Does P f args w0 H R := fun w hw => h w (hs w hw)

variable {N : Nat} {Q : Exit → Act → World → Prop} {σ : Sig} {ops : Array Oper} {rest : List Oper}
theorem V.map {c : Code} (hs : ∀ w, St w0 H w → St w0 H' w) (h : V P N w0 c Q σ H') : V P N w0 c Q σ H := fun w hw a ha => h w (hs w hw) a ha
theorem O.map (hs : ∀ w, St w0 H w → St w0 H' w) (h : O P N w0 ops Q rest σ H') : O P N w0 ops Q rest σ H := fun w hw a ha => h w (hs w hw) a ha
theorem X.map {e : Exit} (hs : ∀ w, St w0 H w → St w0 H' w) (h : X N w0 Q e σ H') : X N w0 Q e σ H := fun w hw a ha => h w (hs w hw) a ha
end
end Go.Vc
/-
  Plain words: masks of points; classes: sets of disjoint blocks that have all points.
-/
namespace Go.Vc

/-! ### Masks -/
theorem bit_one (m p : Nat) : (m >>> p) &&& 1 = if m.testBit p then 1 else 0 := by
  rw [Nat.and_one_is_mod, Nat.shiftRight_eq_div_pow, Nat.testBit_eq_decide_div_mod_eq]
  have := Nat.mod_two_eq_zero_or_one (m / 2 ^ p)
  rcases this with h | h <;> simp [h]
theorem bit_is (m p : Nat) : (m >>> p) &&& 1 = 1 ↔ m.testBit p = true := by rw [bit_one]; split <;> simp_all
theorem bit_not (m p : Nat) : (m >>> p) &&& 1 = 0 ↔ m.testBit p = false := by rw [bit_one]; split <;> simp_all
def bmask (b : B3) : Nat := 2 ^ b.1.toNat + 2 ^ b.2.1.toNat + 2 ^ b.2.2.toNat
theorem three_bits {x y z : Nat} (h1 : x < y) (h2 : y < z) (i : Nat) : (2 ^ x + 2 ^ y + 2 ^ z).testBit i = decide (i = x ∨ i = y ∨ i = z) := by
  have e1 : 2 ^ x + 2 ^ y + 2 ^ z = 2 ^ z + (2 ^ y + 2 ^ x) := by omega
  have l1 : 2 ^ x < 2 ^ y := Nat.pow_lt_pow_right (by decide) h1
  have l2 : 2 ^ y + 2 ^ x < 2 ^ z := by
    have : 2 ^ (y + 1) ≤ 2 ^ z := Nat.pow_le_pow_right (by decide) h2
    rw [Nat.pow_succ] at this
    omega
  have e2 := Nat.two_pow_add_eq_or_of_lt l2 1
  have e3 := Nat.two_pow_add_eq_or_of_lt l1 1
  rw [Nat.mul_one] at e2 e3
  rw [e1, e2, e3]
  simp only [Nat.testBit_or, Nat.testBit_two_pow]
  by_cases a : i = x <;> by_cases b : i = y <;> by_cases c : i = z <;> simp [a, b, c] <;> omega
theorem bmask_bit {v : Int} {b : B3} (h : good v b) (p : Nat) : (bmask b).testBit p = true ↔ has b (p : Int) := by
  unfold good at h
  unfold bmask has
  rw [three_bits (by omega) (by omega)]
  simp only [decide_eq_true_eq]
  omega
theorem bmask_lt {b : B3} (h : good 15 b) : bmask b < 65536 := by
  unfold good at h
  unfold bmask
  have h1 : 2 ^ b.1.toNat ≤ 2 ^ 14 := Nat.pow_le_pow_right (by decide) (by omega)
  have h2 : 2 ^ b.2.1.toNat ≤ 2 ^ 14 := Nat.pow_le_pow_right (by decide) (by omega)
  have h3 : 2 ^ b.2.2.toNat ≤ 2 ^ 14 := Nat.pow_le_pow_right (by decide) (by omega)
  omega
theorem and_zero {m n : Nat} : m &&& n = 0 ↔ ∀ p, ¬ (m.testBit p = true ∧ n.testBit p = true) := by
  constructor
  · intro h p hp
    have : (m &&& n).testBit p = true := by rw [Nat.testBit_and]; simp [hp]
    rw [h] at this
    simp at this
  · intro h
    apply Nat.eq_of_testBit_eq
    intro p
    rw [Nat.testBit_and]
    have := h p
    cases h1 : m.testBit p <;> cases h2 : n.testBit p <;> simp_all
theorem and_self {m n : Nat} : m &&& n = m ↔ ∀ p, m.testBit p = true → n.testBit p = true := by
  constructor
  · intro h p hp
    rw [← h, Nat.testBit_and] at hp
    simp at hp
    exact hp.2
  · intro h
    apply Nat.eq_of_testBit_eq
    intro p
    rw [Nat.testBit_and]
    have := h p
    cases h1 : m.testBit p <;> cases h2 : n.testBit p <;> simp_all

/-- How many of the first points a mask has. -/
def cov (m : Nat) : Nat → Nat
  | 0 => 0
  | v + 1 => cov m v + (if m.testBit v then 1 else 0)
theorem cov_le (m : Nat) : ∀ v, cov m v ≤ v := by
  intro v
  induction v with
  | zero => simp [cov]
  | succ v ih => simp only [cov]; split <;> omega
theorem cov_all {m : Nat} : ∀ {v : Nat}, cov m v = v ↔ ∀ p, p < v → m.testBit p = true := by
  intro v
  induction v with
  | zero => simp [cov]
  | succ v ih =>
    have := cov_le m v
    simp only [cov]
    constructor
    · intro h p hp
      split at h
      · by_cases e : p = v
        · subst e; assumption
        · exact ih.1 (by omega) p (by omega)
      · omega
    · intro h
      rw [if_pos (h v (by omega)), ih.2 (fun p hp => h p (by omega))]
theorem cov_or {m n : Nat} (h : m &&& n = 0) : ∀ v, cov (m ||| n) v = cov m v + cov n v := by
  intro v
  induction v with
  | zero => rfl
  | succ v ih =>
    have := and_zero.1 h v
    simp only [cov, ih, Nat.testBit_or]
    cases h1 : m.testBit v <;> cases h2 : n.testBit v <;> simp_all <;> omega
theorem cov_three {n x y z : Nat} (h1 : x < y) (h2 : y < z) (hn : ∀ p, n.testBit p = decide (p = x ∨ p = y ∨ p = z)) : ∀ v, cov n v = (if x < v then 1 else 0) + (if y < v then 1 else 0) + (if z < v then 1 else 0) := by
  intro v
  induction v with
  | zero => simp [cov]
  | succ v ih =>
    simp only [cov, ih, hn, decide_eq_true_eq]
    (repeat' split) <;> omega
theorem cov_bmask {v : Int} {b : B3} (h : good v b) : cov (bmask b) v.toNat = 3 := by
  have hb := h
  unfold good at h
  unfold bmask
  rw [cov_three (x := b.1.toNat) (y := b.2.1.toNat) (z := b.2.2.toNat) (by omega) (by omega) (fun p => three_bits (by omega) (by omega) p), if_pos (by omega), if_pos (by omega), if_pos (by omega)]

theorem pow35 {n : Nat} (h : 0 < n) : 35 ^ n = 35 * 35 ^ (n - 1) := by
  cases n with
  | zero => omega
  | succ n => rw [Nat.pow_succ, Nat.mul_comm]; rfl
/-! ### Classes -/
def blk (bs : List B3) (k : Int) : B3 := bs.getD k.toNat (0, 0, 0)
theorem blk_get {bs : List B3} {i : Nat} (h : i < bs.length) : blk bs (i : Int) = bs[i] := by simp [blk, h]
def okIx (bs : List B3) (k : Int) : Prop := 0 ≤ k ∧ k < bs.length
theorem blk_ix {bs : List B3} {k : Int} (h : okIx bs k) : blk bs k = bs[k.toNat]'(by obtain ⟨h1, h2⟩ := h; omega) := by
  obtain ⟨h1, h2⟩ := h
  have h3 : k.toNat < bs.length := by omega
  simp [blk, h3]
theorem blk_mem {bs : List B3} {k : Int} (h : okIx bs k) : blk bs k ∈ bs := by
  obtain ⟨h1, h2⟩ := h
  have h3 : k.toNat < bs.length := by omega
  have : blk bs k = bs[k.toNat] := by simp [blk, h3]
  rw [this]
  exact List.getElem_mem _
def disj (a b : B3) : Prop := ∀ p, ¬ (has a p ∧ has b p)
theorem disj.symm {a b : B3} (h : disj a b) : disj b a := fun p hp => h p ⟨hp.2, hp.1⟩
theorem not_disj_self (a : B3) : ¬ disj a a := fun h => h a.1 ⟨.inl rfl, .inl rfl⟩
/-- Blocks of numbers are disjoint. -/
def Djs (bs : List B3) (r : List Int) : Prop := r.Pairwise fun i j => disj (blk bs i) (blk bs j)
structure Cls (v : Int) (bs : List B3) (r : List Int) : Prop where
  ix : ∀ k ∈ r, okIx bs k
  up : r.Pairwise (· < ·)
  dj : Djs bs r
  all : ∀ p, 0 ≤ p → p < v → ∃ k ∈ r, has (blk bs k) p
structure Part (bs : List B3) (xs : List Int) (m : Nat) : Prop where
  ix : ∀ k ∈ xs, okIx bs k
  dj : Djs bs xs
  pts : ∀ p : Nat, m.testBit p = true ↔ ∃ k ∈ xs, has (blk bs k) (p : Int)
theorem Djs.inj {bs : List B3} {r : List Int} (h : Djs bs r) {i j : Int} (hi : i ∈ r) (hj : j ∈ r) (hne : i ≠ j) : disj (blk bs i) (blk bs j) := by
  induction r with
  | nil => simp at hi
  | cons a r ih =>
    obtain ⟨h1, h2⟩ := List.pairwise_cons.1 h
    rcases List.mem_cons.1 hi with rfl | hi'
    · rcases List.mem_cons.1 hj with rfl | hj'
      · exact absurd rfl hne
      · exact h1 _ hj'
    · rcases List.mem_cons.1 hj with rfl | hj'
      · exact (h1 _ hi').symm
      · exact ih h2 hi' hj'
theorem Djs.nodup {bs : List B3} {r : List Int} (h : Djs bs r) : r.Nodup := List.Pairwise.imp (fun {a b} hd e => by subst e; exact not_disj_self _ hd) h
/-- Two lists that strictly rise and have the same members. -/
theorem rise_unique : ∀ {l m : List Int}, l.Pairwise (· < ·) → m.Pairwise (· < ·) → (∀ r, r ∈ l ↔ r ∈ m) → l = m := by
  intro l
  induction l with
  | nil =>
    intro m _ _ h
    cases m with
    | nil => rfl
    | cons b m => exact absurd ((h b).2 (by simp)) (by simp)
  | cons a l ih =>
    intro m h1 h2 h
    cases m with
    | nil => exact absurd ((h a).1 (by simp)) (by simp)
    | cons b m =>
      obtain ⟨ha, hl⟩ := List.pairwise_cons.1 h1
      obtain ⟨hb, hm⟩ := List.pairwise_cons.1 h2
      have hab : a = b := by
        rcases List.mem_cons.1 ((h a).1 (by simp)) with e | e
        · exact e
        · rcases List.mem_cons.1 ((h b).2 (by simp)) with e' | e'
          · exact e'.symm
          · have := hb a e; have := ha b e'; omega
      subst hab
      rw [ih hl hm]
      intro r
      constructor
      · intro hr
        rcases List.mem_cons.1 ((h r).1 (by simp [hr])) with e | e
        · subst e
          have := ha _ hr; omega
        · exact e
      · intro hr
        rcases List.mem_cons.1 ((h r).2 (by simp [hr])) with e | e
        · subst e
          have := hb _ hr; omega
        · exact e
theorem rise_of {l : List Int} (hs : l.Pairwise (· ≤ ·)) (hn : l.Nodup) : l.Pairwise (· < ·) := by
  have := hs.and hn
  exact this.imp (fun {a b} h => by have := h.1; have := h.2; omega)
theorem good_lt {v : Int} {b : B3} (h : good v b) {p : Int} (hp : has b p) : 0 ≤ p ∧ p < v := by
  unfold good at h
  rcases hp with e | e | e <;> omega

section
variable {v : Int} {bs : List B3} {xs ys : List Int} {m : Nat}
/-- All points are met: one class begins so. -/
theorem cls_full (hb : ∀ b ∈ bs, good v b) (hp : Part bs xs m) (hm : m = 2 ^ v.toNat - 1) (hperm : ys.Perm xs) (hs : ys.Pairwise (· ≤ ·)) (r : List Int) : r = ys ↔ Cls v bs r ∧ ∀ k ∈ xs, k ∈ r := by
  have hup : ys.Pairwise (· < ·) := rise_of hs (hperm.nodup_iff.2 hp.dj.nodup)
  have hall : ∀ p, 0 ≤ p → p < v → ∃ k ∈ xs, has (blk bs k) p := by
    intro p h0 h1
    have h2 : m.testBit p.toNat = true := by rw [hm, Nat.testBit_two_pow_sub_one]; simp; omega
    obtain ⟨k, hk, hk2⟩ := (hp.pts _).1 h2
    exact ⟨k, hk, by rwa [Int.toNat_of_nonneg h0] at hk2⟩
  constructor
  · rintro rfl
    exact ⟨⟨fun k hk => hp.ix k (hperm.mem_iff.1 hk), hup, (hperm.pairwise_iff (fun h => h.symm)).2 hp.dj, fun p h0 h1 => let ⟨k, hk, h⟩ := hall p h0 h1; ⟨k, hperm.mem_iff.2 hk, h⟩⟩, fun k hk => hperm.mem_iff.2 hk⟩
  · rintro ⟨hc, hx⟩
    refine rise_unique hc.up hup (fun k => ?_)
    rw [hperm.mem_iff]
    refine ⟨fun hk => ?_, hx k⟩
    have hg := good_lt (hb _ (blk_mem (hc.ix k hk))) (p := (blk bs k).1) (.inl rfl)
    obtain ⟨j, hj, hj2⟩ := hall _ hg.1 hg.2
    by_cases e : j = k
    · exact e ▸ hj
    · exact absurd ⟨hj2, .inl rfl⟩ (hc.dj.inj (hx j hj) hk e (blk bs k).1)
/-- A block more. -/
theorem part_snoc (hb : ∀ b ∈ bs, good v b) (hp : Part bs xs m) {i : Nat} (hi : i < bs.length) (h0 : bmask bs[i] &&& m = 0) : Part bs (xs ++ [(i : Int)]) (m ||| bmask bs[i]) := by
  have hg := hb _ (List.getElem_mem hi)
  have h0' := and_zero.1 h0
  refine ⟨?_, ?_, ?_⟩
  · intro k hk
    rcases List.mem_append.1 hk with h | h
    · exact hp.ix k h
    · simp at h; subst h; exact ⟨by omega, by omega⟩
  · refine List.pairwise_append.2 ⟨hp.dj, List.pairwise_singleton .., ?_⟩
    intro a ha b hb'
    simp at hb'
    subst hb'
    intro p hpp
    rw [blk_get hi] at hpp
    have hq := good_lt hg hpp.2
    have h1 : m.testBit p.toNat = true := (hp.pts _).2 ⟨a, ha, by rw [Int.toNat_of_nonneg hq.1]; exact hpp.1⟩
    have h2 : (bmask bs[i]).testBit p.toNat = true := (bmask_bit hg _).2 (by rw [Int.toNat_of_nonneg hq.1]; exact hpp.2)
    exact h0' _ ⟨h2, h1⟩
  · intro p
    rw [Nat.testBit_or, Bool.or_eq_true, hp.pts, bmask_bit hg]
    constructor
    · rintro (⟨k, hk, h⟩ | h)
      · exact ⟨k, by simp [hk], h⟩
      · exact ⟨i, by simp, by rw [blk_get hi]; exact h⟩
    · rintro ⟨k, hk, h⟩
      rcases List.mem_append.1 hk with hk | hk
      · exact .inl ⟨k, hk, h⟩
      · simp at hk; subst hk; rw [blk_get hi] at h; exact .inr h
/-- What is found with the first blocks that have a point. -/
def FoundC (v : Int) (bs : List B3) (xs : List Int) (p : Int) (i : Nat) (r : List Int) : Prop := Cls v bs r ∧ (∀ k ∈ xs, k ∈ r) ∧ ∃ j : Nat, j < i ∧ (j : Int) ∈ r ∧ has (blk bs j) p
theorem found_zero {p : Int} {r : List Int} : ¬ FoundC v bs xs p 0 r := by rintro ⟨_, _, j, hj, _⟩; omega
theorem found_skip {p : Int} {i : Nat} {r : List Int} (h : ∀ r, ¬ (Cls v bs r ∧ (∀ k ∈ xs, k ∈ r) ∧ (i : Int) ∈ r ∧ has (blk bs i) p)) : FoundC v bs xs p (i + 1) r ↔ FoundC v bs xs p i r := by
  constructor
  · rintro ⟨h1, h2, j, hj, h3, h4⟩
    by_cases e : j = i
    · subst e
      exact absurd ⟨h1, h2, h3, h4⟩ (h r)
    · exact ⟨h1, h2, j, by omega, h3, h4⟩
  · rintro ⟨h1, h2, j, hj, h3⟩
    exact ⟨h1, h2, j, by omega, h3⟩
theorem found_succ {p : Int} {i : Nat} {r : List Int} (hh : has (blk bs i) p) : FoundC v bs xs p (i + 1) r ↔ FoundC v bs xs p i r ∨ (Cls v bs r ∧ ∀ k ∈ xs ++ [(i : Int)], k ∈ r) := by
  constructor
  · rintro ⟨h1, h2, j, hj, h3, h4⟩
    by_cases e : j = i
    · subst e
      refine .inr ⟨h1, fun k hk => ?_⟩
      rcases List.mem_append.1 hk with h | h
      · exact h2 k h
      · simp at h; subst h; exact h3
    · exact .inl ⟨h1, h2, j, by omega, h3, h4⟩
  · rintro (⟨h1, h2, j, hj, h3⟩ | ⟨h1, h2⟩)
    · exact ⟨h1, h2, j, by omega, h3⟩
    · exact ⟨h1, fun k hk => h2 k (by simp [hk]), i, by omega, h2 i (by simp), hh⟩
theorem found_all {p : Nat} (hv : (p : Int) < v) {r : List Int} : FoundC v bs xs (p : Int) bs.length r ↔ Cls v bs r ∧ ∀ k ∈ xs, k ∈ r := by
  constructor
  · rintro ⟨h1, h2, _⟩
    exact ⟨h1, h2⟩
  · rintro ⟨h1, h2⟩
    obtain ⟨k, hk, h3⟩ := h1.all p (by omega) hv
    have hk2 := h1.ix k hk
    have hk3 : ((k.toNat : Nat) : Int) = k := Int.toNat_of_nonneg hk2.1
    exact ⟨h1, h2, k.toNat, by have := hk2.2; omega, by rw [hk3]; exact hk, by rw [hk3]; exact h3⟩
/-- A block that meets those there are leads nowhere. -/
theorem found_meets (hb : ∀ b ∈ bs, good v b) (hp : Part bs xs m) {p i : Nat} (hi : i < bs.length) (hpm : m.testBit p = false) (h0 : ¬ bmask bs[i] &&& m = 0) (r : List Int) : ¬ (Cls v bs r ∧ (∀ k ∈ xs, k ∈ r) ∧ (i : Int) ∈ r ∧ has (blk bs i) (p : Int)) := by
  rintro ⟨h1, h2, h3, h4⟩
  apply h0
  rw [and_zero]
  rintro q ⟨hq1, hq2⟩
  have hg := hb _ (List.getElem_mem hi)
  obtain ⟨k, hk, hk2⟩ := (hp.pts q).1 hq2
  have hq3 := (bmask_bit hg q).1 hq1
  by_cases e : k = (i : Int)
  · subst e
    have : m.testBit p = true := (hp.pts p).2 ⟨_, hk, h4⟩
    rw [hpm] at this
    cases this
  · exact h1.dj.inj (h2 k hk) h3 e _ ⟨hk2, by rw [blk_get hi]; exact hq3⟩
theorem part_nil : Part bs [] 0 := ⟨by simp, List.Pairwise.nil, by simp⟩
/-- Points are left. -/
theorem part_left (hb : ∀ b ∈ bs, good v b) (hp : Part bs xs m) (hm : ¬ m = 2 ^ v.toNat - 1) {p : Nat} (h : ∀ q, q < p → m.testBit q = true) : (p : Int) < v := by
  rcases Int.lt_or_le (p : Int) v with h1 | h1
  · exact h1
  · exfalso
    apply hm
    apply Nat.eq_of_testBit_eq
    intro q
    rw [Nat.testBit_two_pow_sub_one]
    by_cases hq : q < v.toNat
    · rw [h q (by omega)]; simp [hq]
    · simp only [hq, decide_false]
      cases hc : m.testBit q with
      | false => rfl
      | true =>
        obtain ⟨k, hk, hk2⟩ := (hp.pts q).1 hc
        have := good_lt (hb _ (blk_mem (hp.ix k hk))) hk2
        omega
theorem part_pos (hb : ∀ b ∈ bs, good v b) (hp : Part bs xs m) (hm : ¬ m = 2 ^ v.toNat - 1) (hv : 0 ≤ v) : cov m v.toNat < v.toNat := by
  have h1 := cov_le m v.toNat
  rcases Nat.lt_or_ge (cov m v.toNat) v.toNat with h | h
  · exact h
  · have h2 := cov_all.1 (Nat.le_antisymm h1 h)
    have := part_left hb hp hm h2
    omega
theorem cov_snoc (hb : ∀ b ∈ bs, good v b) {i : Nat} (hi : i < bs.length) (h0 : bmask bs[i] &&& m = 0) : cov (m ||| bmask bs[i]) v.toNat = cov m v.toNat + 3 := by
  rw [cov_or (by rw [Nat.and_comm]; exact h0), cov_bmask (hb _ (List.getElem_mem hi))]
theorem mask_inside (hb : ∀ b ∈ bs, good v b) {i : Nat} (hi : i < bs.length) : bmask bs[i] &&& (2 ^ v.toNat - 1) = bmask bs[i] := by
  rw [and_self]
  intro p hp
  have hg := hb _ (List.getElem_mem hi)
  have := good_lt hg ((bmask_bit hg p).1 hp)
  rw [Nat.testBit_two_pow_sub_one]
  simp
  omega
end

/-! ### Extensions: sets of so many disjoint blocks that begin with some -/
def meets (b c : B3) : Prop := has c b.1 ∨ has c b.2.1 ∨ has c b.2.2
instance (b c : B3) : Decidable (meets b c) := inferInstanceAs (Decidable (_ ∨ _ ∨ _))
theorem meets_disj {b c : B3} : ¬ meets b c ↔ disj b c := by
  unfold meets disj
  constructor
  · intro h p ⟨h1, h2⟩
    rcases h1 with e | e | e
    · exact h (.inl (e ▸ h2))
    · exact h (.inr (.inl (e ▸ h2)))
    · exact h (.inr (.inr (e ▸ h2)))
  · intro h h'
    rcases h' with e | e | e
    · exact h _ ⟨.inl rfl, e⟩
    · exact h _ ⟨.inr (.inl rfl), e⟩
    · exact h _ ⟨.inr (.inr rfl), e⟩
structure Dj (bs : List B3) (r : List Int) : Prop where
  ix : ∀ k ∈ r, okIx bs k
  up : r.Pairwise (· < ·)
  dj : Djs bs r
def Ext (bs : List B3) (now : List Int) (many : Nat) (r : List Int) : Prop := Dj bs r ∧ now <+: r ∧ r.length = many
def ExtB (bs : List B3) (now : List Int) (many i : Nat) (r : List Int) : Prop := Ext bs now many r ∧ ∃ j : Nat, j < i ∧ (now ++ [(j : Int)]) <+: r
section
variable {bs : List B3} {now : List Int} {many i : Nat}
theorem ext_self (h : Dj bs now) (hl : now.length = many) : IsList (Ext bs now many) [now] := by
  refine ⟨List.pairwise_singleton .., fun r => ?_⟩
  rw [List.mem_singleton]
  constructor
  · rintro rfl
    exact ⟨h, List.prefix_refl _, hl⟩
  · rintro ⟨_, h2, h3⟩
    exact (h2.eq_of_length (by omega)).symm
/-- Where the search begins. -/
def fromOf (now : List Int) : Int := match now.getLast? with | some k => k + 1 | none => 0
theorem fromOf_pos {now : List Int} (h : 0 < now.length) : fromOf now = now[now.length - 1] + 1 := by
  unfold fromOf
  rw [List.getLast?_eq_getElem?, List.getElem?_eq_getElem (by omega)]
theorem fromOf_nil {now : List Int} (h : now.length = 0) : fromOf now = 0 := by
  have := List.eq_nil_of_length_eq_zero h
  subst this
  rfl
theorem fromOf_nonneg (h : Dj bs now) : 0 ≤ fromOf now ∧ fromOf now ≤ bs.length := by
  rcases Nat.eq_zero_or_pos now.length with h1 | h1
  · rw [fromOf_nil h1]; omega
  · rw [fromOf_pos h1]
    have := h.ix _ (List.getElem_mem (l := now) (n := now.length - 1) (by omega))
    unfold okIx at this
    omega
theorem last_lt (h : now.Pairwise (· < ·)) {j : Int} : (now ++ [j]).Pairwise (· < ·) ↔ (0 < now.length → fromOf now ≤ j) := by
  rw [List.pairwise_append]
  constructor
  · rintro ⟨_, _, h3⟩ hp
    rw [fromOf_pos hp]
    have := h3 _ (List.getElem_mem (l := now) (n := now.length - 1) (by omega)) j (by simp)
    omega
  · intro h2
    refine ⟨h, List.pairwise_singleton .., ?_⟩
    intro a ha b hb
    simp at hb
    subst hb
    obtain ⟨k, hk, rfl⟩ := List.getElem_of_mem ha
    have h3 := h2 (by omega)
    rw [fromOf_pos (by omega)] at h3
    by_cases e : k = now.length - 1
    · subst e; omega
    · have := List.pairwise_iff_getElem.1 h k (now.length - 1) hk (by omega) (by omega)
      omega
theorem extB_from (h : Dj bs now) {f : Nat} (hf : (f : Int) = fromOf now) {r : List Int} : ¬ ExtB bs now many f r := by
  rintro ⟨⟨h1, _, _⟩, j, hj, h2⟩
  have h3 := h1.up.sublist h2.sublist
  have h4 := (last_lt h.up).1 h3
  rcases Nat.eq_zero_or_pos now.length with h5 | h5
  · rw [fromOf_nil h5] at hf; omega
  · have := h4 h5; omega
theorem dj_snoc (h : Dj bs now) (hi : i < bs.length) (hf : fromOf now ≤ i) (hm : ∀ k ∈ now, ¬ meets (blk bs k) (blk bs i)) : Dj bs (now ++ [(i : Int)]) := by
  refine ⟨fun k hk => ?_, (last_lt h.up).2 (fun _ => hf), ?_⟩
  · rcases List.mem_append.1 hk with h1 | h1
    · exact h.ix k h1
    · simp at h1; subst h1; exact ⟨by omega, by omega⟩
  · refine List.pairwise_append.2 ⟨h.dj, List.pairwise_singleton .., ?_⟩
    intro a ha b hb
    simp at hb
    subst hb
    exact meets_disj.1 (hm a ha)
theorem extB_skip (h : ∃ k ∈ now, meets (blk bs k) (blk bs i)) (hn : ∀ k ∈ now, k < i) {r : List Int} : ExtB bs now many (i + 1) r ↔ ExtB bs now many i r := by
  constructor
  · rintro ⟨h1, j, hj, h2⟩
    refine ⟨h1, j, ?_, h2⟩
    by_cases e : j = i
    · subst e
      exfalso
      obtain ⟨k, hk, hm⟩ := h
      have h3 := h1.1.dj.sublist h2.sublist
      have h4 := (List.pairwise_append.1 h3).2.2 k hk j (by simp)
      exact meets_disj.2 h4 hm
    · omega
  · rintro ⟨h1, j, hj, h2⟩
    exact ⟨h1, j, by omega, h2⟩
theorem extB_succ {r : List Int} : ExtB bs now many (i + 1) r ↔ ExtB bs now many i r ∨ Ext bs (now ++ [(i : Int)]) many r := by
  constructor
  · rintro ⟨h1, j, hj, h2⟩
    by_cases e : j = i
    · subst e
      exact .inr ⟨h1.1, h2, h1.2.2⟩
    · exact .inl ⟨h1, j, by omega, h2⟩
  · rintro (⟨h1, j, hj, h2⟩ | ⟨h1, h2, h3⟩)
    · exact ⟨h1, j, by omega, h2⟩
    · exact ⟨⟨h1, (List.prefix_append _ _).trans h2, h3⟩, i, by omega, h2⟩
theorem ltL_prefix {now a b : List Int} {i j : Int} (hij : j < i) (ha : (now ++ [j]) <+: a) (hb : (now ++ [i]) <+: b) : ltL a b := by
  obtain ⟨a', rfl⟩ := ha
  obtain ⟨b', rfl⟩ := hb
  induction now with
  | nil => exact ltL_cons.2 (.inl hij)
  | cons x now ih => exact ltL_cons.2 (.inr ⟨rfl, ih⟩)
theorem extB_list {ls ls' : List (List Int)} (h1 : IsList (ExtB bs now many i) ls) (h2 : IsList (Ext bs (now ++ [(i : Int)]) many) ls') : IsList (ExtB bs now many (i + 1)) (ls ++ ls') := by
  refine ⟨List.pairwise_append.2 ⟨h1.1, h2.1, ?_⟩, fun r => ?_⟩
  · intro a ha b hb
    obtain ⟨_, j, hj, h3⟩ := (h1.2 a).1 ha
    exact ltL_prefix (by omega) h3 ((h2.2 b).1 hb).2.1
  · rw [List.mem_append, h1.2, h2.2, extB_succ]
theorem extB_all (hn : now.length < many) {r : List Int} : ExtB bs now many bs.length r ↔ Ext bs now many r := by
  constructor
  · exact fun h => h.1
  · rintro ⟨h1, h2, h3⟩
    refine ⟨⟨h1, h2, h3⟩, ?_⟩
    obtain ⟨t, rfl⟩ := h2
    cases t with
    | nil => simp at h3; omega
    | cons k t =>
      have hk := h1.ix k (by simp)
      have hk3 : ((k.toNat : Nat) : Int) = k := Int.toNat_of_nonneg hk.1
      refine ⟨k.toNat, by have := hk.2; omega, ?_⟩
      rw [hk3]
      exact ⟨t, by simp⟩
theorem below_from (h : Dj bs now) {j : Int} (hf : fromOf now ≤ j) : ∀ k ∈ now, k < j := by
  intro k hk
  have h1 := (last_lt h.up (j := j)).2 (fun _ => hf)
  exact (List.pairwise_append.1 h1).2.2 k hk j (by simp)
theorem dj_nil : Dj bs [] := ⟨by simp, List.Pairwise.nil, List.Pairwise.nil⟩
/-- The mask of a set of blocks. -/
def maskOf (bs : List B3) : List Int → Nat
  | [] => 0
  | k :: r => bmask (blk bs k) ||| maskOf bs r
theorem maskOf_bit {v : Int} (hb : ∀ b ∈ bs, good v b) {r : List Int} (hr : ∀ k ∈ r, okIx bs k) (p : Nat) : (maskOf bs r).testBit p = true ↔ ∃ k ∈ r, has (blk bs k) (p : Int) := by
  induction r with
  | nil => simp [maskOf]
  | cons k r ih =>
    simp only [maskOf, Nat.testBit_or, Bool.or_eq_true, ih (fun k hk => hr k (by simp [hk])), bmask_bit (hb _ (blk_mem (hr k (by simp)))), List.mem_cons]
    constructor
    · rintro (h | ⟨j, hj, h⟩)
      · exact ⟨k, .inl rfl, h⟩
      · exact ⟨j, .inr hj, h⟩
    · rintro ⟨j, rfl | hj, h⟩
      · exact .inl h
      · exact .inr ⟨j, hj, h⟩
theorem maskOf_cov {v : Int} (hb : ∀ b ∈ bs, good v b) {r : List Int} (hr : ∀ k ∈ r, okIx bs k) (hd : Djs bs r) : cov (maskOf bs r) v.toNat = 3 * r.length := by
  induction r with
  | nil =>
    have : ∀ n, cov 0 n = 0 := by
      intro n
      induction n with
      | zero => rfl
      | succ n ih => simp [cov, ih]
    simp [maskOf, this]
  | cons k r ih =>
    obtain ⟨h1, h2⟩ := List.pairwise_cons.1 hd
    have hr' : ∀ k ∈ r, okIx bs k := fun k hk => hr k (by simp [hk])
    have hk := hb _ (blk_mem (hr k (by simp)))
    have h0 : bmask (blk bs k) &&& maskOf bs r = 0 := by
      rw [and_zero]
      rintro p ⟨hp1, hp2⟩
      obtain ⟨j, hj, h3⟩ := (maskOf_bit hb hr' p).1 hp2
      exact h1 j hj _ ⟨(bmask_bit hk p).1 hp1, h3⟩
    simp only [maskOf, cov_or h0, ih hr' h2, cov_bmask hk, List.length_cons]
    omega
/-- Classes are the sets of a third of the points as many disjoint blocks. -/
theorem cls_count {v : Int} (hb : ∀ b ∈ bs, good v b) (hv : 0 ≤ v) (r : List Int) : Cls v bs r ↔ Dj bs r ∧ 3 * r.length = v.toNat := by
  have key : ∀ h : Dj bs r, (3 * r.length = v.toNat ↔ ∀ p : Int, 0 ≤ p → p < v → ∃ k ∈ r, has (blk bs k) p) := by
    intro h
    rw [← maskOf_cov hb h.ix h.dj, cov_all]
    constructor
    · intro h1 p h2 h3
      have := (maskOf_bit hb h.ix _).1 (h1 p.toNat (by omega))
      rwa [Int.toNat_of_nonneg h2] at this
    · intro h1 p hp
      exact (maskOf_bit hb h.ix p).2 (h1 p (by omega) (by omega))
  constructor
  · intro h
    have hd : Dj bs r := ⟨h.ix, h.up, h.dj⟩
    exact ⟨hd, (key hd).2 h.all⟩
  · rintro ⟨hd, h2⟩
    exact ⟨hd.ix, hd.up, hd.dj, (key hd).1 h2⟩
theorem cls_ext {v : Int} (hb : ∀ b ∈ bs, good v b) (hv : 0 ≤ v) (h3 : v % 3 = 0) {l : List (List Int)} (h : IsList (Ext bs [] (v / 3).toNat) l) : IsList (Cls v bs) l := by
  refine ⟨h.1, fun r => ?_⟩
  rw [h.2 r, cls_count hb hv]
  unfold Ext
  simp only [List.nil_prefix, true_and]
  constructor
  · rintro ⟨h1, h2⟩
    exact ⟨h1, by omega⟩
  · rintro ⟨h1, h2⟩
    exact ⟨h1, by omega⟩
theorem cls_none {v : Int} (hb : ∀ b ∈ bs, good v b) (hv : 0 ≤ v) (h3 : ¬ v % 3 = 0) : IsList (Cls v bs) [] := by
  refine ⟨List.Pairwise.nil, fun r => ?_⟩
  rw [cls_count hb hv]
  simp
  intro _
  omega
end
end Go.Vc
/-
  The calculus, part 9: a part of an element of an owned row is written; rows taken out and put back; the marks of the laws.
-/
namespace Go.Vc
open Go Go.RowKit

section
variable {P : Program} {w0 w : World} {H H' : List Assn} {α : Type} {T : TypeId} {C : Cod α} {Q : Exit → Act → World → Prop} {σ : Sig} {o : Oper}

theorem flat_set (C : Cod α) (xs : List α) (k j : Nat) (u : Value) (y : α) (hk : k < xs.length) (hj : j < C.sz) (hy : C.enc y = (C.enc xs[k]).set j u) : (xs.flatMap C.enc).set (k * C.sz + j) u = (xs.set k y).flatMap C.enc := by
  induction xs generalizing k with
  | nil => simp at hk
  | cons x xs ih =>
    cases k with
    | zero =>
      simp only [Nat.zero_mul, Nat.zero_add, List.flatMap_cons, List.set_cons_zero]
      rw [List.set_append_left _ _ (by rw [C.len]; exact hj)]
      simp only [List.getElem_cons_zero] at hy
      rw [hy]
    | succ k =>
      simp only [List.flatMap_cons, List.set_cons_succ]
      rw [List.set_append_right _ _ (by rw [C.len, Nat.add_mul]; omega), C.len]
      have : (k + 1) * C.sz + j - C.sz = k * C.sz + j := by rw [Nat.add_mul]; omega
      rw [this, ih k (by simpa using hk) (by simpa using hy)]

/-- A store into part j of element k of an owned row. -/
theorem Ef.storeOwnAt {T e s c : Nat} {x y : Operand} {v : Value} {A : Option Addr} {xs : List α} (i : Nat) (k j : Nat) (u : α) (ho : o.op = .store T x y) (hs : Sz P T 1) (hx : ev σ x = some (.pointer ((A.map (·.add (k * s))).map (·.add j)))) (hy : ev σ y = some v)
    (hp : pull i H = some (Own e C A c xs, H')) (hsz : s = C.sz) (hk : k < xs.length) (hj : j < C.sz) (hv : v.cells = #[v]) (h1v : v.oneCell' = true) (hu : C.enc u = (C.enc xs[k]).set j v) :
    Ef P w0 o σ H Q (fun _ H'' => H'' = repl i H (Own e C A c (xs.set k u))) := by
  intro w hw a ha
  have h1' := ha x (by simp [ho, Op.operands]) _ hx
  have h2' := ha y (by simp [ho, Op.operands]) _ hy
  subst hsz
  have hw2 := hw.perm (pull_perm hp)
  obtain ⟨F, ho', hF⟩ := hw.get i hp
  rcases ho'.2 with ⟨h1, h2⟩ | ⟨g, cap, cur, hvv, hbase, hh, hle, hmax, hcs, htake⟩
  · omega
  · have hA : A = some ⟨g, 0, none⟩ := by injection hvv
    have hcap : c = cap := by injection hvv
    subst hA
    have hkc : k * C.sz + j < xs.length * C.sz := by
      have : (k + 1) * C.sz ≤ xs.length * C.sz := Nat.mul_le_mul_right _ (by omega)
      rw [Nat.add_mul] at this
      omega
    have hn : xs.length * C.sz ≤ cur.size := by rw [hcs]; exact Nat.mul_le_mul_right _ hle
    have hst := run_storeCells_at P g (k * C.sz + j) e [v] 0 cur w hh (by simp; omega) (by simpa using h1v)
    simp only [Nat.add_zero] at hst
    have hrun : (execOp a.eval o).run P w = .ok .skip (w.setRow g (cur.toList.take (k * C.sz + j) ++ [v] ++ cur.toList.drop (k * C.sz + j + [v].length)).toArray) := by
      simp [execOp, ho, h1', h2', Instr.storeAt, Instr.sureAddr, storeVar, run_sz hs, hv, add_mk, hst]
    have hset : cur.toList.take (k * C.sz + j) ++ [v] ++ cur.toList.drop (k * C.sz + j + [v].length) = cur.toList.set (k * C.sz + j) v := by
      rw [List.set_eq_take_append_cons_drop, if_pos (by simp; omega)]
      simp
    rw [hset] at hrun
    unfold Oper.wp
    rw [hrun]
    refine ⟨undef, _, rfl, ?_, rfl⟩
    refine St.perm ?_ (repl_perm hp)
    refine hw2.upd (B := Own e C (some ⟨g, 0, none⟩) c (xs.set k u)) ?_
    rintro F2 ⟨ho2, hF2⟩ hb
    refine ⟨⟨rfl, rfl, rfl, by simp [World.setRow], fun m _ hm => setRow_other w g m _ (fun e1 => hm ((hF2 m).2 (by subst e1; rfl))), Nat.le_refl _⟩, F2, ⟨⟨?_, .inr ⟨g, cap, _, ?_, Nat.zero_le _, setRow_heap w g cur _ e _ hh, ?_, hmax, ?_, ?_⟩⟩, ?_⟩, ?_⟩
    · rw [length_flatMap_enc]
    · rw [hcap]
    · simpa using hle
    · simpa using hcs
    · rw [List.length_set, List.take_set, htake]
      exact flat_set C xs k j v u hk hj hu
    · intro m
      rw [hF2 m]
      simp
    · intro m hm
      exact ⟨.inl hm, by have := (hb m hm).2; simpa [World.setRow] using this⟩

theorem Pu.indexArr' {T : TypeId} {x y : Operand} {p : Option Addr} {e sz n : Nat} {K : IntKind} {i : Int} (k : Nat) (ho : o.op = .indexAddr T x y) (hT : P.underlying T = some (.array n e)) (hs : Sz P e sz) (hx : ev σ x = some (.pointer p)) (hy : ev σ y = some (.int K i)) (hi : i = (k : Int)) (hk : k < n) (h1 : sz = 1) (hp : ∀ w, St w0 H w → p.isSome = true) :
    Pu P w0 o σ H (.pointer (p.map (·.add k))) := by
  intro w hw a ha
  have h1' := ha x (by simp [ho, Op.operands]) _ hx
  have h2 := ha y (by simp [ho, Op.operands]) _ hy
  obtain ⟨q, rfl⟩ := Option.isSome_iff_exists.1 (hp w hw)
  subst hi
  subst h1
  simp [execOp, ho, h1', h2, Instr.indexAt, Instr.sureAddr, asIntOf, run_underlying hT, run_sz hs, hk]

/-! ### Marks -/
def marks (m : Int) (n : Nat) : List Int := (List.range n).map fun i => m + (i : Nat)
theorem marks_len (m : Int) (n : Nat) : (marks m n).length = n := by simp [marks]
theorem marks_get (m : Int) (n : Nat) {k : Nat} (hk : k < (marks m n).length) : (marks m n)[k] = m + k := by simp [marks]
def markAt (xs : List Int) (m : Int) (k : Nat) : List Int := marks m k ++ xs.drop k
theorem markAt_zero (xs : List Int) (m : Int) : markAt xs m 0 = xs := by simp [markAt, marks]
theorem markAt_len {xs : List Int} {m : Int} {k : Nat} (h : k ≤ xs.length) : (markAt xs m k).length = xs.length := by simp [markAt, marks_len]; omega
theorem markAt_set {xs : List Int} {m : Int} {k : Nat} (h : k < xs.length) : (markAt xs m k).set k (m + k) = markAt xs m (k + 1) := by
  unfold markAt
  rw [List.set_append_right _ _ (by rw [marks_len]; exact Nat.le_refl _), marks_len, Nat.sub_self, drop_cons h, List.set_cons_zero]
  unfold marks
  rw [List.range_succ, List.map_append, List.append_assoc]
  rfl
theorem markAt_all {xs : List Int} {m : Int} {k : Nat} (h : k = xs.length) : markAt xs m k = marks m xs.length := by
  subst h
  simp [markAt]
/-- The marks of a list of lists. -/
def sumLen : List (Sl × List Int) → Nat
  | [] => 0
  | p :: r => p.2.length + sumLen r
def markL : Int → List (Sl × List Int) → List (Sl × List Int)
  | _, [] => []
  | m, p :: r => (p.1, marks m p.2.length) :: markL (m + p.2.length) r
theorem markL_tops : ∀ (ps : List (Sl × List Int)) (m : Int), tops (markL m ps) = tops ps := by
  intro ps
  induction ps with
  | nil => intro m; rfl
  | cons p ps ih => intro m; simp only [tops, markL, List.map_cons] at *; rw [ih]
theorem markL_len (m : Int) (ps : List (Sl × List Int)) : (markL m ps).length = ps.length := by rw [← tops_len, markL_tops, tops_len]
theorem sumLen_append : ∀ (ps qs : List (Sl × List Int)), sumLen (ps ++ qs) = sumLen ps + sumLen qs := by
  intro ps
  induction ps with
  | nil => intro qs; simp [sumLen]
  | cons p ps ih => intro qs; simp only [List.cons_append, sumLen, ih]; omega
theorem markL_append : ∀ (ps qs : List (Sl × List Int)) (m : Int), markL m (ps ++ qs) = markL m ps ++ markL (m + sumLen ps) qs := by
  intro ps
  induction ps with
  | nil => intro qs m; simp [markL, sumLen]
  | cons p ps ih =>
    intro qs m
    simp only [List.cons_append, markL, sumLen, ih]
    congr 3
    push_cast
    omega
theorem sumLen_take {ps : List (Sl × List Int)} {k : Nat} (hk : k < ps.length) : sumLen (ps.take (k + 1)) = sumLen (ps.take k) + (ps[k]).2.length := by rw [take_snoc hk, sumLen_append]; simp [sumLen]
theorem markL_take {ps : List (Sl × List Int)} {k : Nat} (hk : k < ps.length) (m : Int) : markL m (ps.take (k + 1)) = markL m (ps.take k) ++ [((ps[k]).1, marks (m + sumLen (ps.take k)) (ps[k]).2.length)] := by rw [take_snoc hk, markL_append]; rfl
theorem sumLen_le {ps : List (Sl × List Int)} {k : Nat} : sumLen (ps.take k) ≤ sumLen ps := by
  have := sumLen_append (ps.take k) (ps.drop k)
  rw [List.take_append_drop] at this
  omega
theorem markL_get {ps : List (Sl × List Int)} {k : Nat} (m : Int) (hk : k < ps.length) (hk' : k < (markL m ps).length) : (markL m ps)[k] = ((ps[k]).1, marks (m + sumLen (ps.take k)) (ps[k]).2.length) := by
  have h1 := markL_append (ps.take (k + 1)) (ps.drop (k + 1)) m
  rw [List.take_append_drop, markL_take hk] at h1
  have h2 : (markL m (ps.take k)).length = k := by rw [markL_len, List.length_take]; omega
  apply Option.some.inj
  rw [← List.getElem?_eq_getElem hk', h1, List.append_assoc, List.getElem?_append_right (by omega), h2]
  simp
theorem sumLen_bound {ps : List (Sl × List Int)} {M : Nat} (h : ∀ q ∈ conts ps, q.length ≤ M) : sumLen ps ≤ ps.length * M := by
  induction ps with
  | nil => simp [sumLen]
  | cons p ps ih =>
    have h1 := h p.2 (by simp [conts])
    have h2 := ih (fun q hq => h q (by simp only [conts, List.map_cons, List.mem_cons] at *; exact .inr hq))
    simp only [sumLen, List.length_cons, Nat.add_mul, Nat.one_mul]
    omega
theorem Ld.llm {T2 c i j : Nat} {A : Option Addr} {ps : List (Sl × List Int)} {m : Int} {H2 : List Assn} (hp : pull i H = some (Own T2 SlC A c (tops ps), H')) (hq : pull j H = some (RowsA T I64 (markL m ps), H2)) : ∀ w, St w0 H w → RdL I64 w A (markL m ps) := by
  rw [← markL_tops ps m] at hp
  exact Ld.ll i j hp hq
/-- A row is taken out. -/
theorem row_out {ps qs : List (Sl × List α)} {k : Nat} (hk : k < ps.length) (hw : St w0 (RowsA T C (qs ++ ps.drop k) :: H) w) : St w0 (Own T C (ps[k]).1.A (ps[k]).1.c (ps[k]).2 :: RowsA T C (qs ++ ps.drop (k + 1)) :: H) w := by
  rw [drop_cons hk] at hw
  exact (RowsA.uncons (s := (ps[k]).1) (xs := (ps[k]).2) (RowsA.perm List.perm_middle hw)).2
/-- .. and another put in. -/
theorem row_in {ps qs : List (Sl × List α)} {s : Sl} {xs : List α} (hn : s.n = xs.length) (hw : St w0 (Own T C s.A s.c xs :: RowsA T C (qs ++ ps) :: H) w) : St w0 (RowsA T C ((qs ++ [(s, xs)]) ++ ps) :: H) w := by
  have h1 := RowsA.cons hw
  have h2 : (⟨s.A, xs.length, s.c⟩ : Sl) = s := by rw [← hn]
  rw [h2] at h1
  rw [List.append_assoc]
  exact RowsA.perm List.perm_middle.symm h1
end
end Go.Vc
/-
  Plain words: sets of points as masks: how many, which; blocks inside, blocks met.
-/
namespace Go.Vc

/-- How many bits a number has. -/
def ones (m : Nat) : Nat := if h : m = 0 then 0 else m % 2 + ones (m / 2)
termination_by m
decreasing_by omega
theorem ones_zero : ones 0 = 0 := by unfold ones; simp
theorem ones_step {m : Nat} (h : 0 < m) : ones m = m % 2 + ones (m / 2) := by
  rw [ones, dif_neg (by omega)]
theorem ones_le (m : Nat) : ones m ≤ m := by
  induction m using Nat.strongRecOn with
  | _ m ih =>
    by_cases h : m = 0
    · subst h; simp [ones_zero]
    · rw [ones_step (by omega)]
      have := ih (m / 2) (by omega)
      omega
theorem cov_half (m : Nat) : ∀ v, cov m (v + 1) = m % 2 + cov (m / 2) v := by
  intro v
  induction v with
  | zero =>
    simp only [cov, Nat.zero_add, Nat.add_zero]
    rw [Nat.testBit_zero]
    have := Nat.mod_two_eq_zero_or_one m
    rcases this with h | h <;> simp [h]
  | succ v ih =>
    rw [cov, ih, cov, Nat.testBit_succ]
    omega
theorem cov_ones : ∀ {v m : Nat}, m < 2 ^ v → cov m v = ones m := by
  intro v
  induction v with
  | zero =>
    intro m h
    have : m = 0 := by simpa using h
    subst this
    rw [ones_zero]; rfl
  | succ v ih =>
    intro m h
    rw [cov_half, ih (by rw [Nat.pow_succ] at h; omega)]
    by_cases h0 : m = 0
    · subst h0; simp [ones_zero]
    · exact (ones_step (by omega)).symm
/-- What the word-wise count gives, step by step. -/
def st1 (x : Nat) : Nat := Nat.add (Nat.land (Nat.shiftRight x 1) 6148914691236517205) (Nat.land x 6148914691236517205)
def st2 (x : Nat) : Nat := Nat.add (Nat.land (Nat.shiftRight x 2) 3689348814741910323) (Nat.land x 3689348814741910323)
def st3 (x : Nat) : Nat := Nat.land (Nat.add (Nat.shiftRight x 4) x) 1085102592571150095
def st4 (x : Nat) : Nat := Nat.add x (Nat.shiftRight x 8)
def st5 (x : Nat) : Nat := Nat.add x (Nat.shiftRight x 16)
def st6 (x : Nat) : Nat := Nat.add x (Nat.shiftRight x 32)
def c64 (x : Nat) : Nat := Nat.land (st6 (st5 (st4 (st3 (st2 (st1 x)))))) 127
theorem shr_le (x k : Nat) : Nat.shiftRight x k ≤ x := by
  have : Nat.shiftRight x k = x / 2 ^ k := Nat.shiftRight_eq_div_pow x k
  rw [this]
  exact Nat.div_le_self _ _
theorem land_le (x y : Nat) : Nat.land x y ≤ x := Nat.and_le_left
theorem nadd (a b : Nat) : Nat.add a b = a + b := rfl
theorem st1_le (x : Nat) : st1 x ≤ 2 * x := by
  have h1 := land_le (Nat.shiftRight x 1) 6148914691236517205
  have h2 := land_le x 6148914691236517205
  have h3 := shr_le x 1
  unfold st1
  rw [nadd]
  omega
theorem st2_le (x : Nat) : st2 x ≤ 2 * x := by
  have h1 := land_le (Nat.shiftRight x 2) 3689348814741910323
  have h2 := land_le x 3689348814741910323
  have h3 := shr_le x 2
  unfold st2
  rw [nadd]
  omega
theorem st3_le (x : Nat) : st3 x ≤ 2 * x := by
  have h1 := land_le (Nat.add (Nat.shiftRight x 4) x) 1085102592571150095
  have h3 := shr_le x 4
  unfold st3
  rw [nadd] at *
  omega
theorem st4_le (x : Nat) : st4 x ≤ 2 * x := by
  have h3 := shr_le x 8
  unfold st4
  rw [nadd]
  omega
theorem st5_le (x : Nat) : st5 x ≤ 2 * x := by
  have h3 := shr_le x 16
  unfold st5
  rw [nadd]
  omega
theorem st6_le (x : Nat) : st6 x ≤ 2 * x := by
  have h3 := shr_le x 32
  unfold st6
  rw [nadd]
  omega
theorem and_add_lt {x k c B : Nat} (h : 2 * x < B) : ((x >>> k) &&& c) + (x &&& c) < B := by
  have h1 : (x >>> k) &&& c ≤ x >>> k := Nat.and_le_left
  have h2 : x &&& c ≤ x := Nat.and_le_left
  have h3 : x >>> k ≤ x := shr_le x k
  omega
theorem shr_add_lt {x k B : Nat} (h : 2 * x < B) : (x >>> k) + x < B := by
  have h3 : x >>> k ≤ x := shr_le x k
  omega
theorem add_shr_lt {x k B : Nat} (h : 2 * x < B) : x + (x >>> k) < B := by
  have h3 : x >>> k ≤ x := shr_le x k
  omega
def covB (m : Nat) : Nat → Nat
  | 0 => 0
  | v + 1 => covB m v + (m >>> v) % 2
theorem covB_eq (m : Nat) : ∀ v, covB m v = cov m v := by
  intro v
  induction v with
  | zero => rfl
  | succ v ih =>
    simp only [cov, covB, ih]
    congr 1
    rw [← Nat.and_one_is_mod, bit_one]
def cB (m : Nat) : Nat := Nat.add (Nat.mod m 2) (Nat.add (Nat.mod (Nat.shiftRight m 1) 2) (Nat.add (Nat.mod (Nat.shiftRight m 2) 2) (Nat.add (Nat.mod (Nat.shiftRight m 3) 2) (Nat.add (Nat.mod (Nat.shiftRight m 4) 2) (Nat.add (Nat.mod (Nat.shiftRight m 5) 2) (Nat.add (Nat.mod (Nat.shiftRight m 6) 2) (Nat.add (Nat.mod (Nat.shiftRight m 7) 2) (Nat.add (Nat.mod (Nat.shiftRight m 8) 2) (Nat.add (Nat.mod (Nat.shiftRight m 9) 2) (Nat.add (Nat.mod (Nat.shiftRight m 10) 2) (Nat.add (Nat.mod (Nat.shiftRight m 11) 2) (Nat.add (Nat.mod (Nat.shiftRight m 12) 2) (Nat.add (Nat.mod (Nat.shiftRight m 13) 2) (Nat.mod (Nat.shiftRight m 14) 2))))))))))))))
def loB (h n : Nat) : Bool := Nat.rec true (fun l r => (Nat.beq (c64 (Nat.add (Nat.mul 256 h) l)) (cB (Nat.add (Nat.mul 256 h) l))).and r) n
def hiB (n : Nat) : Bool := Nat.rec true (fun h r => (loB h 256).and r) n
theorem hiB_all : hiB 128 = true := by decide +kernel
theorem loB_at (h : Nat) : ∀ n, loB h n = true → ∀ l, l < n → c64 (256 * h + l) = cB (256 * h + l) := by
  intro n
  induction n with
  | zero => intro _ l hl; omega
  | succ n ih =>
    intro hh l hl
    have h1 : ((Nat.beq (c64 (256 * h + n)) (cB (256 * h + n))).and (loB h n)) = true := hh
    rw [Bool.and_eq_true] at h1
    by_cases e : l = n
    · subst e; exact Nat.eq_of_beq_eq_true h1.1
    · exact ih h1.2 l (by omega)
theorem hiB_at : ∀ n, hiB n = true → ∀ h, h < n → loB h 256 = true := by
  intro n
  induction n with
  | zero => intro _ l hl; omega
  | succ n ih =>
    intro hh l hl
    have h1 : ((loB n 256).and (hiB n)) = true := hh
    rw [Bool.and_eq_true] at h1
    by_cases e : l = n
    · subst e; exact h1.1
    · exact ih h1.2 l (by omega)
theorem cB_cov (m : Nat) : cB m = covB m 15 := by
  have e : ∀ a b : Nat, Nat.add a b = a + b := fun _ _ => rfl
  have f : ∀ k : Nat, Nat.mod (Nat.shiftRight m k) 2 = (m >>> k) % 2 := fun _ => rfl
  have g : Nat.mod m 2 = (m >>> 0) % 2 := rfl
  unfold cB
  simp only [covB, e, f, g]
  omega
theorem c64_small (m : Nat) (hm : m < 32768) : c64 m = cov m 15 := by
  rw [← covB_eq, ← cB_cov]
  have h1 := loB_at (m / 256) 256 (hiB_at 128 hiB_all (m / 256) (by omega)) (m % 256) (by omega)
  rwa [Nat.div_add_mod] at h1
theorem c64_ones {m : Nat} (h : m < 32768) : c64 m = ones m := by rw [c64_small m h, cov_ones (by simpa using h)]

/-- The points of a set, below v. -/
def ptsAt (m : Nat) : Nat → List Int
  | 0 => []
  | v + 1 => if m.testBit v then ptsAt m v ++ [(v : Int)] else ptsAt m v
def pts (m : Nat) : List Int := ptsAt m 15
theorem ptsAt_len (m : Nat) : ∀ v, (ptsAt m v).length = cov m v := by
  intro v
  induction v with
  | zero => rfl
  | succ v ih => simp only [ptsAt, cov]; split <;> simp [ih]
theorem ptsAt_mem (m : Nat) {p : Int} : ∀ v, p ∈ ptsAt m v ↔ 0 ≤ p ∧ p < v ∧ m.testBit p.toNat = true := by
  intro v
  induction v with
  | zero => simp [ptsAt]; omega
  | succ v ih =>
    simp only [ptsAt]
    split
    · rename_i h
      rw [List.mem_append, ih, List.mem_singleton]
      constructor
      · rintro (h1 | h1)
        · exact ⟨h1.1, by omega, h1.2.2⟩
        · subst h1; exact ⟨by omega, by omega, by simpa using h⟩
      · rintro ⟨h1, h2, h3⟩
        by_cases e : p = v
        · exact .inr e
        · exact .inl ⟨h1, by omega, h3⟩
    · rename_i h
      rw [ih]
      constructor
      · rintro ⟨h1, h2, h3⟩
        exact ⟨h1, by omega, h3⟩
      · rintro ⟨h1, h2, h3⟩
        refine ⟨h1, ?_, h3⟩
        by_cases e : p = v
        · subst e
          simp at h h3
          rw [h] at h3
          cases h3
        · omega
theorem pts_inj {m n : Nat} (hm : m < 32768) (hn : n < 32768) (h : pts m = pts n) : m = n := by
  apply Nat.eq_of_testBit_eq
  intro i
  by_cases hi : i < 15
  · have h1 := ptsAt_mem m (p := (i : Int)) 15
    have h2 := ptsAt_mem n (p := (i : Int)) 15
    unfold pts at h
    rw [h] at h1
    have h3 := h1.symm.trans h2
    simp only [Int.toNat_natCast] at h3
    have h4 : m.testBit i = true ↔ n.testBit i = true := by
      constructor
      · intro hb; exact (h3.1 ⟨by omega, by omega, hb⟩).2.2
      · intro hb; exact (h3.2 ⟨by omega, by omega, hb⟩).2.2
    cases hx : m.testBit i <;> cases hy : n.testBit i <;> simp_all
  · have h1 : m < 2 ^ i := Nat.lt_of_lt_of_le hm (by have : 2 ^ 15 ≤ 2 ^ i := Nat.pow_le_pow_right (by decide) (by omega); omega)
    have h2 : n < 2 ^ i := Nat.lt_of_lt_of_le hn (by have : 2 ^ 15 ≤ 2 ^ i := Nat.pow_le_pow_right (by decide) (by omega); omega)
    rw [Nat.testBit_lt_two_pow h1, Nat.testBit_lt_two_pow h2]
/-- No block lies inside. -/
def Indep (bs : List B3) (s : Nat) : Prop := ∀ b ∈ bs, ¬ bmask b &&& s = bmask b
/-- All blocks are met. -/
def MeetsAll (bs : List B3) (s : Nat) : Prop := ∀ b ∈ bs, ¬ bmask b &&& s = 0
/-- How many of the first blocks lie inside. -/
def inside (bs : List B3) (s k : Nat) : Nat := ((bs.take k).filter fun b => decide (bmask b &&& s = bmask b)).length
theorem inside_succ {bs : List B3} {s k : Nat} (hk : k < bs.length) : inside bs s (k + 1) = inside bs s k + if bmask bs[k] &&& s = bmask bs[k] then 1 else 0 := by
  unfold inside
  rw [take_snoc hk, List.filter_append, List.length_append]
  congr 1
  by_cases h : bmask bs[k] &&& s = bmask bs[k] <;> simp [h]
theorem inside_le {bs : List B3} {s k : Nat} : inside bs s k ≤ k := by
  unfold inside
  exact Nat.le_trans (List.length_filter_le _ _) (by simp; omega)
theorem inside_none {bs : List B3} {s : Nat} : inside bs s bs.length = 0 ↔ Indep bs s := by
  unfold inside Indep
  rw [List.take_length, List.length_eq_zero_iff, List.filter_eq_nil_iff]
  simp
/-- The mask of a list of points. -/
def maskL (xs : List Int) : Nat := xs.foldl (fun m p => m ||| 2 ^ p.toNat) 0
theorem maskL_snoc (xs : List Int) (p : Int) : maskL (xs ++ [p]) = maskL xs ||| 2 ^ p.toNat := by simp [maskL, List.foldl_append]
theorem maskL_succ {xs : List Int} {k : Nat} (hk : k < xs.length) : maskL (xs.take (k + 1)) = maskL (xs.take k) ||| 2 ^ (xs[k]).toNat := by rw [take_snoc hk, maskL_snoc]
theorem maskL_lt {xs : List Int} (h : ∀ p ∈ xs, 0 ≤ p ∧ p < 15) : maskL xs < 32768 := by
  have key : ∀ (xs : List Int) (m : Nat), (∀ p ∈ xs, 0 ≤ p ∧ p < 15) → m < 2 ^ 15 → xs.foldl (fun m p => m ||| 2 ^ p.toNat) m < 2 ^ 15 := by
    intro xs
    induction xs with
    | nil => intro m _ hm; exact hm
    | cons p xs ih =>
      intro m hp hm
      refine ih _ (fun q hq => hp q (by simp [hq])) (Nat.or_lt_two_pow hm ?_)
      have := hp p (by simp)
      exact Nat.pow_lt_pow_right (by decide) (by omega)
  exact key xs 0 h (by decide)
theorem maskL_block {v : Int} {b : B3} (h : good v b) : maskL (bl b) = bmask b := by
  have hb := h
  unfold good at h
  apply Nat.eq_of_testBit_eq
  intro i
  have h1 : maskL (bl b) = ((0 ||| 2 ^ b.1.toNat) ||| 2 ^ b.2.1.toNat) ||| 2 ^ b.2.2.toNat := rfl
  rw [h1]
  unfold bmask
  rw [three_bits (by omega) (by omega)]
  simp only [Nat.testBit_or, Nat.testBit_two_pow, Nat.zero_testBit, Bool.false_or]
  by_cases a : i = b.1.toNat <;> by_cases b' : i = b.2.1.toNat <;> by_cases c : i = b.2.2.toNat <;> simp [a, b', c] <;> omega
end Go.Vc
/-
  Plain words: the most points without a block; the least set that meets all blocks.
-/
namespace Go.Vc

/-- T is a set with points from p on, below v, added to it. -/
def Over (v set p T : Nat) : Prop := (∀ q, set.testBit q = true → T.testBit q = true) ∧ ∀ q, T.testBit q = true → set.testBit q = true ∨ (p ≤ q ∧ q < v)
theorem over_cov {v set p T : Nat} (h : Over v set p T) : ∀ w, w ≤ v → cov T w ≤ cov set w + (w - p) := by
  intro w
  induction w with
  | zero => intro _; simp [cov]
  | succ w ih =>
    intro hw
    have h1 := ih (by omega)
    simp only [cov]
    by_cases hT : T.testBit w = true
    · rw [if_pos hT]
      rcases h.2 w hT with h2 | h2
      · rw [if_pos h2]; omega
      · split <;> omega
    · rw [if_neg hT]
      split <;> omega
theorem Over.self {v set p : Nat} : Over v set p set := ⟨fun _ h => h, fun _ h => .inl h⟩
theorem Over.mono {v set p q T : Nat} (h : Over v set p T) (hn : ∀ x, T.testBit x = true → set.testBit x = true ∨ q ≤ x) : Over v set q T :=
  ⟨h.1, fun x hx => by
    rcases h.2 x hx with h1 | h1
    · exact .inl h1
    · rcases hn x hx with h2 | h2
      · exact .inl h2
      · exact .inr ⟨h2, h1.2⟩⟩
theorem Over.step {v set p T : Nat} (h : Over v set p T) (hp : T.testBit p = true) : Over v (set ||| 2 ^ p) (p + 1) T := by
  refine ⟨fun q hq => ?_, fun q hq => ?_⟩
  · rw [Nat.testBit_or, Nat.testBit_two_pow, Bool.or_eq_true] at hq
    rcases hq with h1 | h1
    · exact h.1 q h1
    · simp at h1; subst h1; exact hp
  · rw [Nat.testBit_or, Nat.testBit_two_pow, Bool.or_eq_true]
    rcases h.2 q hq with h1 | h1
    · exact .inl (.inl h1)
    · by_cases e : p = q
      · subst e; exact .inl (.inr (by simp))
      · exact .inr ⟨by omega, h1.2⟩
theorem Indep.sub {bs : List B3} {s T : Nat} (h : Indep bs T) (hs : ∀ q, s.testBit q = true → T.testBit q = true) : Indep bs s := by
  intro b hb he
  refine h b hb ?_
  rw [and_self] at *
  exact fun p hp => hs p (he p hp)
structure MostR (v : Nat) (bs : List B3) (set best p r : Nat) : Prop where
  ok : r = best ∨ (Indep bs r ∧ r < 2 ^ v)
  ge : ones best ≤ ones r
  all : ∀ T, T < 2 ^ v → Over v set p T → Indep bs T → ones T ≤ ones r
structure MostI (v : Nat) (bs : List B3) (set best from' p r : Nat) : Prop where
  ok : r = best ∨ (Indep bs r ∧ r < 2 ^ v)
  ge : ones best ≤ ones r
  geS : ones set ≤ ones r
  seen : ∀ T, T < 2 ^ v → Over v set from' T → Indep bs T → (∃ q, from' ≤ q ∧ q < p ∧ T.testBit q = true ∧ ¬ set.testBit q = true) → ones T ≤ ones r
section
variable {v : Nat} {bs : List B3} {set best f p r r' : Nat}
theorem most_start (hi : Indep bs set) (hs : set < 2 ^ v) : MostI v bs set best f f (if ones best < ones set then set else best) := by
  split
  · exact ⟨.inr ⟨hi, hs⟩, by omega, by omega, fun T _ _ _ ⟨q, h1, h2, _⟩ => by omega⟩
  · exact ⟨.inl rfl, by omega, by omega, fun T _ _ _ ⟨q, h1, h2, _⟩ => by omega⟩
theorem most_step (h : MostI v bs set best f p r) (hfp : f ≤ p) (hr : MostR v bs (set ||| 2 ^ p) r (p + 1) r') : MostI v bs set best f (p + 1) r' := by
  refine ⟨?_, Nat.le_trans h.ge hr.ge, Nat.le_trans h.geS hr.ge, ?_⟩
  · rcases hr.ok with e | e
    · exact e ▸ h.ok
    · exact .inr e
  · rintro T hT ho hi ⟨q, h1, h2, h3, h4⟩
    by_cases hsm : ∃ q, f ≤ q ∧ q < p ∧ T.testBit q = true ∧ ¬ set.testBit q = true
    · exact Nat.le_trans (h.seen T hT ho hi hsm) hr.ge
    · have hqp : q = p := by
        by_cases e : q < p
        · exact absurd ⟨q, h1, e, h3, h4⟩ hsm
        · omega
      subst hqp
      refine hr.all T hT (Over.step (ho.mono (q := q) ?_) h3) hi
      intro x hx
      rcases ho.2 x hx with h5 | h5
      · exact .inl h5
      · by_cases hxs : set.testBit x = true
        · exact .inl hxs
        · refine .inr ?_
          rcases Nat.lt_or_ge x q with h6 | h6
          · exact absurd ⟨x, h5.1, h6, hx, hxs⟩ hsm
          · exact h6
theorem most_skip (h : MostI v bs set best f p r) (hn : ¬ Indep bs (set ||| 2 ^ p)) : MostI v bs set best f (p + 1) r := by
  refine ⟨h.ok, h.ge, h.geS, ?_⟩
  rintro T hT ho hi ⟨q, h1, h2, h3, h4⟩
  by_cases e : q < p
  · exact h.seen T hT ho hi ⟨q, h1, e, h3, h4⟩
  · have hqp : q = p := by omega
    subst hqp
    exfalso
    refine hn (hi.sub fun x hx => ?_)
    rw [Nat.testBit_or, Nat.testBit_two_pow, Bool.or_eq_true] at hx
    rcases hx with h5 | h5
    · exact ho.1 x h5
    · simp at h5; subst h5; exact h3
theorem most_end (h : MostI v bs set best f p r) (hs : set < 2 ^ v) (he : v ≤ p ∨ ones set + v ≤ ones r + p) : MostR v bs set best f r := by
  refine ⟨h.ok, h.ge, fun T hT ho hi => ?_⟩
  by_cases hsm : ∃ q, f ≤ q ∧ q < p ∧ T.testBit q = true ∧ ¬ set.testBit q = true
  · exact h.seen T hT ho hi hsm
  · have h1 := over_cov (ho.mono (q := p) (fun x hx => by
      by_cases hxs : set.testBit x = true
      · exact .inl hxs
      · rcases ho.2 x hx with h5 | h5
        · exact .inl h5
        · refine .inr ?_
          rcases Nat.lt_or_ge x p with h6 | h6
          · exact absurd ⟨x, h5.1, h6, hx, hxs⟩ hsm
          · exact h6)) v (Nat.le_refl _)
    rw [cov_ones hT, cov_ones hs] at h1
    have := h.geS
    omega
end
/-! ### The least meeting set -/
structure MC (v : Nat) (bs : List B3) (set k f T : Nat) : Prop where
  lt : T < 2 ^ v
  over : Over v set f T
  num : ones T = ones set + k
  meets : MeetsAll bs T
/-- The least of all that are such, or -1. -/
def MeetR (v : Nat) (bs : List B3) (set k f : Nat) (r : Int) : Prop :=
  (r = -1 ∧ ∀ T, ¬ MC v bs set k f T) ∨ ∃ T : Nat, r = T ∧ MC v bs set k f T ∧ ∀ U, MC v bs set k f U → ¬ ltL (pts U) (pts T)
theorem ptsAt_prefix (m : Nat) {a : Nat} : ∀ {b}, a ≤ b → ptsAt m a <+: ptsAt m b := by
  intro b
  induction b with
  | zero => intro h; have : a = 0 := by omega
            subst this; exact List.prefix_refl _
  | succ b ih =>
    intro h
    by_cases e : a = b + 1
    · subst e; exact List.prefix_refl _
    · refine (ih (by omega)).trans ?_
      simp only [ptsAt]
      split
      · exact List.prefix_append _ _
      · exact List.prefix_refl _
theorem ptsAt_congr {m n : Nat} : ∀ {a : Nat}, (∀ q, q < a → m.testBit q = n.testBit q) → ptsAt m a = ptsAt n a := by
  intro a
  induction a with
  | zero => intro _; rfl
  | succ a ih =>
    intro h
    simp only [ptsAt, h a (by omega), ih (fun q hq => h q (by omega))]
theorem ptsAt_stop {m f : Nat} (hm : m < 2 ^ f) : ∀ {a : Nat}, f ≤ a → ptsAt m a = ptsAt m f := by
  intro a
  induction a with
  | zero => intro h; have : f = 0 := by omega
            subst this; rfl
  | succ a ih =>
    intro h
    by_cases e : f = a + 1
    · subst e; rfl
    · rw [← ih (by omega)]
      simp only [ptsAt]
      rw [if_neg]
      have : m.testBit a = false := Nat.testBit_lt_two_pow (Nat.lt_of_lt_of_le hm (Nat.pow_le_pow_right (by decide) (by omega)))
      simp [this]
theorem pts_first {v set f T p : Nat} (hv : v ≤ 15) (hs : set < 2 ^ f) (hf : f ≤ p) (hp : p < v) (ho : Over v set p T) (hT : T.testBit p = true) : (pts set ++ [(p : Int)]) <+: pts T := by
  have h1 : pts set = ptsAt set p := by
    unfold pts
    rw [ptsAt_stop hs (by omega), ptsAt_stop hs hf]
  have h2 : ptsAt T p = ptsAt set p := ptsAt_congr (fun q hq => by
    cases hx : T.testBit q with
    | true => exact ((ho.2 q hx).resolve_right (by omega)).symm
    | false =>
      cases hy : set.testBit q with
      | false => rfl
      | true => rw [ho.1 q hy] at hx; cases hx)
  have h3 : ptsAt T (p + 1) = pts set ++ [(p : Int)] := by simp only [ptsAt]; rw [if_pos hT, h2, h1]
  rw [← h3]
  exact ptsAt_prefix T (by omega)
theorem leastN {p : Nat → Prop} : ∀ n, p n → ∃ m, p m ∧ ∀ k, p k → m ≤ k := by
  intro n
  induction n using Nat.strongRecOn with
  | _ n ih =>
    intro hn
    by_cases h : ∃ k, k < n ∧ p k
    · obtain ⟨k, hk, hp⟩ := h
      exact ih k hk hp
    · exact ⟨n, hn, fun k hk => by
        rcases Nat.lt_or_ge k n with h' | h'
        · exact absurd ⟨k, h', hk⟩ h
        · exact h'⟩
theorem cov_pow {p : Nat} : ∀ v, cov (2 ^ p) v = if p < v then 1 else 0 := by
  intro v
  induction v with
  | zero => simp [cov]
  | succ v ih =>
    simp only [cov, ih, Nat.testBit_two_pow, decide_eq_true_eq]
    (repeat' split) <;> omega
theorem ones_add {v set f p : Nat} (hsv : set < 2 ^ v) (hs : set < 2 ^ f) (hf : f ≤ p) (hp : p < v) : ones (set ||| 2 ^ p) = ones set + 1 := by
  have h1 : set &&& 2 ^ p = 0 := by
    rw [and_zero]
    rintro q ⟨h1, h2⟩
    rw [Nat.testBit_two_pow] at h2
    simp at h2
    subst h2
    rw [Nat.testBit_lt_two_pow (Nat.lt_of_lt_of_le hs (Nat.pow_le_pow_right (by decide) hf))] at h1
    cases h1
  have h2 : set ||| 2 ^ p < 2 ^ v := Nat.or_lt_two_pow hsv (Nat.pow_lt_pow_right (by decide) hp)
  rw [← cov_ones h2, cov_or h1, cov_ones hsv, cov_pow, if_pos hp]
/-- No such set has a point more below p. -/
def MeetI (v : Nat) (bs : List B3) (set k f p : Nat) : Prop := ∀ T, MC v bs set k f T → Over v set p T
section
variable {v : Nat} {bs : List B3} {set k f p : Nat}
theorem meet_start : MeetI v bs set k f f := fun T h => h.over
/-- The sets with p as the first point more. -/
theorem meet_iff (hv : v ≤ 15) (hsv : set < 2 ^ v) (hs : set < 2 ^ f) (hf : f ≤ p) (hp : p < v) (hI : MeetI v bs set (k + 1) f p) (T : Nat) : MC v bs (set ||| 2 ^ p) k (p + 1) T ↔ MC v bs set (k + 1) f T ∧ T.testBit p = true := by
  have ho := ones_add hsv hs hf hp
  constructor
  · intro h
    refine ⟨⟨h.lt, ⟨fun q hq => h.over.1 q (by rw [Nat.testBit_or, hq]; rfl), fun q hq => ?_⟩, by rw [h.num, ho]; omega, h.meets⟩, h.over.1 p (by rw [Nat.testBit_or, Nat.testBit_two_pow]; simp)⟩
    rcases h.over.2 q hq with h1 | h1
    · rw [Nat.testBit_or, Nat.testBit_two_pow, Bool.or_eq_true] at h1
      rcases h1 with h1 | h1
      · exact .inl h1
      · simp at h1; subst h1; exact .inr ⟨hf, hp⟩
    · exact .inr ⟨by omega, h1.2⟩
  · rintro ⟨h, hT⟩
    exact ⟨h.lt, Over.step (hI T h) hT, by rw [h.num, ho]; omega, h.meets⟩
theorem meet_none (hv : v ≤ 15) (hsv : set < 2 ^ v) (hs : set < 2 ^ f) (hf : f ≤ p) (hp : p < v) (hI : MeetI v bs set (k + 1) f p) (h : ∀ T, ¬ MC v bs (set ||| 2 ^ p) k (p + 1) T) : MeetI v bs set (k + 1) f (p + 1) := by
  intro T hT
  refine (hI T hT).mono (fun x hx => ?_)
  rcases (hI T hT).2 x hx with h1 | h1
  · exact .inl h1
  · refine .inr ?_
    by_cases e : x = p
    · subst e
      exact absurd ((meet_iff hv hsv hs hf hp hI T).2 ⟨hT, hx⟩) (h T)
    · omega
theorem meet_found (hv : v ≤ 15) (hsv : set < 2 ^ v) (hs : set < 2 ^ f) (hf : f ≤ p) (hp : p < v) (hI : MeetI v bs set (k + 1) f p) {T : Nat} (hT : MC v bs (set ||| 2 ^ p) k (p + 1) T) (hl : ∀ U, MC v bs (set ||| 2 ^ p) k (p + 1) U → ¬ ltL (pts U) (pts T)) :
    MC v bs set (k + 1) f T ∧ ∀ U, MC v bs set (k + 1) f U → ¬ ltL (pts U) (pts T) := by
  have h1 := (meet_iff hv hsv hs hf hp hI T).1 hT
  refine ⟨h1.1, fun U hU => ?_⟩
  by_cases hUp : U.testBit p = true
  · exact hl U ((meet_iff hv hsv hs hf hp hI U).2 ⟨hU, hUp⟩)
  · intro hlt
    have hT1 := pts_first hv hs hf hp (hI T h1.1) h1.2
    -- U's first point more lies behind p
    have hoU := hI U hU
    have hne : ∃ q, p < q ∧ q < v ∧ U.testBit q = true ∧ Over v set q U := by
      have hcnt : ∃ q, U.testBit q = true ∧ ¬ set.testBit q = true := by
        rcases Classical.em (∃ q, U.testBit q = true ∧ ¬ set.testBit q = true) with h | h
        · exact h
        · exfalso
          have : U = set := by
            apply Nat.eq_of_testBit_eq
            intro i
            cases hx : U.testBit i with
            | true =>
              cases hy : set.testBit i with
              | true => rfl
              | false => exact absurd ⟨i, hx, by simp [hy]⟩ h
            | false =>
              cases hy : set.testBit i with
              | false => rfl
              | true => rw [hoU.1 i hy] at hx; cases hx
          have h2 := hU.num
          rw [this] at h2
          omega
      obtain ⟨q0, hq0⟩ := hcnt
      obtain ⟨q, hq, hmin⟩ := leastN (p := fun q => U.testBit q = true ∧ ¬ set.testBit q = true) q0 hq0
      rcases hoU.2 q hq.1 with h2 | h2
      · exact absurd h2 hq.2
      · have hqp : q ≠ p := fun e => hUp (e ▸ hq.1)
        exact ⟨q, by omega, h2.2, hq.1, hoU.mono (fun x hx => by
          by_cases hxs : set.testBit x = true
          · exact .inl hxs
          · exact .inr (hmin x ⟨hx, hxs⟩))⟩
    obtain ⟨q, hq1, hq2, hq3, hq4⟩ := hne
    have hU1 := pts_first hv hs (by omega) hq2 hq4 hq3
    exact ltL_asymm hlt (ltL_prefix (by omega) hT1 hU1)
theorem meet_end (hs : set < 2 ^ v) (hk : 0 < k) (he : v < p + k) (hI : MeetI v bs set k f p) : ∀ T, ¬ MC v bs set k f T := by
  intro T hT
  have h1 := over_cov (hI T hT) v (Nat.le_refl _)
  rw [cov_ones hT.lt, cov_ones hs, hT.num] at h1
  have h2 := cov_le T v
  rw [cov_ones hT.lt, hT.num] at h2
  omega
end
theorem compl_bit {v s : Nat} (hs : s < 2 ^ v) (q : Nat) : (2 ^ v - 1 - s).testBit q = (decide (q < v) && !s.testBit q) := by
  rw [show 2 ^ v - 1 - s = 2 ^ v - (s + 1) by omega]
  exact Nat.testBit_two_pow_sub_succ hs q
/-- A set meets all blocks if and only if the other points are independent. -/
theorem meets_indep {v : Int} {bs : List B3} (hb : ∀ b ∈ bs, good v b) {s : Nat} (hs : s < 2 ^ v.toNat) : Indep bs (2 ^ v.toNat - 1 - s) ↔ MeetsAll bs s := by
  have key : ∀ b ∈ bs, (bmask b &&& (2 ^ v.toNat - 1 - s) = bmask b ↔ bmask b &&& s = 0) := by
    intro b hbm
    have hg := hb b hbm
    rw [and_self, and_zero]
    constructor
    · rintro h p ⟨h1, h2⟩
      have := h p h1
      rw [compl_bit hs] at this
      simp [h2] at this
    · intro h p h1
      rw [compl_bit hs]
      have h2 := good_lt hg ((bmask_bit hg p).1 h1)
      have h3 := h p
      cases hx : s.testBit p with
      | true => exact absurd ⟨h1, hx⟩ h3
      | false => simp; omega
  unfold Indep MeetsAll
  exact ⟨fun h b hbm h0 => h b hbm ((key b hbm).2 h0), fun h b hbm h0 => h b hbm ((key b hbm).1 h0)⟩
theorem over_eq {v set f U : Nat} (hU : U < 2 ^ v) (hs : set < 2 ^ v) (ho : Over v set f U) (hn : ones U = ones set + 0) : U = set := by
  have h : ∀ w, w ≤ v → cov set w ≤ cov U w ∧ (cov U w = cov set w → ∀ q, q < w → U.testBit q = set.testBit q) := by
    intro w
    induction w with
    | zero => intro _; exact ⟨by simp [cov], fun _ q hq => by omega⟩
    | succ w ih =>
      intro hw
      obtain ⟨h1, h2⟩ := ih (by omega)
      simp only [cov]
      cases hx : set.testBit w with
      | true =>
        have hy := ho.1 w hx
        rw [hy]
        simp only [if_true]
        refine ⟨by omega, fun e q hq => ?_⟩
        by_cases e1 : q = w
        · subst e1; rw [hx, hy]
        · exact h2 (by omega) q (by omega)
      | false =>
        cases hy : U.testBit w with
        | true =>
          refine ⟨by simp; omega, fun e => ?_⟩
          simp at e
          omega
        | false =>
          refine ⟨by simpa using h1, fun e q hq => ?_⟩
          by_cases e1 : q = w
          · subst e1; rw [hx, hy]
          · exact h2 (by simpa using e) q (by omega)
  rw [Nat.add_zero, ← cov_ones hU, ← cov_ones hs] at hn
  apply Nat.eq_of_testBit_eq
  intro q
  by_cases hq : q < v
  · exact (h v (Nat.le_refl _)).2 hn q hq
  · rw [Nat.testBit_lt_two_pow (Nat.lt_of_lt_of_le hU (Nat.pow_le_pow_right (by decide) (by omega))), Nat.testBit_lt_two_pow (Nat.lt_of_lt_of_le hs (Nat.pow_le_pow_right (by decide) (by omega)))]
theorem meet_zero {v : Int} {bs : List B3} {set f : Nat} (hb : ∀ b ∈ bs, good v b) (hs : set < 2 ^ v.toNat) (h : Indep bs (2 ^ v.toNat - 1 - set)) : MeetR v.toNat bs set 0 f (set : Int) := by
  refine .inr ⟨set, rfl, ⟨hs, Over.self, rfl, (meets_indep hb hs).1 h⟩, fun U hU => ?_⟩
  rw [over_eq hU.lt hs hU.over hU.num]
  exact ltL_irrefl _
theorem meet_zero' {v : Int} {bs : List B3} {set f : Nat} (hb : ∀ b ∈ bs, good v b) (hs : set < 2 ^ v.toNat) (h : ¬ Indep bs (2 ^ v.toNat - 1 - set)) : MeetR v.toNat bs set 0 f (-1) := by
  refine .inl ⟨rfl, fun U hU => h ?_⟩
  have := over_eq hU.lt hs hU.over hU.num
  subst this
  exact (meets_indep hb hs).2 hU.meets
end Go.Vc
/-
  Plain words: the best set among all; the least meeting set, of both.
-/
namespace Go.Vc

structure BestI (sign : Int) (p : Nat → Prop) (s : Nat) (found : Bool) (most : Int) (out : List Int) : Prop where
  no : found = false → ∀ q, q < s → ¬ p q
  yes : found = true → ∃ t, t < s ∧ p t ∧ out = pts t ∧ most = sign * ones t ∧ ∀ q, q < s → p q → sign * ones q < most ∨ (sign * ones q = most ∧ ¬ ltL (pts q) out)
section
variable {sign most : Int} {p : Nat → Prop} {s : Nat} {found : Bool} {out : List Int}
theorem best_start : BestI sign p 0 false 0 [] := ⟨fun _ q h => by omega, fun h => by cases h⟩
theorem best_less (h : BestI sign p s found most out) (hf : found = true) (hl : sign * ones s < most) : BestI sign p (s + 1) found most out := by
  refine ⟨fun e => by simp [e] at hf, fun _ => ?_⟩
  obtain ⟨t, h1, h2, h3, h4, h5⟩ := h.yes hf
  refine ⟨t, by omega, h2, h3, h4, fun q hq hp => ?_⟩
  by_cases e : q = s
  · subst e; exact .inl hl
  · exact h5 q (by omega) hp
theorem best_not (h : BestI sign p s found most out) (hn : ¬ p s) : BestI sign p (s + 1) found most out := by
  refine ⟨fun e q hq => ?_, fun e => ?_⟩
  · by_cases e1 : q = s
    · subst e1; exact hn
    · exact h.no e q (by omega)
  · obtain ⟨t, h1, h2, h3, h4, h5⟩ := h.yes e
    refine ⟨t, by omega, h2, h3, h4, fun q hq hp => ?_⟩
    by_cases e : q = s
    · subst e; exact absurd hp hn
    · exact h5 q (by omega) hp
theorem best_keep (h : BestI sign p s found most out) (hf : found = true) (h1 : ¬ sign * ones s < most) (h2 : ¬ most < sign * ones s) (h3 : ¬ ltL (pts s) out) : BestI sign p (s + 1) found most out := by
  refine ⟨fun e => by simp [e] at hf, fun _ => ?_⟩
  obtain ⟨t, a1, a2, a3, a4, a5⟩ := h.yes hf
  refine ⟨t, by omega, a2, a3, a4, fun q hq hp => ?_⟩
  by_cases e : q = s
  · subst e; exact .inr ⟨by omega, h3⟩
  · exact a5 q (by omega) hp
theorem best_new (h : BestI sign p s found most out) (hp : p s) (hn : found = false ∨ most < sign * ones s ∨ (¬ sign * ones s < most ∧ ltL (pts s) out)) : BestI sign p (s + 1) true (sign * ones s) (pts s) := by
  refine ⟨fun e => by simp at e, fun _ => ⟨s, by omega, hp, rfl, rfl, fun q hq hpq => ?_⟩⟩
  by_cases e : q = s
  · subst e; exact .inr ⟨rfl, ltL_irrefl _⟩
  · cases hf : found with
    | false => exact absurd hpq (h.no hf q (by omega))
    | true =>
      obtain ⟨t, a1, a2, a3, a4, a5⟩ := h.yes hf
      rcases hn with h1 | h1 | ⟨h1, h2⟩
      · rw [hf] at h1; cases h1
      · rcases a5 q (by omega) hpq with b1 | ⟨b1, b2⟩
        · exact .inl (by omega)
        · exact .inl (by omega)
      · rcases a5 q (by omega) hpq with b1 | ⟨b1, b2⟩
        · exact .inl (by omega)
        · by_cases e2 : most < sign * ones s
          · exact .inl (by omega)
          · exact .inr ⟨by omega, fun h => b2 (ltL_trans h h2)⟩
end

theorem pts_len (m : Nat) : (pts m).length ≤ 15 := by
  unfold pts
  rw [ptsAt_len]
  exact cov_le m 15
def LM (v : Nat) (bs : List B3) (out : List Int) : Prop :=
  ∃ T, T < 2 ^ v ∧ MeetsAll bs T ∧ out = pts T ∧ ∀ U, U < 2 ^ v → MeetsAll bs U → ones T ≤ ones U ∧ (ones U = ones T → ¬ ltL (pts U) (pts T))
theorem LM.unique {v : Nat} {bs : List B3} {a b : List Int} (h1 : LM v bs a) (h2 : LM v bs b) : a = b := by
  obtain ⟨T, a1, a2, rfl, a4⟩ := h1
  obtain ⟨U, b1, b2, rfl, b4⟩ := h2
  have h3 := a4 U b1 b2
  have h4 := b4 T a1 a2
  exact ltL_tri (fun h => h4.2 (by omega) h) (fun h => h3.2 (by omega) h)
theorem meets_some {v : Int} {bs : List B3} (hb : ∀ b ∈ bs, good v b) : MeetsAll bs (2 ^ v.toNat - 1) := by
  have h := (meets_indep hb (s := 2 ^ v.toNat - 1) (by have := Nat.two_pow_pos v.toNat; omega)).1
  refine h ?_
  rw [Nat.sub_self]
  intro b hbm h0
  have hg := hb b hbm
  have h1 := (bmask_bit hg b.1.toNat).2
  rw [Nat.and_zero] at h0
  rw [← h0] at h1
  have hg' := hg
  unfold good at hg'
  have h2 := h1 (by unfold has; simp; omega)
  simp at h2
theorem best_LM {v : Int} {bs : List B3} (hb : ∀ b ∈ bs, good v b) {s : Nat} {found : Bool} {most : Int} {out : List Int} (h : BestI (-1) (MeetsAll bs) s found most out) (hs : s = 2 ^ v.toNat) : LM v.toNat bs out := by
  subst hs
  have h0 := Nat.two_pow_pos v.toNat
  cases hf : found with
  | false => exact absurd (meets_some hb) (h.no hf _ (by omega))
  | true =>
    obtain ⟨t, a1, a2, a3, a4, a5⟩ := h.yes hf
    refine ⟨t, a1, a2, a3, fun U hU hm => ?_⟩
    rw [← a3]
    rcases a5 U hU hm with b1 | ⟨b1, b2⟩
    · exact ⟨by omega, fun e => by omega⟩
    · exact ⟨by omega, fun _ => b2⟩
theorem compl_cov {v s : Nat} (hs : s < 2 ^ v) : ∀ w, w ≤ v → cov (2 ^ v - 1 - s) w + cov s w = w := by
  intro w
  induction w with
  | zero => intro _; simp [cov]
  | succ w ih =>
    intro hw
    have := ih (by omega)
    simp only [cov, compl_bit hs]
    cases s.testBit w <;> simp <;> (try omega)
    rw [if_pos (by omega)]
    omega
theorem compl_ones {v s : Nat} (hs : s < 2 ^ v) : ones (2 ^ v - 1 - s) + ones s = v := by
  have h := compl_cov hs v (Nat.le_refl _)
  rw [cov_ones (by have := Nat.two_pow_pos v; omega), cov_ones hs] at h
  exact h
theorem compl_compl {v s : Nat} (hs : s < 2 ^ v) : 2 ^ v - 1 - (2 ^ v - 1 - s) = s := by omega
theorem spec_LM {v : Int} {bs : List B3} (hb : ∀ b ∈ bs, good v b) {m : Nat} (hm : MostR v.toNat bs 0 0 0 m) {r : Int} (hr : MeetR v.toNat bs 0 (v.toNat - ones m) 0 r) : ∃ T : Nat, r = T ∧ T < 2 ^ v.toNat ∧ LM v.toNat bs (pts T) := by
  have h0 := Nat.two_pow_pos v.toNat
  have hm2 : Indep bs m ∧ m < 2 ^ v.toNat := by
    rcases hm.ok with h | h
    · subst h
      refine ⟨?_, by omega⟩
      have := (meets_indep hb (s := 2 ^ v.toNat - 1) (by omega)).2 (meets_some hb)
      rwa [Nat.sub_self] at this
    · exact h
  have hc := compl_ones hm2.2
  rcases hr with ⟨_, h⟩ | ⟨T, h1, h2, h3⟩
  · exfalso
    refine h (2 ^ v.toNat - 1 - m) ⟨by omega, ⟨fun q hq => by simp at hq, fun q hq => .inr ⟨by omega, ?_⟩⟩, by rw [ones_zero]; omega, ?_⟩
    · rw [compl_bit hm2.2] at hq
      simp at hq
      omega
    · refine (meets_indep hb (by omega)).1 ?_
      rw [compl_compl hm2.2]
      exact hm2.1
  · have hT := h2.num
    rw [ones_zero, Nat.zero_add] at hT
    refine ⟨T, h1, h2.lt, T, h2.lt, h2.meets, rfl, fun U hU hmU => ?_⟩
    have hi := (meets_indep hb hU).2 hmU
    have h5 := hm.all (2 ^ v.toNat - 1 - U) (by omega) ⟨fun q hq => by simp at hq, fun q hq => .inr ⟨by omega, by rw [compl_bit hU] at hq; simp at hq; omega⟩⟩ hi
    have h6 := compl_ones hU
    refine ⟨by omega, fun e => h3 U ⟨hU, ⟨fun q hq => by simp at hq, fun q hq => .inr ⟨by omega, ?_⟩⟩, by rw [ones_zero]; omega, hmU⟩⟩
    rcases Nat.lt_or_ge q v.toNat with h7 | h7
    · exact h7
    · rw [Nat.testBit_lt_two_pow (Nat.lt_of_lt_of_le hU (Nat.pow_le_pow_right (by decide) h7))] at hq
      cases hq
end Go.Vc
/-
  The calculus, part 10: values of functions with bound arguments.
-/
namespace Go.Vc
open Go Go.RowKit
section
variable {P : Program} {w0 w : World} {H H' : List Assn} {Q : Exit → Act → World → Prop} {σ : Sig} {o : Oper}
theorem Ef.callVB {f : Operand} {g : FuncId} {l : List Operand} {ts : Array TypeId} {vs : List Value} {bnd caps : Array Value} {R : Value → List Assn} (ho : o.op = .call { callee := .value f, args := l.toArray, argTypes := ts }) (hf : ev σ f = some (.func (.func g) bnd caps)) (hok : CallOk P g)
    (hargs : evs σ l = some vs) (hfn : Does P g (bnd.toList ++ vs ++ caps.toList) w0 H R) : Ef P w0 o σ H Q (fun v H' => H' = R v) := by
  intro w hw a ha
  have h1 := ha f (by simp [ho, Op.operands, Call.operands]) _ hf
  have h2 := evs_map (a := a) (fun x hx v hv => ha x (by simp [ho, Op.operands, Call.operands]; exact .inr hx) v hv) hargs
  have h3 : (l.toArray.map a.eval) = vs.toArray := by apply Array.ext'; rw [← h2]; simp
  unfold Oper.wp
  have : (execOp a.eval o).run P w = .ok (.enter g (bnd.toList ++ vs ++ caps.toList).toArray) w := by
    have e2 : bnd ++ vs.toArray ++ caps = (bnd.toList ++ vs ++ caps.toList).toArray := by apply Array.ext'; simp
    simp only [execOp, ho, resolve, h1, h3, Deferred.ofValue, invoke, Sem.run_bind, Sem.run_pure, Result.andThen_ok, run_callFunc hok, e2]
  rw [this]
  refine Calls.mono (hfn w hw) ?_
  rintro e w' ⟨v, rfl, hs⟩
  exact ⟨v, _, rfl, hs, rfl⟩
theorem Ef.callPB {f : Operand} {g : FuncId} {l : List Operand} {ts : Array TypeId} {vs : List Value} {bnd caps : Array Value} {r : Value} (hok : CallOk P g) (ho : o.op = .call { callee := .value f, args := l.toArray, argTypes := ts }) (hf : ev σ f = some (.func (.func g) bnd caps))
    (hargs : evs σ l = some vs) (hfn : ∀ w, St w0 H w → Does P g (bnd.toList ++ vs ++ caps.toList) w [] (fun v => [.pur (v = r)])) : Ef P w0 o σ H Q (fun v H' => v = r ∧ H' = H) := by
  intro w hw a ha
  have := Ef.callVB (Q := Q) ho hf hok hargs (Does.frame hfn) w hw a ha
  refine Oper.wp_mono ?_ this
  rintro a' w' ⟨v, H', rfl, hs, rfl⟩
  have hs' : St w0 (.pur (v = r) :: H) w' := hs
  exact ⟨v, H, rfl, hs'.pur.2, hs'.pur.1, rfl⟩
theorem Pu.makeBound {f : Nat} {bs caps : Array Operand} {us vs : List Value} (ho : o.op = .makeFunc (.func f) bs caps) (hb : evs σ bs.toList = some us) (hx : evs σ caps.toList = some vs) : Pu P w0 o σ H (.func (.func f) us.toArray vs.toArray) := by
  intro w hw a ha
  have hag : ∀ x ∈ bs.toList ++ caps.toList, ∀ v, ev σ x = some v → a.eval x = v := fun x hx v hv => ha x (by simp [ho, Op.operands] at *; first | exact hx | (rcases hx with h | h <;> simp [h])) v hv
  have h1 := evs_map (a := a) (fun x hx v hv => hag x (by simp [Array.mem_toList_iff] at *; exact .inl hx) v hv) hb
  have h2 := evs_map (a := a) (fun x hx v hv => hag x (by simp [Array.mem_toList_iff] at *; exact .inr hx) v hv) hx
  have e1 : bs.map a.eval = us.toArray := by apply Array.ext'; rw [← h1]; simp
  have e2 : caps.map a.eval = vs.toArray := by apply Array.ext'; rw [← h2]; simp
  simp [execOp, ho, Instr.makeFunc, e1, e2]
/-- Where ways meet again, with something that is known to be there. -/
theorem V.cutE {N : Nat} {c : Code} {β : Type} (σv : β → Sig) (σc : Sig) (Hi : β → List Assn) (Hc : List Assn) (Φ : β → Prop) (hc : Ent σ σc) (hH : Sub H Hc)
    (h1 : V P N w0 c (Exit.then (fun a w => ∃ y, Φ y ∧ Env N (σv y ++ σc) a ∧ St w0 (Hi y ++ Hc) w) Q) σ H) (h2 : ∀ y, Φ y → X N w0 Q .normal (σv y ++ σc) (Hi y ++ Hc)) : V P N w0 c Q σ H := by
  intro w hw a ha
  refine wp_mono (h1 w hw a ha) ?_
  intro e a' w' hq
  cases e with
  | normal =>
    obtain ⟨y, hy, h3, h4⟩ := hq
    exact h2 y hy w' h4 a' h3
  | _ => exact hq
theorem X.cutE {N : Nat} {β : Type} {σv : β → Sig} {σc : Sig} {Hi : β → List Assn} {Hc : List Assn} {Φ : β → Prop} (y : β) (hΦ : Φ y) (hσ : Ent σ (σv y)) (hc : Ent σ σc) (hH : Sub H (Hi y ++ Hc)) :
    X N w0 (Exit.then (fun a w => ∃ y, Φ y ∧ Env N (σv y ++ σc) a ∧ St w0 (Hi y ++ Hc) w) Q) .normal σ H :=
  fun w hw a ha => ⟨y, hΦ, ha.ent (hσ.append hc), hw.sub hH⟩
/-- One of two operations comes next. -/
theorem D.either {N : Nat} {ops : Array Oper} {Hs : List Assn} (hwf : wfB ops = true) {effs done : List Nat} {e1 e2 : Nat} (hcl : closedL ops done [e1, e2] = true) (h1 : Cand P N w0 ops Q effs done σ Hs H e1) (h2 : Cand P N w0 ops Q effs done σ Hs H e2) : D P N w0 ops Q effs done σ Hs H := by
  refine D.effS hwf [e1, e2] e1 (by simp) hcl ?_
  intro e he
  simp only [List.mem_cons, List.not_mem_nil, or_false] at he
  rcases he with rfl | rfl
  · exact h1
  · exact h2
/-- make, with a length that is a number's. -/
theorem Ef.makeI {α : Type} {T e sz bytes n : Nat} {x y : Operand} {z : Value} {K1 K2 : IntKind} {i : Int} (C : Cod α) (u : α) (ho : o.op = .makeSlice T x y) (hT : P.underlying T = some (.slice e)) (hi : Inf P e sz bytes z) (hs : sz = C.sz) (hz : z.cells.toList = C.enc u)
    (hx : ev σ x = some (.int K1 i)) (hy : ev σ y = some (.int K2 i)) (hin : i = (n : Int)) (hb : bytes * n ≤ 281474976710656) (hm : n ≤ 9223372036854775807) :
    Ef P w0 o σ H Q (fun v H' => ∃ A, A.isSome = true ∧ v = .slice A n n ∧ H' = Own e C A n (List.replicate n u) :: H) := by
  subst hin
  exact Ef.make C u ho hT hi hs hz hx hy hb hm
/-! ### Arrays of numbers, by an index -/
theorem Ld.arrK {b t off : Nat} {xs : List Int} {n k : Nat} (i : Nat) (hp : pull i H = some (Blk b (xs.map (Value.int .i64)) t, H')) (ho : off = 0 + k * 1) (hk : k < n) (hn : xs.length = n) : ∀ w, St w0 H w → ∃ q, some (⟨b, off, none⟩ : Addr) = some q ∧ w.cell? q = some (.int .i64 (xs.getD k 0)) := by
  intro w hw
  subst ho
  refine ⟨_, rfl, Blk.cell hw hp ?_⟩
  have : 0 + k * 1 = k := by omega
  rw [this, List.getElem?_map, List.getElem?_eq_getElem (by omega)]
  simp [List.getD, hk, hn]
theorem Ef.storeArr {T : TypeId} {x y : Operand} {b t off n : Nat} {xs : List Int} {v : Int} (i : Nat) (k : Nat) (ho : o.op = .store T x y) (hs : Sz P T 1) (hx : ev σ x = some (.pointer (some ⟨b, off, none⟩))) (hy : ev σ y = some (.int .i64 v))
    (hp : pull i H = some (Blk b (xs.map (Value.int .i64)) t, H')) (hoff : off = 0 + k * 1) (hk : k < n) (hn : xs.length = n) :
    Ef P w0 o σ H Q (fun _ H'' => H'' = repl i H (Blk b ((xs.set k v).map (Value.int .i64)) t)) := by
  subst hoff
  have h0 : 0 + k * 1 = k := by omega
  rw [h0] at hx
  exact Ef.store1 i ho hs hx hy hp rfl rfl (by simp; omega) (by rw [List.map_set])
end
end Go.Vc
