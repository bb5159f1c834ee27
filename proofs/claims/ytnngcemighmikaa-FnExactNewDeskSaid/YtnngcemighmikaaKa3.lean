/-
  The calculus and plain words, part 3.
-/
import Derived.Test.YtnngcemighmikaaKa2
import Derived.Lib.SliceRun
set_option linter.unusedVariables false
set_option linter.unusedSimpArgs false
/-
  The calculus, part 8: rows of rows: a row of slices, and what they lead to.
-/
namespace Go.Vc
open Go Go.RowKit

section
variable {P : Program} {w0 w : World} {H H' : List Assn} {α : Type} {T : TypeId} {C : Cod α}

/-- The slices' values; what they hold. -/
def tops (ps : List (Sl × List α)) : List Sl := ps.map (·.1)
def conts (ps : List (Sl × List α)) : List (List α) := ps.map (·.2)
theorem tops_len (ps : List (Sl × List α)) : (tops ps).length = ps.length := List.length_map ..
theorem conts_len (ps : List (Sl × List α)) : (conts ps).length = ps.length := List.length_map ..
theorem tops_append (ps qs : List (Sl × List α)) : tops (ps ++ qs) = tops ps ++ tops qs := List.map_append ..
theorem conts_append (ps qs : List (Sl × List α)) : conts (ps ++ qs) = conts ps ++ conts qs := List.map_append ..
theorem tops_get (ps : List (Sl × List α)) {k : Nat} (hk : k < (tops ps).length) : (tops ps)[k] = (ps[k]'(by rw [← tops_len]; exact hk)).1 := List.getElem_map ..
theorem conts_get (ps : List (Sl × List α)) {k : Nat} (hk : k < (conts ps).length) : (conts ps)[k] = (ps[k]'(by rw [← conts_len]; exact hk)).2 := List.getElem_map ..

def rowA (T : TypeId) (C : Cod α) (p : Sl × List α) : Assn := .sep (.pur (p.1.n = p.2.length)) (Own T C p.1.A p.1.c p.2)
/-- The inner rows: each owned, apart. -/
def RowsA (T : TypeId) (C : Cod α) (ps : List (Sl × List α)) : Assn := ⟨fun w F => SatF (ps.map (rowA T C)) w F, fun h hk => SatF.loc h hk⟩

theorem SatF_append {H1 H2 : List Assn} {w : World} {F : Nat → Prop} : SatF (H1 ++ H2) w F ↔ ∃ F1 F2, SatF H1 w F1 ∧ SatF H2 w F2 ∧ (∀ k, F1 k → ¬ F2 k) ∧ ∀ k, F k ↔ F1 k ∨ F2 k := by
  constructor
  · intro h
    induction H1 generalizing F with
    | nil => exact ⟨fun _ => False, F, fun _ h => h, h, fun _ h => h.elim, fun k => by simp⟩
    | cons A H1 ih =>
      obtain ⟨G1, G2, g1, g2, gd, gF⟩ := h
      obtain ⟨K1, K2, k1, k2, kd, kF⟩ := ih g2
      refine ⟨fun k => G1 k ∨ K1 k, K2, ⟨G1, K1, g1, k1, fun k h1 h2 => gd k h1 ((kF k).2 (.inl h2)), fun _ => Iff.rfl⟩, k2, ?_, ?_⟩
      · rintro k (h1 | h1) h2
        · exact gd k h1 ((kF k).2 (.inr h2))
        · exact kd k h1 h2
      · intro k
        rw [gF k, kF k, or_assoc]
  · rintro ⟨F1, F2, h1, h2, hd, hF⟩
    exact SatF_congr (SatF.append h1 h2 hd) (fun k => (hF k).symm)
theorem St.rows {ps : List (Sl × List α)} : St w0 (RowsA T C ps :: H) w ↔ St w0 (ps.map (rowA T C) ++ H) w := by
  constructor
  · rintro ⟨hb, F, ⟨F1, F2, h1, h2, hd, hF⟩, hk⟩
    exact ⟨hb, F, SatF_append.2 ⟨F1, F2, h1, h2, hd, hF⟩, hk⟩
  · rintro ⟨hb, F, hs, hk⟩
    obtain ⟨F1, F2, h1, h2, hd, hF⟩ := SatF_append.1 hs
    exact ⟨hb, F, ⟨F1, F2, h1, h2, hd, hF⟩, hk⟩
theorem RowsA.nil (hw : St w0 H w) : St w0 (RowsA T C ([] : List (Sl × List α)) :: H) w := St.rows.2 hw
theorem RowsA.permP {ps qs : List (Sl × List α)} (hp : ps.Perm qs) : ∀ w F, (RowsA T C ps).P w F → (RowsA T C qs).P w F := fun _ _ h => SatF.perm (hp.map _) h
theorem RowsA.perm {ps qs : List (Sl × List α)} (hp : ps.Perm qs) (hw : St w0 (RowsA T C ps :: H) w) : St w0 (RowsA T C qs :: H) w := hw.mono (RowsA.permP hp)
theorem RowsA.cons {A : Option Addr} {c : Nat} {xs : List α} {ps : List (Sl × List α)} (hw : St w0 (Own T C A c xs :: RowsA T C ps :: H) w) : St w0 (RowsA T C ((⟨A, xs.length, c⟩, xs) :: ps) :: H) w := by
  refine St.rows.2 ?_
  have h1 := St.rows.1 (hw.perm (List.Perm.swap _ _ _))
  have h2 : St w0 (Own T C A c xs :: (ps.map (rowA T C) ++ H)) w := h1.perm List.perm_middle
  exact (St.addPur rfl h2).unsep
theorem RowsA.uncons {s : Sl} {xs : List α} {ps : List (Sl × List α)} (hw : St w0 (RowsA T C ((s, xs) :: ps) :: H) w) : s.n = xs.length ∧ St w0 (Own T C s.A s.c xs :: RowsA T C ps :: H) w := by
  have h1 : St w0 (rowA T C (s, xs) :: (ps.map (rowA T C) ++ H)) w := St.rows.1 hw
  obtain ⟨h2, h3⟩ := (St.sep h1).pur
  refine ⟨h2, ?_⟩
  refine St.perm ?_ (List.Perm.swap _ _ _)
  refine St.rows.2 ?_
  exact h3.perm List.perm_middle.symm
theorem RowsA.app {ps qs : List (Sl × List α)} (hw : St w0 (RowsA T C ps :: RowsA T C qs :: H) w) : St w0 (RowsA T C (ps ++ qs) :: H) w := by
  refine St.rows.2 ?_
  rw [List.map_append, List.append_assoc]
  have h1 := St.rows.1 hw
  have h2 : St w0 (RowsA T C qs :: (ps.map (rowA T C) ++ H)) w := h1.perm List.perm_middle
  have h3 := St.rows.1 h2
  refine h3.perm ?_
  rw [← List.append_assoc, ← List.append_assoc]
  exact List.perm_append_comm.append_right H
theorem RowsA.unapp {ps qs : List (Sl × List α)} (hw : St w0 (RowsA T C (ps ++ qs) :: H) w) : St w0 (RowsA T C ps :: RowsA T C qs :: H) w := by
  have h1 := St.rows.1 hw
  rw [List.map_append, List.append_assoc] at h1
  refine St.rows.2 ?_
  have h2 : St w0 (qs.map (rowA T C) ++ (ps.map (rowA T C) ++ H)) w := h1.perm (by
    rw [← List.append_assoc, ← List.append_assoc]
    exact List.perm_append_comm.append_right H)
  exact (St.rows.2 h2).perm List.perm_middle.symm
theorem Own.le {A : Option Addr} {c i : Nat} {xs : List α} (hw : St w0 H w) (hp : pull i H = Option.some (Own T C A c xs, H')) : xs.length ≤ 9223372036854775807 := by
  obtain ⟨F, ho, hF⟩ := hw.get i hp
  rcases ho.2 with ⟨h1, h2⟩ | ⟨g, cap, cur, hvv, hbase, hh, hle, hmax, hcs, htake⟩
  · omega
  · simp only [maxLen] at hmax
    omega
theorem RowsA.rd {i : Nat} {ps : List (Sl × List α)} (hw : St w0 H w) (hp : pull i H = some (RowsA T C ps, H')) {p : Sl × List α} (hm : p ∈ ps) : (p.1.n = p.2.length ∧ p.2.length ≤ 9223372036854775807) ∧ Rd C w p.1.A p.2 := by
  obtain ⟨l, r, rfl⟩ := List.append_of_mem hm
  have h1 := RowsA.perm (qs := p :: (l ++ r)) List.perm_middle (hw.perm (pull_perm hp))
  obtain ⟨h2, h3⟩ := RowsA.uncons (s := p.1) (xs := p.2) h1
  exact ⟨⟨h2, Own.le h3 (i := 0) rfl⟩, Own.rd h3 (i := 0) rfl⟩
/-- The lengths are what they are told to be. -/
def LenOk (ps : List (Sl × List α)) : Prop := ∀ p ∈ ps, p.1.n = p.2.length ∧ p.2.length ≤ 9223372036854775807
theorem LenOk.le {ps : List (Sl × List α)} (h : LenOk ps) {k : Nat} (hk : k < ps.length) : (ps[k]).2.length ≤ 9223372036854775807 := (h _ (List.getElem_mem hk)).2
theorem RowsA.len {ps : List (Sl × List α)} (i : Nat) (hp : pull i H = some (RowsA T C ps, H')) : ∀ w, St w0 H w → LenOk ps := fun _ hw _ hm => (RowsA.rd hw hp hm).1
theorem LenOk.sl {ps : List (Sl × List α)} (h : LenOk ps) {k : Nat} (hk : k < ps.length) : (ps[k]).1.v = .slice (ps[k]).1.A (ps[k]).2.length (ps[k]).1.c := by
  unfold Sl.v
  rw [(h _ (List.getElem_mem hk)).1]

/-- What a load of slice k finds. -/
theorem Ld.row {A : Option Addr} {ps : List (Sl × List α)} (hr : ∀ w, St w0 H w → Rd SlC w A (tops ps)) (hn : LenOk ps) {k s : Nat} (hk : k < ps.length) (hs : s = 1) :
    ∀ w, St w0 H w → ∃ q, A.map (·.add (k * s)) = some q ∧ w.cell? q = some (.slice (ps[k]).1.A (ps[k]).2.length (ps[k]).1.c) := by
  have hk' : k < (tops ps).length := by rw [tops_len]; exact hk
  refine Ld.rd (C := SlC) hr hk' hs ?_
  simp only [SlC]
  rw [tops_get ps hk', hn.sl hk]
/-- .. and what lies there. -/
theorem Ld.rows {ps : List (Sl × List α)} (i : Nat) (hp : pull i H = some (RowsA T C ps, H')) {k : Nat} (hk : k < ps.length) : ∀ w, St w0 H w → Rd C w (ps[k]).1.A (ps[k]).2 :=
  fun _ hw => (RowsA.rd hw hp (List.getElem_mem hk)).2

/-- A list of lists that is read. -/
structure RdL (C : Cod α) (w : World) (A : Option Addr) (ps : List (Sl × List α)) : Prop where
  top : Rd SlC w A (tops ps)
  len : LenOk ps
  row : ∀ k (hk : k < ps.length), Rd C w (ps[k]).1.A (ps[k]).2
theorem RdL.below {A : Option Addr} {ps : List (Sl × List α)} {w' : World} (h : RdL C w A ps) (hb : Bel w.heap.size w w') : RdL C w' A ps := ⟨h.top.below hb, h.len, fun k hk => (h.row k hk).below hb⟩
theorem RdL.st {A : Option Addr} {ps : List (Sl × List α)} (h : RdL C w0 A ps) (hw : St w0 H w) : RdL C w A ps := h.below hw.below
theorem Ld.ll {T2 c : Nat} {A : Option Addr} {ps : List (Sl × List α)} {H2 : List Assn} (i j : Nat) (hp : pull i H = some (Own T2 SlC A c (tops ps), H')) (hq : pull j H = some (RowsA T C ps, H2)) : ∀ w, St w0 H w → RdL C w A ps :=
  fun w hw => ⟨Own.rd hw hp, RowsA.len j hq w hw, fun k hk => Ld.rows j hq hk w hw⟩
theorem RdL.nil (C : Cod α) (w : World) (A : Option Addr) : RdL C w A [] := ⟨Rd.nil _ _ _, fun _ h => by simp at h, fun k hk => by simp at hk⟩

/-- A list of lists, owned whole, as a value. -/
def LLv (T2 T : TypeId) (C : Cod α) (v : Value) (p : (Option Addr × Nat) × List (Sl × List α)) (xss : List (List α)) : Assn :=
  .sep (.pur (v = .slice p.1.1 (tops p.2).length p.1.2 ∧ conts p.2 = xss)) (.sep (Own T2 SlC p.1.1 p.1.2 (tops p.2)) (RowsA T C p.2))

/-- Nothing is owned at nil. -/
theorem Own.nilP (w : World) : (Own T C none 0 ([] : List α)).P w (fun _ => False) := by
  refine ⟨⟨by simp, .inl ⟨?_, ?_⟩⟩, fun k => ?_⟩
  all_goals simp [Value.ownBlock]
theorem St.addNil (hw : St w0 H w) : St w0 (Own T C none 0 ([] : List α) :: H) w :=
  hw.add (Bel.refl _ _) (Own.nilP w) (fun _ h => h.elim)

theorem tops_put {ps : List (Sl × List α)} {s : Sl} {xs : List α} (y : Nat) : tops (ps.take y ++ (s, xs) :: ps.drop y) = (tops ps).take y ++ s :: (tops ps).drop y := by simp [tops, List.map_take, List.map_drop]
theorem conts_put {ps : List (Sl × List α)} {s : Sl} {xs : List α} (y : Nat) : conts (ps.take y ++ (s, xs) :: ps.drop y) = (conts ps).take y ++ xs :: (conts ps).drop y := by simp [conts, List.map_take, List.map_drop]
theorem put_heap {T2 c d y : Nat} {A B : Option Addr} {ps : List (Sl × List α)} {xs : List α} {z : Sl} (hy : y ≤ ps.length) (hw : St w0 (Own T2 SlC A c ((shiftAt (tops ps) z y).set y ⟨B, xs.length, d⟩) :: RowsA T C ps :: Own T C B d xs :: H) w) :
    St w0 (Own T2 SlC A c (tops (ps.take y ++ (⟨B, xs.length, d⟩, xs) :: ps.drop y)) :: RowsA T C (ps.take y ++ (⟨B, xs.length, d⟩, xs) :: ps.drop y) :: H) w := by
  rw [shiftAt_done (by rw [tops_len]; exact hy), ← tops_put (xs := xs)] at hw
  have h1 := hw.perm (H' := Own T C B d xs :: RowsA T C ps :: Own T2 SlC A c (tops (ps.take y ++ (⟨B, xs.length, d⟩, xs) :: ps.drop y)) :: H) (by
    refine (List.Perm.swap _ _ _).trans ?_
    refine ((List.Perm.swap _ _ _).cons _).trans ?_
    exact List.Perm.swap _ _ _)
  have h2 := RowsA.perm (qs := ps.take y ++ (⟨B, xs.length, d⟩, xs) :: ps.drop y) (by
    refine List.Perm.trans ?_ List.perm_middle.symm
    rw [List.take_append_drop]) (RowsA.cons h1)
  exact h2.perm (List.Perm.swap _ _ _)
theorem snoc_heap {D : Cod Sl} {T2 c d : Nat} {A B : Option Addr} {ps : List (Sl × List α)} {xs : List α} (hw : St w0 (Own T2 D A c (tops ps ++ [⟨B, xs.length, d⟩]) :: RowsA T C ps :: Own T C B d xs :: H) w) :
    St w0 (Own T2 D A c (tops (ps ++ [(⟨B, xs.length, d⟩, xs)])) :: RowsA T C (ps ++ [(⟨B, xs.length, d⟩, xs)]) :: H) w := by
  rw [tops_append]
  have h1 := hw.perm (H' := Own T C B d xs :: RowsA T C ps :: Own T2 D A c (tops ps ++ [⟨B, xs.length, d⟩]) :: H) (by
    refine (List.Perm.swap _ _ _).trans ?_
    refine ((List.Perm.swap _ _ _).cons _).trans ?_
    exact List.Perm.swap _ _ _)
  have h2 := RowsA.perm (qs := ps ++ [(⟨B, xs.length, d⟩, xs)]) (List.perm_append_comm (l₁ := [_])) (RowsA.cons h1)
  exact h2.perm (List.Perm.swap _ _ _)
theorem one_heap {D : Cod Sl} {T2 c d : Nat} {A B : Option Addr} {xs : List α} (hw : St w0 (Own T2 D A c [⟨B, xs.length, d⟩] :: Own T C B d xs :: H) w) :
    St w0 (Own T2 D A c (tops [((⟨B, xs.length, d⟩ : Sl), xs)]) :: RowsA T C [((⟨B, xs.length, d⟩ : Sl), xs)] :: H) w :=
  snoc_heap (ps := []) ((RowsA.nil (T := T) (C := C) hw).perm (List.Perm.swap _ _ _))
theorem app_heap {D : Cod Sl} {T2 c : Nat} {A : Option Addr} {ps qs : List (Sl × List α)} (hw : St w0 (Own T2 D A c (tops ps ++ tops qs) :: RowsA T C ps :: RowsA T C qs :: H) w) :
    St w0 (Own T2 D A c (tops (ps ++ qs)) :: RowsA T C (ps ++ qs) :: H) w := by
  rw [tops_append]
  have h1 := hw.perm (H' := RowsA T C ps :: RowsA T C qs :: Own T2 D A c (tops ps ++ tops qs) :: H) ((List.Perm.swap _ _ _).trans ((List.Perm.swap _ _ _).cons _))
  exact (RowsA.app h1).perm (List.Perm.swap _ _ _)
theorem unrow {ps : List (Sl × List α)} {k : Nat} (hk : k < ps.length) (hw : St w0 (RowsA T C (ps.drop k) :: H) w) : St w0 (Own T C (ps[k]).1.A (ps[k]).1.c (ps[k]).2 :: RowsA T C (ps.drop (k + 1)) :: H) w := by
  rw [drop_cons hk] at hw
  exact (RowsA.uncons (s := (ps[k]).1) (xs := (ps[k]).2) hw).2
theorem Pu.eqlNil {o : Oper} {σ : Sig} {T T2 e : TypeId} {x y : Operand} {A : Option Addr} {n c m d : Nat} (hT : P.underlying T = some (.slice e)) (ho : o.op = .binOp .eql T x y T2) (hx : ev σ x = some (.slice A n c)) (hy : ev σ y = some (.slice none m d)) : Pu P w0 o σ H (.bool A.isNone) := by
  intro w hw a ha
  have h1 := ha x (by simp [ho, Op.operands]) _ hx
  have h2 := ha y (by simp [ho, Op.operands]) _ hy
  have he : (eqGuard .eql T x y (.slice A n c) (.slice none m d)).run P w = .ok () w := by
    unfold eqGuard
    simp
  simp [execOp, ho, h1, h2, he, Go.Lib.run_eql_slice_nil w T e A n c m d hT]
/-- A call of a function's value, whose result is a plain one. -/
theorem Ef.callPV {Q : Exit → Act → World → Prop} {o : Oper} {σ : Sig} {f : Operand} {g : FuncId} {l : List Operand} {ts : Array TypeId} {vs : List Value} {caps : Array Value} {r : Value} (hok : CallOk P g) (ho : o.op = .call { callee := .value f, args := l.toArray, argTypes := ts }) (hf : ev σ f = some (.func (.func g) #[] caps))
    (hargs : evs σ l = some vs) (hfn : ∀ w, St w0 H w → Does P g (vs ++ caps.toList) w [] (fun v => [.pur (v = r)])) : Ef P w0 o σ H Q (fun v H' => v = r ∧ H' = H) := by
  intro w hw a ha
  have := Ef.callV (Q := Q) ho hf hok hargs (Does.frame hfn) w hw a ha
  refine Oper.wp_mono ?_ this
  rintro a' w' ⟨v, H', rfl, hs, rfl⟩
  have hs' : St w0 (.pur (v = r) :: H) w' := hs
  exact ⟨v, H, rfl, hs'.pur.2, hs'.pur.1, rfl⟩
/-- A block of cells that is read. -/
def RdB (w : World) (b : Nat) (cs : List Value) : Prop := ∀ m u, cs[m]? = some u → w.cell? ⟨b, m, none⟩ = some u
theorem RdB.below {w' : World} {b : Nat} {cs : List Value} (h : RdB w b cs) (hb : Bel w.heap.size w w') : RdB w' b cs := by
  intro m u hm
  have h1 := h m u hm
  rw [hb.low.cell (World.block_lt_of_cell? w _ h1)]
  exact h1
theorem Blk.rdb {b t i : Nat} {cs : List Value} (hw : St w0 H w) (hp : pull i H = Option.some (Blk b cs t, H')) : RdB w b cs := fun m u hm => Blk.cell hw hp hm
theorem Ld.rdb {b j : Nat} {cs : List Value} {u : Value} (h : RdB w0 b cs) (hj : cs[j]? = some u) : ∀ w, St w0 H w → ∃ q, some (⟨b, j, none⟩ : Addr) = some q ∧ w.cell? q = some u := fun w hw => ⟨_, rfl, h.below hw.below j u hj⟩
theorem Ld.rdbs {b : Nat} {cs : List Value} (h : RdB w0 b cs) : ∀ w, St w0 H w → ∃ q, some (⟨b, 0, none⟩ : Addr) = some q ∧ ∀ m u, cs[m]? = some u → w.cell? (q.add m) = some u := by
  intro w hw
  refine ⟨_, rfl, fun m u hm => ?_⟩
  rw [add_mk, Nat.zero_add]
  exact h.below hw.below m u hm
theorem Rd.none {C : Cod α} {A : Option Addr} {xs : List α} (h : Rd C w A xs) (hA : A = none) : xs = [] := by
  cases xs with
  | nil => rfl
  | cons x xs =>
    have := h.some (by simp)
    rw [hA] at this
    cases this
theorem Pu.indexAddrS {o : Oper} {σ : Sig} {T : TypeId} {x y : Operand} {A : Option Addr} {n c : Nat} {e sz : Nat} {K : IntKind} {i : Int} (k : Nat) (ho : o.op = .indexAddr T x y) (hT : P.underlying T = some (.slice e)) (hs : Sz P e sz) (hx : ev σ x = some (.slice A n c)) (hy : ev σ y = some (.int K i)) (hi : i = (k : Int)) (hk : k < n) (hA : ∀ w, St w0 H w → A.isSome = true) :
    Pu P w0 o σ H (.pointer (A.map (·.add (k * sz)))) := fun w hw a ha => Pu.indexAddr k ho hT hs hx hy hi hk (hA w hw) w hw a ha
theorem Does.pre {f : FuncId} {args : List Value} {R : Value → List Assn} (hs : ∀ w, St w0 H w → St w0 H' w) (h : Does P f args w0 H' R) : Does P f args w0 H R := fun w hw => h w (hs w hw)

variable {N : Nat} {Q : Exit → Act → World → Prop} {σ : Sig} {ops : Array Oper} {rest : List Oper}
theorem V.map {c : Code} (hs : ∀ w, St w0 H w → St w0 H' w) (h : V P N w0 c Q σ H') : V P N w0 c Q σ H := fun w hw a ha => h w (hs w hw) a ha
theorem O.map (hs : ∀ w, St w0 H w → St w0 H' w) (h : O P N w0 ops Q rest σ H') : O P N w0 ops Q rest σ H := fun w hw a ha => h w (hs w hw) a ha
theorem X.map {e : Exit} (hs : ∀ w, St w0 H w → St w0 H' w) (h : X N w0 Q e σ H') : X N w0 Q e σ H := fun w hw a ha => h w (hs w hw) a ha
end
end Go.Vc
/-
  Plain words: masks of points; classes: sets of disjoint blocks that have all points.
-/
namespace Go.Vc

/-! ### Masks -/
theorem bit_one (m p : Nat) : (m >>> p) &&& 1 = if m.testBit p then 1 else 0 := by
  rw [Nat.and_one_is_mod, Nat.shiftRight_eq_div_pow, Nat.testBit_eq_decide_div_mod_eq]
  have := Nat.mod_two_eq_zero_or_one (m / 2 ^ p)
  rcases this with h | h <;> simp [h]
theorem bit_is (m p : Nat) : (m >>> p) &&& 1 = 1 ↔ m.testBit p = true := by rw [bit_one]; split <;> simp_all
theorem bit_not (m p : Nat) : (m >>> p) &&& 1 = 0 ↔ m.testBit p = false := by rw [bit_one]; split <;> simp_all
def bmask (b : B3) : Nat := 2 ^ b.1.toNat + 2 ^ b.2.1.toNat + 2 ^ b.2.2.toNat
theorem three_bits {x y z : Nat} (h1 : x < y) (h2 : y < z) (i : Nat) : (2 ^ x + 2 ^ y + 2 ^ z).testBit i = decide (i = x ∨ i = y ∨ i = z) := by
  have e1 : 2 ^ x + 2 ^ y + 2 ^ z = 2 ^ z + (2 ^ y + 2 ^ x) := by omega
  have l1 : 2 ^ x < 2 ^ y := Nat.pow_lt_pow_right (by decide) h1
  have l2 : 2 ^ y + 2 ^ x < 2 ^ z := by
    have : 2 ^ (y + 1) ≤ 2 ^ z := Nat.pow_le_pow_right (by decide) h2
    rw [Nat.pow_succ] at this
    omega
  have e2 := Nat.two_pow_add_eq_or_of_lt l2 1
  have e3 := Nat.two_pow_add_eq_or_of_lt l1 1
  rw [Nat.mul_one] at e2 e3
  rw [e1, e2, e3]
  simp only [Nat.testBit_or, Nat.testBit_two_pow]
  by_cases a : i = x <;> by_cases b : i = y <;> by_cases c : i = z <;> simp [a, b, c] <;> omega
theorem bmask_bit {v : Int} {b : B3} (h : good v b) (p : Nat) : (bmask b).testBit p = true ↔ has b (p : Int) := by
  unfold good at h
  unfold bmask has
  rw [three_bits (by omega) (by omega)]
  simp only [decide_eq_true_eq]
  omega
theorem bmask_lt {b : B3} (h : good 15 b) : bmask b < 65536 := by
  unfold good at h
  unfold bmask
  have h1 : 2 ^ b.1.toNat ≤ 2 ^ 14 := Nat.pow_le_pow_right (by decide) (by omega)
  have h2 : 2 ^ b.2.1.toNat ≤ 2 ^ 14 := Nat.pow_le_pow_right (by decide) (by omega)
  have h3 : 2 ^ b.2.2.toNat ≤ 2 ^ 14 := Nat.pow_le_pow_right (by decide) (by omega)
  omega
theorem and_zero {m n : Nat} : m &&& n = 0 ↔ ∀ p, ¬ (m.testBit p = true ∧ n.testBit p = true) := by
  constructor
  · intro h p hp
    have : (m &&& n).testBit p = true := by rw [Nat.testBit_and]; simp [hp]
    rw [h] at this
    simp at this
  · intro h
    apply Nat.eq_of_testBit_eq
    intro p
    rw [Nat.testBit_and]
    have := h p
    cases h1 : m.testBit p <;> cases h2 : n.testBit p <;> simp_all
theorem and_self {m n : Nat} : m &&& n = m ↔ ∀ p, m.testBit p = true → n.testBit p = true := by
  constructor
  · intro h p hp
    rw [← h, Nat.testBit_and] at hp
    simp at hp
    exact hp.2
  · intro h
    apply Nat.eq_of_testBit_eq
    intro p
    rw [Nat.testBit_and]
    have := h p
    cases h1 : m.testBit p <;> cases h2 : n.testBit p <;> simp_all

/-- How many of the first points a mask has. -/
def cov (m : Nat) : Nat → Nat
  | 0 => 0
  | v + 1 => cov m v + (if m.testBit v then 1 else 0)
theorem cov_le (m : Nat) : ∀ v, cov m v ≤ v := by
  intro v
  induction v with
  | zero => simp [cov]
  | succ v ih => simp only [cov]; split <;> omega
theorem cov_all {m : Nat} : ∀ {v : Nat}, cov m v = v ↔ ∀ p, p < v → m.testBit p = true := by
  intro v
  induction v with
  | zero => simp [cov]
  | succ v ih =>
    have := cov_le m v
    simp only [cov]
    constructor
    · intro h p hp
      split at h
      · by_cases e : p = v
        · subst e; assumption
        · exact ih.1 (by omega) p (by omega)
      · omega
    · intro h
      rw [if_pos (h v (by omega)), ih.2 (fun p hp => h p (by omega))]
theorem cov_or {m n : Nat} (h : m &&& n = 0) : ∀ v, cov (m ||| n) v = cov m v + cov n v := by
  intro v
  induction v with
  | zero => rfl
  | succ v ih =>
    have := and_zero.1 h v
    simp only [cov, ih, Nat.testBit_or]
    cases h1 : m.testBit v <;> cases h2 : n.testBit v <;> simp_all <;> omega
theorem cov_three {n x y z : Nat} (h1 : x < y) (h2 : y < z) (hn : ∀ p, n.testBit p = decide (p = x ∨ p = y ∨ p = z)) : ∀ v, cov n v = (if x < v then 1 else 0) + (if y < v then 1 else 0) + (if z < v then 1 else 0) := by
  intro v
  induction v with
  | zero => simp [cov]
  | succ v ih =>
    simp only [cov, ih, hn, decide_eq_true_eq]
    (repeat' split) <;> omega
theorem cov_bmask {v : Int} {b : B3} (h : good v b) : cov (bmask b) v.toNat = 3 := by
  have hb := h
  unfold good at h
  unfold bmask
  rw [cov_three (x := b.1.toNat) (y := b.2.1.toNat) (z := b.2.2.toNat) (by omega) (by omega) (fun p => three_bits (by omega) (by omega) p), if_pos (by omega), if_pos (by omega), if_pos (by omega)]

theorem pow35 {n : Nat} (h : 0 < n) : 35 ^ n = 35 * 35 ^ (n - 1) := by
  cases n with
  | zero => omega
  | succ n => rw [Nat.pow_succ, Nat.mul_comm]; rfl
/-! ### Classes -/
def blk (bs : List B3) (k : Int) : B3 := bs.getD k.toNat (0, 0, 0)
theorem blk_get {bs : List B3} {i : Nat} (h : i < bs.length) : blk bs (i : Int) = bs[i] := by simp [blk, h]
def okIx (bs : List B3) (k : Int) : Prop := 0 ≤ k ∧ k < bs.length
theorem blk_ix {bs : List B3} {k : Int} (h : okIx bs k) : blk bs k = bs[k.toNat]'(by obtain ⟨h1, h2⟩ := h; omega) := by
  obtain ⟨h1, h2⟩ := h
  have h3 : k.toNat < bs.length := by omega
  simp [blk, h3]
theorem blk_mem {bs : List B3} {k : Int} (h : okIx bs k) : blk bs k ∈ bs := by
  obtain ⟨h1, h2⟩ := h
  have h3 : k.toNat < bs.length := by omega
  have : blk bs k = bs[k.toNat] := by simp [blk, h3]
  rw [this]
  exact List.getElem_mem _
def disj (a b : B3) : Prop := ∀ p, ¬ (has a p ∧ has b p)
theorem disj.symm {a b : B3} (h : disj a b) : disj b a := fun p hp => h p ⟨hp.2, hp.1⟩
theorem not_disj_self (a : B3) : ¬ disj a a := fun h => h a.1 ⟨.inl rfl, .inl rfl⟩
/-- Blocks of numbers are disjoint. -/
def Djs (bs : List B3) (r : List Int) : Prop := r.Pairwise fun i j => disj (blk bs i) (blk bs j)
structure Cls (v : Int) (bs : List B3) (r : List Int) : Prop where
  ix : ∀ k ∈ r, okIx bs k
  up : r.Pairwise (· < ·)
  dj : Djs bs r
  all : ∀ p, 0 ≤ p → p < v → ∃ k ∈ r, has (blk bs k) p
structure Part (bs : List B3) (xs : List Int) (m : Nat) : Prop where
  ix : ∀ k ∈ xs, okIx bs k
  dj : Djs bs xs
  pts : ∀ p : Nat, m.testBit p = true ↔ ∃ k ∈ xs, has (blk bs k) (p : Int)
theorem Djs.inj {bs : List B3} {r : List Int} (h : Djs bs r) {i j : Int} (hi : i ∈ r) (hj : j ∈ r) (hne : i ≠ j) : disj (blk bs i) (blk bs j) := by
  induction r with
  | nil => simp at hi
  | cons a r ih =>
    obtain ⟨h1, h2⟩ := List.pairwise_cons.1 h
    rcases List.mem_cons.1 hi with rfl | hi'
    · rcases List.mem_cons.1 hj with rfl | hj'
      · exact absurd rfl hne
      · exact h1 _ hj'
    · rcases List.mem_cons.1 hj with rfl | hj'
      · exact (h1 _ hi').symm
      · exact ih h2 hi' hj'
theorem Djs.nodup {bs : List B3} {r : List Int} (h : Djs bs r) : r.Nodup := List.Pairwise.imp (fun {a b} hd e => by subst e; exact not_disj_self _ hd) h
/-- Two lists that strictly rise and have the same members. -/
theorem rise_unique : ∀ {l m : List Int}, l.Pairwise (· < ·) → m.Pairwise (· < ·) → (∀ r, r ∈ l ↔ r ∈ m) → l = m := by
  intro l
  induction l with
  | nil =>
    intro m _ _ h
    cases m with
    | nil => rfl
    | cons b m => exact absurd ((h b).2 (by simp)) (by simp)
  | cons a l ih =>
    intro m h1 h2 h
    cases m with
    | nil => exact absurd ((h a).1 (by simp)) (by simp)
    | cons b m =>
      obtain ⟨ha, hl⟩ := List.pairwise_cons.1 h1
      obtain ⟨hb, hm⟩ := List.pairwise_cons.1 h2
      have hab : a = b := by
        rcases List.mem_cons.1 ((h a).1 (by simp)) with e | e
        · exact e
        · rcases List.mem_cons.1 ((h b).2 (by simp)) with e' | e'
          · exact e'.symm
          · have := hb a e; have := ha b e'; omega
      subst hab
      rw [ih hl hm]
      intro r
      constructor
      · intro hr
        rcases List.mem_cons.1 ((h r).1 (by simp [hr])) with e | e
        · subst e
          have := ha _ hr; omega
        · exact e
      · intro hr
        rcases List.mem_cons.1 ((h r).2 (by simp [hr])) with e | e
        · subst e
          have := hb _ hr; omega
        · exact e
theorem rise_of {l : List Int} (hs : l.Pairwise (· ≤ ·)) (hn : l.Nodup) : l.Pairwise (· < ·) := by
  have := hs.and hn
  exact this.imp (fun {a b} h => by have := h.1; have := h.2; omega)
theorem good_lt {v : Int} {b : B3} (h : good v b) {p : Int} (hp : has b p) : 0 ≤ p ∧ p < v := by
  unfold good at h
  rcases hp with e | e | e <;> omega

section
variable {v : Int} {bs : List B3} {xs ys : List Int} {m : Nat}
/-- All points are met: one class begins so. -/
theorem cls_full (hb : ∀ b ∈ bs, good v b) (hp : Part bs xs m) (hm : m = 2 ^ v.toNat - 1) (hperm : ys.Perm xs) (hs : ys.Pairwise (· ≤ ·)) (r : List Int) : r = ys ↔ Cls v bs r ∧ ∀ k ∈ xs, k ∈ r := by
  have hup : ys.Pairwise (· < ·) := rise_of hs (hperm.nodup_iff.2 hp.dj.nodup)
  have hall : ∀ p, 0 ≤ p → p < v → ∃ k ∈ xs, has (blk bs k) p := by
    intro p h0 h1
    have h2 : m.testBit p.toNat = true := by rw [hm, Nat.testBit_two_pow_sub_one]; simp; omega
    obtain ⟨k, hk, hk2⟩ := (hp.pts _).1 h2
    exact ⟨k, hk, by rwa [Int.toNat_of_nonneg h0] at hk2⟩
  constructor
  · rintro rfl
    exact ⟨⟨fun k hk => hp.ix k (hperm.mem_iff.1 hk), hup, (hperm.pairwise_iff (fun h => h.symm)).2 hp.dj, fun p h0 h1 => let ⟨k, hk, h⟩ := hall p h0 h1; ⟨k, hperm.mem_iff.2 hk, h⟩⟩, fun k hk => hperm.mem_iff.2 hk⟩
  · rintro ⟨hc, hx⟩
    refine rise_unique hc.up hup (fun k => ?_)
    rw [hperm.mem_iff]
    refine ⟨fun hk => ?_, hx k⟩
    have hg := good_lt (hb _ (blk_mem (hc.ix k hk))) (p := (blk bs k).1) (.inl rfl)
    obtain ⟨j, hj, hj2⟩ := hall _ hg.1 hg.2
    by_cases e : j = k
    · exact e ▸ hj
    · exact absurd ⟨hj2, .inl rfl⟩ (hc.dj.inj (hx j hj) hk e (blk bs k).1)
/-- A block more. -/
theorem part_snoc (hb : ∀ b ∈ bs, good v b) (hp : Part bs xs m) {i : Nat} (hi : i < bs.length) (h0 : bmask bs[i] &&& m = 0) : Part bs (xs ++ [(i : Int)]) (m ||| bmask bs[i]) := by
  have hg := hb _ (List.getElem_mem hi)
  have h0' := and_zero.1 h0
  refine ⟨?_, ?_, ?_⟩
  · intro k hk
    rcases List.mem_append.1 hk with h | h
    · exact hp.ix k h
    · simp at h; subst h; exact ⟨by omega, by omega⟩
  · refine List.pairwise_append.2 ⟨hp.dj, List.pairwise_singleton .., ?_⟩
    intro a ha b hb'
    simp at hb'
    subst hb'
    intro p hpp
    rw [blk_get hi] at hpp
    have hq := good_lt hg hpp.2
    have h1 : m.testBit p.toNat = true := (hp.pts _).2 ⟨a, ha, by rw [Int.toNat_of_nonneg hq.1]; exact hpp.1⟩
    have h2 : (bmask bs[i]).testBit p.toNat = true := (bmask_bit hg _).2 (by rw [Int.toNat_of_nonneg hq.1]; exact hpp.2)
    exact h0' _ ⟨h2, h1⟩
  · intro p
    rw [Nat.testBit_or, Bool.or_eq_true, hp.pts, bmask_bit hg]
    constructor
    · rintro (⟨k, hk, h⟩ | h)
      · exact ⟨k, by simp [hk], h⟩
      · exact ⟨i, by simp, by rw [blk_get hi]; exact h⟩
    · rintro ⟨k, hk, h⟩
      rcases List.mem_append.1 hk with hk | hk
      · exact .inl ⟨k, hk, h⟩
      · simp at hk; subst hk; rw [blk_get hi] at h; exact .inr h
/-- What is found with the first blocks that have a point. -/
def FoundC (v : Int) (bs : List B3) (xs : List Int) (p : Int) (i : Nat) (r : List Int) : Prop := Cls v bs r ∧ (∀ k ∈ xs, k ∈ r) ∧ ∃ j : Nat, j < i ∧ (j : Int) ∈ r ∧ has (blk bs j) p
theorem found_zero {p : Int} {r : List Int} : ¬ FoundC v bs xs p 0 r := by rintro ⟨_, _, j, hj, _⟩; omega
theorem found_skip {p : Int} {i : Nat} {r : List Int} (h : ∀ r, ¬ (Cls v bs r ∧ (∀ k ∈ xs, k ∈ r) ∧ (i : Int) ∈ r ∧ has (blk bs i) p)) : FoundC v bs xs p (i + 1) r ↔ FoundC v bs xs p i r := by
  constructor
  · rintro ⟨h1, h2, j, hj, h3, h4⟩
    by_cases e : j = i
    · subst e
      exact absurd ⟨h1, h2, h3, h4⟩ (h r)
    · exact ⟨h1, h2, j, by omega, h3, h4⟩
  · rintro ⟨h1, h2, j, hj, h3⟩
    exact ⟨h1, h2, j, by omega, h3⟩
theorem found_succ {p : Int} {i : Nat} {r : List Int} (hh : has (blk bs i) p) : FoundC v bs xs p (i + 1) r ↔ FoundC v bs xs p i r ∨ (Cls v bs r ∧ ∀ k ∈ xs ++ [(i : Int)], k ∈ r) := by
  constructor
  · rintro ⟨h1, h2, j, hj, h3, h4⟩
    by_cases e : j = i
    · subst e
      refine .inr ⟨h1, fun k hk => ?_⟩
      rcases List.mem_append.1 hk with h | h
      · exact h2 k h
      · simp at h; subst h; exact h3
    · exact .inl ⟨h1, h2, j, by omega, h3, h4⟩
  · rintro (⟨h1, h2, j, hj, h3⟩ | ⟨h1, h2⟩)
    · exact ⟨h1, h2, j, by omega, h3⟩
    · exact ⟨h1, fun k hk => h2 k (by simp [hk]), i, by omega, h2 i (by simp), hh⟩
theorem found_all {p : Nat} (hv : (p : Int) < v) {r : List Int} : FoundC v bs xs (p : Int) bs.length r ↔ Cls v bs r ∧ ∀ k ∈ xs, k ∈ r := by
  constructor
  · rintro ⟨h1, h2, _⟩
    exact ⟨h1, h2⟩
  · rintro ⟨h1, h2⟩
    obtain ⟨k, hk, h3⟩ := h1.all p (by omega) hv
    have hk2 := h1.ix k hk
    have hk3 : ((k.toNat : Nat) : Int) = k := Int.toNat_of_nonneg hk2.1
    exact ⟨h1, h2, k.toNat, by have := hk2.2; omega, by rw [hk3]; exact hk, by rw [hk3]; exact h3⟩
/-- A block that meets those there are leads nowhere. -/
theorem found_meets (hb : ∀ b ∈ bs, good v b) (hp : Part bs xs m) {p i : Nat} (hi : i < bs.length) (hpm : m.testBit p = false) (h0 : ¬ bmask bs[i] &&& m = 0) (r : List Int) : ¬ (Cls v bs r ∧ (∀ k ∈ xs, k ∈ r) ∧ (i : Int) ∈ r ∧ has (blk bs i) (p : Int)) := by
  rintro ⟨h1, h2, h3, h4⟩
  apply h0
  rw [and_zero]
  rintro q ⟨hq1, hq2⟩
  have hg := hb _ (List.getElem_mem hi)
  obtain ⟨k, hk, hk2⟩ := (hp.pts q).1 hq2
  have hq3 := (bmask_bit hg q).1 hq1
  by_cases e : k = (i : Int)
  · subst e
    have : m.testBit p = true := (hp.pts p).2 ⟨_, hk, h4⟩
    rw [hpm] at this
    cases this
  · exact h1.dj.inj (h2 k hk) h3 e _ ⟨hk2, by rw [blk_get hi]; exact hq3⟩
theorem part_nil : Part bs [] 0 := ⟨by simp, List.Pairwise.nil, by simp⟩
/-- Points are left. -/
theorem part_left (hb : ∀ b ∈ bs, good v b) (hp : Part bs xs m) (hm : ¬ m = 2 ^ v.toNat - 1) {p : Nat} (h : ∀ q, q < p → m.testBit q = true) : (p : Int) < v := by
  rcases Int.lt_or_le (p : Int) v with h1 | h1
  · exact h1
  · exfalso
    apply hm
    apply Nat.eq_of_testBit_eq
    intro q
    rw [Nat.testBit_two_pow_sub_one]
    by_cases hq : q < v.toNat
    · rw [h q (by omega)]; simp [hq]
    · simp only [hq, decide_false]
      cases hc : m.testBit q with
      | false => rfl
      | true =>
        obtain ⟨k, hk, hk2⟩ := (hp.pts q).1 hc
        have := good_lt (hb _ (blk_mem (hp.ix k hk))) hk2
        omega
theorem part_pos (hb : ∀ b ∈ bs, good v b) (hp : Part bs xs m) (hm : ¬ m = 2 ^ v.toNat - 1) (hv : 0 ≤ v) : cov m v.toNat < v.toNat := by
  have h1 := cov_le m v.toNat
  rcases Nat.lt_or_ge (cov m v.toNat) v.toNat with h | h
  · exact h
  · have h2 := cov_all.1 (Nat.le_antisymm h1 h)
    have := part_left hb hp hm h2
    omega
theorem cov_snoc (hb : ∀ b ∈ bs, good v b) {i : Nat} (hi : i < bs.length) (h0 : bmask bs[i] &&& m = 0) : cov (m ||| bmask bs[i]) v.toNat = cov m v.toNat + 3 := by
  rw [cov_or (by rw [Nat.and_comm]; exact h0), cov_bmask (hb _ (List.getElem_mem hi))]
theorem mask_inside (hb : ∀ b ∈ bs, good v b) {i : Nat} (hi : i < bs.length) : bmask bs[i] &&& (2 ^ v.toNat - 1) = bmask bs[i] := by
  rw [and_self]
  intro p hp
  have hg := hb _ (List.getElem_mem hi)
  have := good_lt hg ((bmask_bit hg p).1 hp)
  rw [Nat.testBit_two_pow_sub_one]
  simp
  omega
end

/-! ### Extensions: sets of so many disjoint blocks that begin with some -/
def meets (b c : B3) : Prop := has c b.1 ∨ has c b.2.1 ∨ has c b.2.2
instance (b c : B3) : Decidable (meets b c) := inferInstanceAs (Decidable (_ ∨ _ ∨ _))
theorem meets_disj {b c : B3} : ¬ meets b c ↔ disj b c := by
  unfold meets disj
  constructor
  · intro h p ⟨h1, h2⟩
    rcases h1 with e | e | e
    · exact h (.inl (e ▸ h2))
    · exact h (.inr (.inl (e ▸ h2)))
    · exact h (.inr (.inr (e ▸ h2)))
  · intro h h'
    rcases h' with e | e | e
    · exact h _ ⟨.inl rfl, e⟩
    · exact h _ ⟨.inr (.inl rfl), e⟩
    · exact h _ ⟨.inr (.inr rfl), e⟩
structure Dj (bs : List B3) (r : List Int) : Prop where
  ix : ∀ k ∈ r, okIx bs k
  up : r.Pairwise (· < ·)
  dj : Djs bs r
def Ext (bs : List B3) (now : List Int) (many : Nat) (r : List Int) : Prop := Dj bs r ∧ now <+: r ∧ r.length = many
def ExtB (bs : List B3) (now : List Int) (many i : Nat) (r : List Int) : Prop := Ext bs now many r ∧ ∃ j : Nat, j < i ∧ (now ++ [(j : Int)]) <+: r
section
variable {bs : List B3} {now : List Int} {many i : Nat}
theorem ext_self (h : Dj bs now) (hl : now.length = many) : IsList (Ext bs now many) [now] := by
  refine ⟨List.pairwise_singleton .., fun r => ?_⟩
  rw [List.mem_singleton]
  constructor
  · rintro rfl
    exact ⟨h, List.prefix_refl _, hl⟩
  · rintro ⟨_, h2, h3⟩
    exact (h2.eq_of_length (by omega)).symm
/-- Where the search begins. -/
def fromOf (now : List Int) : Int := match now.getLast? with | some k => k + 1 | none => 0
theorem fromOf_pos {now : List Int} (h : 0 < now.length) : fromOf now = now[now.length - 1] + 1 := by
  unfold fromOf
  rw [List.getLast?_eq_getElem?, List.getElem?_eq_getElem (by omega)]
theorem fromOf_nil {now : List Int} (h : now.length = 0) : fromOf now = 0 := by
  have := List.eq_nil_of_length_eq_zero h
  subst this
  rfl
theorem fromOf_nonneg (h : Dj bs now) : 0 ≤ fromOf now ∧ fromOf now ≤ bs.length := by
  rcases Nat.eq_zero_or_pos now.length with h1 | h1
  · rw [fromOf_nil h1]; omega
  · rw [fromOf_pos h1]
    have := h.ix _ (List.getElem_mem (l := now) (n := now.length - 1) (by omega))
    unfold okIx at this
    omega
theorem last_lt (h : now.Pairwise (· < ·)) {j : Int} : (now ++ [j]).Pairwise (· < ·) ↔ (0 < now.length → fromOf now ≤ j) := by
  rw [List.pairwise_append]
  constructor
  · rintro ⟨_, _, h3⟩ hp
    rw [fromOf_pos hp]
    have := h3 _ (List.getElem_mem (l := now) (n := now.length - 1) (by omega)) j (by simp)
    omega
  · intro h2
    refine ⟨h, List.pairwise_singleton .., ?_⟩
    intro a ha b hb
    simp at hb
    subst hb
    obtain ⟨k, hk, rfl⟩ := List.getElem_of_mem ha
    have h3 := h2 (by omega)
    rw [fromOf_pos (by omega)] at h3
    by_cases e : k = now.length - 1
    · subst e; omega
    · have := List.pairwise_iff_getElem.1 h k (now.length - 1) hk (by omega) (by omega)
      omega
theorem extB_from (h : Dj bs now) {f : Nat} (hf : (f : Int) = fromOf now) {r : List Int} : ¬ ExtB bs now many f r := by
  rintro ⟨⟨h1, _, _⟩, j, hj, h2⟩
  have h3 := h1.up.sublist h2.sublist
  have h4 := (last_lt h.up).1 h3
  rcases Nat.eq_zero_or_pos now.length with h5 | h5
  · rw [fromOf_nil h5] at hf; omega
  · have := h4 h5; omega
theorem dj_snoc (h : Dj bs now) (hi : i < bs.length) (hf : fromOf now ≤ i) (hm : ∀ k ∈ now, ¬ meets (blk bs k) (blk bs i)) : Dj bs (now ++ [(i : Int)]) := by
  refine ⟨fun k hk => ?_, (last_lt h.up).2 (fun _ => hf), ?_⟩
  · rcases List.mem_append.1 hk with h1 | h1
    · exact h.ix k h1
    · simp at h1; subst h1; exact ⟨by omega, by omega⟩
  · refine List.pairwise_append.2 ⟨h.dj, List.pairwise_singleton .., ?_⟩
    intro a ha b hb
    simp at hb
    subst hb
    exact meets_disj.1 (hm a ha)
theorem extB_skip (h : ∃ k ∈ now, meets (blk bs k) (blk bs i)) (hn : ∀ k ∈ now, k < i) {r : List Int} : ExtB bs now many (i + 1) r ↔ ExtB bs now many i r := by
  constructor
  · rintro ⟨h1, j, hj, h2⟩
    refine ⟨h1, j, ?_, h2⟩
    by_cases e : j = i
    · subst e
      exfalso
      obtain ⟨k, hk, hm⟩ := h
      have h3 := h1.1.dj.sublist h2.sublist
      have h4 := (List.pairwise_append.1 h3).2.2 k hk j (by simp)
      exact meets_disj.2 h4 hm
    · omega
  · rintro ⟨h1, j, hj, h2⟩
    exact ⟨h1, j, by omega, h2⟩
theorem extB_succ {r : List Int} : ExtB bs now many (i + 1) r ↔ ExtB bs now many i r ∨ Ext bs (now ++ [(i : Int)]) many r := by
  constructor
  · rintro ⟨h1, j, hj, h2⟩
    by_cases e : j = i
    · subst e
      exact .inr ⟨h1.1, h2, h1.2.2⟩
    · exact .inl ⟨h1, j, by omega, h2⟩
  · rintro (⟨h1, j, hj, h2⟩ | ⟨h1, h2, h3⟩)
    · exact ⟨h1, j, by omega, h2⟩
    · exact ⟨⟨h1, (List.prefix_append _ _).trans h2, h3⟩, i, by omega, h2⟩
theorem ltL_prefix {now a b : List Int} {i j : Int} (hij : j < i) (ha : (now ++ [j]) <+: a) (hb : (now ++ [i]) <+: b) : ltL a b := by
  obtain ⟨a', rfl⟩ := ha
  obtain ⟨b', rfl⟩ := hb
  induction now with
  | nil => exact ltL_cons.2 (.inl hij)
  | cons x now ih => exact ltL_cons.2 (.inr ⟨rfl, ih⟩)
theorem extB_list {ls ls' : List (List Int)} (h1 : IsList (ExtB bs now many i) ls) (h2 : IsList (Ext bs (now ++ [(i : Int)]) many) ls') : IsList (ExtB bs now many (i + 1)) (ls ++ ls') := by
  refine ⟨List.pairwise_append.2 ⟨h1.1, h2.1, ?_⟩, fun r => ?_⟩
  · intro a ha b hb
    obtain ⟨_, j, hj, h3⟩ := (h1.2 a).1 ha
    exact ltL_prefix (by omega) h3 ((h2.2 b).1 hb).2.1
  · rw [List.mem_append, h1.2, h2.2, extB_succ]
theorem extB_all (hn : now.length < many) {r : List Int} : ExtB bs now many bs.length r ↔ Ext bs now many r := by
  constructor
  · exact fun h => h.1
  · rintro ⟨h1, h2, h3⟩
    refine ⟨⟨h1, h2, h3⟩, ?_⟩
    obtain ⟨t, rfl⟩ := h2
    cases t with
    | nil => simp at h3; omega
    | cons k t =>
      have hk := h1.ix k (by simp)
      have hk3 : ((k.toNat : Nat) : Int) = k := Int.toNat_of_nonneg hk.1
      refine ⟨k.toNat, by have := hk.2; omega, ?_⟩
      rw [hk3]
      exact ⟨t, by simp⟩
theorem below_from (h : Dj bs now) {j : Int} (hf : fromOf now ≤ j) : ∀ k ∈ now, k < j := by
  intro k hk
  have h1 := (last_lt h.up (j := j)).2 (fun _ => hf)
  exact (List.pairwise_append.1 h1).2.2 k hk j (by simp)
theorem dj_nil : Dj bs [] := ⟨by simp, List.Pairwise.nil, List.Pairwise.nil⟩
/-- The mask of a set of blocks. -/
def maskOf (bs : List B3) : List Int → Nat
  | [] => 0
  | k :: r => bmask (blk bs k) ||| maskOf bs r
theorem maskOf_bit {v : Int} (hb : ∀ b ∈ bs, good v b) {r : List Int} (hr : ∀ k ∈ r, okIx bs k) (p : Nat) : (maskOf bs r).testBit p = true ↔ ∃ k ∈ r, has (blk bs k) (p : Int) := by
  induction r with
  | nil => simp [maskOf]
  | cons k r ih =>
    simp only [maskOf, Nat.testBit_or, Bool.or_eq_true, ih (fun k hk => hr k (by simp [hk])), bmask_bit (hb _ (blk_mem (hr k (by simp)))), List.mem_cons]
    constructor
    · rintro (h | ⟨j, hj, h⟩)
      · exact ⟨k, .inl rfl, h⟩
      · exact ⟨j, .inr hj, h⟩
    · rintro ⟨j, rfl | hj, h⟩
      · exact .inl h
      · exact .inr ⟨j, hj, h⟩
theorem maskOf_cov {v : Int} (hb : ∀ b ∈ bs, good v b) {r : List Int} (hr : ∀ k ∈ r, okIx bs k) (hd : Djs bs r) : cov (maskOf bs r) v.toNat = 3 * r.length := by
  induction r with
  | nil =>
    have : ∀ n, cov 0 n = 0 := by
      intro n
      induction n with
      | zero => rfl
      | succ n ih => simp [cov, ih]
    simp [maskOf, this]
  | cons k r ih =>
    obtain ⟨h1, h2⟩ := List.pairwise_cons.1 hd
    have hr' : ∀ k ∈ r, okIx bs k := fun k hk => hr k (by simp [hk])
    have hk := hb _ (blk_mem (hr k (by simp)))
    have h0 : bmask (blk bs k) &&& maskOf bs r = 0 := by
      rw [and_zero]
      rintro p ⟨hp1, hp2⟩
      obtain ⟨j, hj, h3⟩ := (maskOf_bit hb hr' p).1 hp2
      exact h1 j hj _ ⟨(bmask_bit hk p).1 hp1, h3⟩
    simp only [maskOf, cov_or h0, ih hr' h2, cov_bmask hk, List.length_cons]
    omega
/-- Classes are the sets of a third of the points as many disjoint blocks. -/
theorem cls_count {v : Int} (hb : ∀ b ∈ bs, good v b) (hv : 0 ≤ v) (r : List Int) : Cls v bs r ↔ Dj bs r ∧ 3 * r.length = v.toNat := by
  have key : ∀ h : Dj bs r, (3 * r.length = v.toNat ↔ ∀ p : Int, 0 ≤ p → p < v → ∃ k ∈ r, has (blk bs k) p) := by
    intro h
    rw [← maskOf_cov hb h.ix h.dj, cov_all]
    constructor
    · intro h1 p h2 h3
      have := (maskOf_bit hb h.ix _).1 (h1 p.toNat (by omega))
      rwa [Int.toNat_of_nonneg h2] at this
    · intro h1 p hp
      exact (maskOf_bit hb h.ix p).2 (h1 p (by omega) (by omega))
  constructor
  · intro h
    have hd : Dj bs r := ⟨h.ix, h.up, h.dj⟩
    exact ⟨hd, (key hd).2 h.all⟩
  · rintro ⟨hd, h2⟩
    exact ⟨hd.ix, hd.up, hd.dj, (key hd).1 h2⟩
theorem cls_ext {v : Int} (hb : ∀ b ∈ bs, good v b) (hv : 0 ≤ v) (h3 : v % 3 = 0) {l : List (List Int)} (h : IsList (Ext bs [] (v / 3).toNat) l) : IsList (Cls v bs) l := by
  refine ⟨h.1, fun r => ?_⟩
  rw [h.2 r, cls_count hb hv]
  unfold Ext
  simp only [List.nil_prefix, true_and]
  constructor
  · rintro ⟨h1, h2⟩
    exact ⟨h1, by omega⟩
  · rintro ⟨h1, h2⟩
    exact ⟨h1, by omega⟩
theorem cls_none {v : Int} (hb : ∀ b ∈ bs, good v b) (hv : 0 ≤ v) (h3 : ¬ v % 3 = 0) : IsList (Cls v bs) [] := by
  refine ⟨List.Pairwise.nil, fun r => ?_⟩
  rw [cls_count hb hv]
  simp
  intro _
  omega
end
end Go.Vc
/-
  The calculus, part 9: a part of an element of an owned row is written; rows taken out and put back; the marks of the laws.
-/
namespace Go.Vc
open Go Go.RowKit

section
variable {P : Program} {w0 w : World} {H H' : List Assn} {α : Type} {T : TypeId} {C : Cod α} {Q : Exit → Act → World → Prop} {σ : Sig} {o : Oper}

theorem flat_set (C : Cod α) (xs : List α) (k j : Nat) (u : Value) (y : α) (hk : k < xs.length) (hj : j < C.sz) (hy : C.enc y = (C.enc xs[k]).set j u) : (xs.flatMap C.enc).set (k * C.sz + j) u = (xs.set k y).flatMap C.enc := by
  induction xs generalizing k with
  | nil => simp at hk
  | cons x xs ih =>
    cases k with
    | zero =>
      simp only [Nat.zero_mul, Nat.zero_add, List.flatMap_cons, List.set_cons_zero]
      rw [List.set_append_left _ _ (by rw [C.len]; exact hj)]
      simp only [List.getElem_cons_zero] at hy
      rw [hy]
    | succ k =>
      simp only [List.flatMap_cons, List.set_cons_succ]
      rw [List.set_append_right _ _ (by rw [C.len, Nat.add_mul]; omega), C.len]
      have : (k + 1) * C.sz + j - C.sz = k * C.sz + j := by rw [Nat.add_mul]; omega
      rw [this, ih k (by simpa using hk) (by simpa using hy)]

/-- A store into part j of element k of an owned row. -/
theorem Ef.storeOwnAt {T e s c : Nat} {x y : Operand} {v : Value} {A : Option Addr} {xs : List α} (i : Nat) (k j : Nat) (u : α) (ho : o.op = .store T x y) (hs : Sz P T 1) (hx : ev σ x = some (.pointer ((A.map (·.add (k * s))).map (·.add j)))) (hy : ev σ y = some v)
    (hp : pull i H = some (Own e C A c xs, H')) (hsz : s = C.sz) (hk : k < xs.length) (hj : j < C.sz) (hv : v.cells = #[v]) (h1v : v.oneCell' = true) (hu : C.enc u = (C.enc xs[k]).set j v) :
    Ef P w0 o σ H Q (fun _ H'' => H'' = repl i H (Own e C A c (xs.set k u))) := by
  intro w hw a ha
  have h1' := ha x (by simp [ho, Op.operands]) _ hx
  have h2' := ha y (by simp [ho, Op.operands]) _ hy
  subst hsz
  have hw2 := hw.perm (pull_perm hp)
  obtain ⟨F, ho', hF⟩ := hw.get i hp
  rcases ho'.2 with ⟨h1, h2⟩ | ⟨g, cap, cur, hvv, hbase, hh, hle, hmax, hcs, htake⟩
  · omega
  · have hA : A = some ⟨g, 0, none⟩ := by injection hvv
    have hcap : c = cap := by injection hvv
    subst hA
    have hkc : k * C.sz + j < xs.length * C.sz := by
      have : (k + 1) * C.sz ≤ xs.length * C.sz := Nat.mul_le_mul_right _ (by omega)
      rw [Nat.add_mul] at this
      omega
    have hn : xs.length * C.sz ≤ cur.size := by rw [hcs]; exact Nat.mul_le_mul_right _ hle
    have hst := run_storeCells_at P g (k * C.sz + j) e [v] 0 cur w hh (by simp; omega) (by simpa using h1v)
    simp only [Nat.add_zero] at hst
    have hrun : (execOp a.eval o).run P w = .ok .skip (w.setRow g (cur.toList.take (k * C.sz + j) ++ [v] ++ cur.toList.drop (k * C.sz + j + [v].length)).toArray) := by
      simp [execOp, ho, h1', h2', Instr.storeAt, Instr.sureAddr, storeVar, run_sz hs, hv, add_mk, hst]
    have hset : cur.toList.take (k * C.sz + j) ++ [v] ++ cur.toList.drop (k * C.sz + j + [v].length) = cur.toList.set (k * C.sz + j) v := by
      rw [List.set_eq_take_append_cons_drop, if_pos (by simp; omega)]
      simp
    rw [hset] at hrun
    unfold Oper.wp
    rw [hrun]
    refine ⟨undef, _, rfl, ?_, rfl⟩
    refine St.perm ?_ (repl_perm hp)
    refine hw2.upd (B := Own e C (some ⟨g, 0, none⟩) c (xs.set k u)) ?_
    rintro F2 ⟨ho2, hF2⟩ hb
    refine ⟨⟨rfl, rfl, rfl, by simp [World.setRow], fun m _ hm => setRow_other w g m _ (fun e1 => hm ((hF2 m).2 (by subst e1; rfl))), Nat.le_refl _⟩, F2, ⟨⟨?_, .inr ⟨g, cap, _, ?_, Nat.zero_le _, setRow_heap w g cur _ e _ hh, ?_, hmax, ?_, ?_⟩⟩, ?_⟩, ?_⟩
    · rw [length_flatMap_enc]
    · rw [hcap]
    · simpa using hle
    · simpa using hcs
    · rw [List.length_set, List.take_set, htake]
      exact flat_set C xs k j v u hk hj hu
    · intro m
      rw [hF2 m]
      simp
    · intro m hm
      exact ⟨.inl hm, by have := (hb m hm).2; simpa [World.setRow] using this⟩

theorem Pu.indexArr' {T : TypeId} {x y : Operand} {p : Option Addr} {e sz n : Nat} {K : IntKind} {i : Int} (k : Nat) (ho : o.op = .indexAddr T x y) (hT : P.underlying T = some (.array n e)) (hs : Sz P e sz) (hx : ev σ x = some (.pointer p)) (hy : ev σ y = some (.int K i)) (hi : i = (k : Int)) (hk : k < n) (h1 : sz = 1) (hp : ∀ w, St w0 H w → p.isSome = true) :
    Pu P w0 o σ H (.pointer (p.map (·.add k))) := by
  intro w hw a ha
  have h1' := ha x (by simp [ho, Op.operands]) _ hx
  have h2 := ha y (by simp [ho, Op.operands]) _ hy
  obtain ⟨q, rfl⟩ := Option.isSome_iff_exists.1 (hp w hw)
  subst hi
  subst h1
  simp [execOp, ho, h1', h2, Instr.indexAt, Instr.sureAddr, asIntOf, run_underlying hT, run_sz hs, hk]

/-! ### Marks -/
def marks (m : Int) (n : Nat) : List Int := (List.range n).map fun i => m + (i : Nat)
theorem marks_len (m : Int) (n : Nat) : (marks m n).length = n := by simp [marks]
theorem marks_get (m : Int) (n : Nat) {k : Nat} (hk : k < (marks m n).length) : (marks m n)[k] = m + k := by simp [marks]
def markAt (xs : List Int) (m : Int) (k : Nat) : List Int := marks m k ++ xs.drop k
theorem markAt_zero (xs : List Int) (m : Int) : markAt xs m 0 = xs := by simp [markAt, marks]
theorem markAt_len {xs : List Int} {m : Int} {k : Nat} (h : k ≤ xs.length) : (markAt xs m k).length = xs.length := by simp [markAt, marks_len]; omega
theorem markAt_set {xs : List Int} {m : Int} {k : Nat} (h : k < xs.length) : (markAt xs m k).set k (m + k) = markAt xs m (k + 1) := by
  unfold markAt
  rw [List.set_append_right _ _ (by rw [marks_len]; exact Nat.le_refl _), marks_len, Nat.sub_self, drop_cons h, List.set_cons_zero]
  unfold marks
  rw [List.range_succ, List.map_append, List.append_assoc]
  rfl
theorem markAt_all {xs : List Int} {m : Int} {k : Nat} (h : k = xs.length) : markAt xs m k = marks m xs.length := by
  subst h
  simp [markAt]
/-- The marks of a list of lists. -/
def sumLen : List (Sl × List Int) → Nat
  | [] => 0
  | p :: r => p.2.length + sumLen r
def markL : Int → List (Sl × List Int) → List (Sl × List Int)
  | _, [] => []
  | m, p :: r => (p.1, marks m p.2.length) :: markL (m + p.2.length) r
theorem markL_tops : ∀ (ps : List (Sl × List Int)) (m : Int), tops (markL m ps) = tops ps := by
  intro ps
  induction ps with
  | nil => intro m; rfl
  | cons p ps ih => intro m; simp only [tops, markL, List.map_cons] at *; rw [ih]
theorem markL_len (m : Int) (ps : List (Sl × List Int)) : (markL m ps).length = ps.length := by rw [← tops_len, markL_tops, tops_len]
theorem sumLen_append : ∀ (ps qs : List (Sl × List Int)), sumLen (ps ++ qs) = sumLen ps + sumLen qs := by
  intro ps
  induction ps with
  | nil => intro qs; simp [sumLen]
  | cons p ps ih => intro qs; simp only [List.cons_append, sumLen, ih]; omega
theorem markL_append : ∀ (ps qs : List (Sl × List Int)) (m : Int), markL m (ps ++ qs) = markL m ps ++ markL (m + sumLen ps) qs := by
  intro ps
  induction ps with
  | nil => intro qs m; simp [markL, sumLen]
  | cons p ps ih =>
    intro qs m
    simp only [List.cons_append, markL, sumLen, ih]
    congr 3
    push_cast
    omega
theorem sumLen_take {ps : List (Sl × List Int)} {k : Nat} (hk : k < ps.length) : sumLen (ps.take (k + 1)) = sumLen (ps.take k) + (ps[k]).2.length := by rw [take_snoc hk, sumLen_append]; simp [sumLen]
theorem markL_take {ps : List (Sl × List Int)} {k : Nat} (hk : k < ps.length) (m : Int) : markL m (ps.take (k + 1)) = markL m (ps.take k) ++ [((ps[k]).1, marks (m + sumLen (ps.take k)) (ps[k]).2.length)] := by rw [take_snoc hk, markL_append]; rfl
theorem sumLen_le {ps : List (Sl × List Int)} {k : Nat} : sumLen (ps.take k) ≤ sumLen ps := by
  have := sumLen_append (ps.take k) (ps.drop k)
  rw [List.take_append_drop] at this
  omega
theorem markL_get {ps : List (Sl × List Int)} {k : Nat} (m : Int) (hk : k < ps.length) (hk' : k < (markL m ps).length) : (markL m ps)[k] = ((ps[k]).1, marks (m + sumLen (ps.take k)) (ps[k]).2.length) := by
  have h1 := markL_append (ps.take (k + 1)) (ps.drop (k + 1)) m
  rw [List.take_append_drop, markL_take hk] at h1
  have h2 : (markL m (ps.take k)).length = k := by rw [markL_len, List.length_take]; omega
  apply Option.some.inj
  rw [← List.getElem?_eq_getElem hk', h1, List.append_assoc, List.getElem?_append_right (by omega), h2]
  simp
theorem sumLen_bound {ps : List (Sl × List Int)} {M : Nat} (h : ∀ q ∈ conts ps, q.length ≤ M) : sumLen ps ≤ ps.length * M := by
  induction ps with
  | nil => simp [sumLen]
  | cons p ps ih =>
    have h1 := h p.2 (by simp [conts])
    have h2 := ih (fun q hq => h q (by simp only [conts, List.map_cons, List.mem_cons] at *; exact .inr hq))
    simp only [sumLen, List.length_cons, Nat.add_mul, Nat.one_mul]
    omega
theorem Ld.llm {T2 c i j : Nat} {A : Option Addr} {ps : List (Sl × List Int)} {m : Int} {H2 : List Assn} (hp : pull i H = some (Own T2 SlC A c (tops ps), H')) (hq : pull j H = some (RowsA T I64 (markL m ps), H2)) : ∀ w, St w0 H w → RdL I64 w A (markL m ps) := by
  rw [← markL_tops ps m] at hp
  exact Ld.ll i j hp hq
/-- A row is taken out. -/
theorem row_out {ps qs : List (Sl × List α)} {k : Nat} (hk : k < ps.length) (hw : St w0 (RowsA T C (qs ++ ps.drop k) :: H) w) : St w0 (Own T C (ps[k]).1.A (ps[k]).1.c (ps[k]).2 :: RowsA T C (qs ++ ps.drop (k + 1)) :: H) w := by
  rw [drop_cons hk] at hw
  exact (RowsA.uncons (s := (ps[k]).1) (xs := (ps[k]).2) (RowsA.perm List.perm_middle hw)).2
/-- .. and another put in. -/
theorem row_in {ps qs : List (Sl × List α)} {s : Sl} {xs : List α} (hn : s.n = xs.length) (hw : St w0 (Own T C s.A s.c xs :: RowsA T C (qs ++ ps) :: H) w) : St w0 (RowsA T C ((qs ++ [(s, xs)]) ++ ps) :: H) w := by
  have h1 := RowsA.cons hw
  have h2 : (⟨s.A, xs.length, s.c⟩ : Sl) = s := by rw [← hn]
  rw [h2] at h1
  rw [List.append_assoc]
  exact RowsA.perm List.perm_middle.symm h1
end
end Go.Vc
/-
  The calculus, part 10: values of functions with bound arguments.
-/
namespace Go.Vc
open Go Go.RowKit
section
variable {P : Program} {w0 w : World} {H H' : List Assn} {Q : Exit → Act → World → Prop} {σ : Sig} {o : Oper}
theorem Ef.callVB {f : Operand} {g : FuncId} {l : List Operand} {ts : Array TypeId} {vs : List Value} {bnd caps : Array Value} {R : Value → List Assn} (ho : o.op = .call { callee := .value f, args := l.toArray, argTypes := ts }) (hf : ev σ f = some (.func (.func g) bnd caps)) (hok : CallOk P g)
    (hargs : evs σ l = some vs) (hfn : Does P g (bnd.toList ++ vs ++ caps.toList) w0 H R) : Ef P w0 o σ H Q (fun v H' => H' = R v) := by
  intro w hw a ha
  have h1 := ha f (by simp [ho, Op.operands, Call.operands]) _ hf
  have h2 := evs_map (a := a) (fun x hx v hv => ha x (by simp [ho, Op.operands, Call.operands]; exact .inr hx) v hv) hargs
  have h3 : (l.toArray.map a.eval) = vs.toArray := by apply Array.ext'; rw [← h2]; simp
  unfold Oper.wp
  have : (execOp a.eval o).run P w = .ok (.enter g (bnd.toList ++ vs ++ caps.toList).toArray) w := by
    have e2 : bnd ++ vs.toArray ++ caps = (bnd.toList ++ vs ++ caps.toList).toArray := by apply Array.ext'; simp
    simp only [execOp, ho, resolve, h1, h3, Deferred.ofValue, invoke, Sem.run_bind, Sem.run_pure, Result.andThen_ok, run_callFunc hok, e2]
  rw [this]
  refine Calls.mono (hfn w hw) ?_
  rintro e w' ⟨v, rfl, hs⟩
  exact ⟨v, _, rfl, hs, rfl⟩
theorem Ef.callPB {f : Operand} {g : FuncId} {l : List Operand} {ts : Array TypeId} {vs : List Value} {bnd caps : Array Value} {r : Value} (hok : CallOk P g) (ho : o.op = .call { callee := .value f, args := l.toArray, argTypes := ts }) (hf : ev σ f = some (.func (.func g) bnd caps))
    (hargs : evs σ l = some vs) (hfn : ∀ w, St w0 H w → Does P g (bnd.toList ++ vs ++ caps.toList) w [] (fun v => [.pur (v = r)])) : Ef P w0 o σ H Q (fun v H' => v = r ∧ H' = H) := by
  intro w hw a ha
  have := Ef.callVB (Q := Q) ho hf hok hargs (Does.frame hfn) w hw a ha
  refine Oper.wp_mono ?_ this
  rintro a' w' ⟨v, H', rfl, hs, rfl⟩
  have hs' : St w0 (.pur (v = r) :: H) w' := hs
  exact ⟨v, H, rfl, hs'.pur.2, hs'.pur.1, rfl⟩
theorem Pu.makeBound {f : Nat} {bs caps : Array Operand} {us vs : List Value} (ho : o.op = .makeFunc (.func f) bs caps) (hb : evs σ bs.toList = some us) (hx : evs σ caps.toList = some vs) : Pu P w0 o σ H (.func (.func f) us.toArray vs.toArray) := by
  intro w hw a ha
  have hag : ∀ x ∈ bs.toList ++ caps.toList, ∀ v, ev σ x = some v → a.eval x = v := fun x hx v hv => ha x (by simp [ho, Op.operands] at *; first | exact hx | (rcases hx with h | h <;> simp [h])) v hv
  have h1 := evs_map (a := a) (fun x hx v hv => hag x (by simp [Array.mem_toList_iff] at *; exact .inl hx) v hv) hb
  have h2 := evs_map (a := a) (fun x hx v hv => hag x (by simp [Array.mem_toList_iff] at *; exact .inr hx) v hv) hx
  have e1 : bs.map a.eval = us.toArray := by apply Array.ext'; rw [← h1]; simp
  have e2 : caps.map a.eval = vs.toArray := by apply Array.ext'; rw [← h2]; simp
  simp [execOp, ho, Instr.makeFunc, e1, e2]
/-- Where ways meet again, with something that is known to be there. -/
theorem V.cutE {N : Nat} {c : Code} {β : Type} (σv : β → Sig) (σc : Sig) (Hi : β → List Assn) (Hc : List Assn) (Φ : β → Prop) (hc : Ent σ σc) (hH : Sub H Hc)
    (h1 : V P N w0 c (Exit.then (fun a w => ∃ y, Φ y ∧ Env N (σv y ++ σc) a ∧ St w0 (Hi y ++ Hc) w) Q) σ H) (h2 : ∀ y, Φ y → X N w0 Q .normal (σv y ++ σc) (Hi y ++ Hc)) : V P N w0 c Q σ H := by
  intro w hw a ha
  refine wp_mono (h1 w hw a ha) ?_
  intro e a' w' hq
  cases e with
  | normal =>
    obtain ⟨y, hy, h3, h4⟩ := hq
    exact h2 y hy w' h4 a' h3
  | _ => exact hq
theorem X.cutE {N : Nat} {β : Type} {σv : β → Sig} {σc : Sig} {Hi : β → List Assn} {Hc : List Assn} {Φ : β → Prop} (y : β) (hΦ : Φ y) (hσ : Ent σ (σv y)) (hc : Ent σ σc) (hH : Sub H (Hi y ++ Hc)) :
    X N w0 (Exit.then (fun a w => ∃ y, Φ y ∧ Env N (σv y ++ σc) a ∧ St w0 (Hi y ++ Hc) w) Q) .normal σ H :=
  fun w hw a ha => ⟨y, hΦ, ha.ent (hσ.append hc), hw.sub hH⟩
/-- One of two operations comes next. -/
theorem D.either {N : Nat} {ops : Array Oper} {Hs : List Assn} (hwf : wfB ops = true) {effs done : List Nat} {e1 e2 : Nat} (hcl : closedL ops done [e1, e2] = true) (h1 : Cand P N w0 ops Q effs done σ Hs H e1) (h2 : Cand P N w0 ops Q effs done σ Hs H e2) : D P N w0 ops Q effs done σ Hs H := by
  refine D.effS hwf [e1, e2] e1 (by simp) hcl ?_
  intro e he
  simp only [List.mem_cons, List.not_mem_nil, or_false] at he
  rcases he with rfl | rfl
  · exact h1
  · exact h2
/-- make, with a length that is a number's. -/
theorem Ef.makeI {α : Type} {T e sz bytes n : Nat} {x y : Operand} {z : Value} {K1 K2 : IntKind} {i : Int} (C : Cod α) (u : α) (ho : o.op = .makeSlice T x y) (hT : P.underlying T = some (.slice e)) (hi : Inf P e sz bytes z) (hs : sz = C.sz) (hz : z.cells.toList = C.enc u)
    (hx : ev σ x = some (.int K1 i)) (hy : ev σ y = some (.int K2 i)) (hin : i = (n : Int)) (hb : bytes * n ≤ 281474976710656) (hm : n ≤ 9223372036854775807) :
    Ef P w0 o σ H Q (fun v H' => ∃ A, A.isSome = true ∧ v = .slice A n n ∧ H' = Own e C A n (List.replicate n u) :: H) := by
  subst hin
  exact Ef.make C u ho hT hi hs hz hx hy hb hm
/-! ### Arrays of numbers, by an index -/
theorem Ld.arrK {b t off : Nat} {xs : List Int} {n k : Nat} (i : Nat) (hp : pull i H = some (Blk b (xs.map (Value.int .i64)) t, H')) (ho : off = 0 + k * 1) (hk : k < n) (hn : xs.length = n) : ∀ w, St w0 H w → ∃ q, some (⟨b, off, none⟩ : Addr) = some q ∧ w.cell? q = some (.int .i64 (xs.getD k 0)) := by
  intro w hw
  subst ho
  refine ⟨_, rfl, Blk.cell hw hp ?_⟩
  have : 0 + k * 1 = k := by omega
  rw [this, List.getElem?_map, List.getElem?_eq_getElem (by omega)]
  simp [List.getD, hk, hn]
theorem Ef.storeArr {T : TypeId} {x y : Operand} {b t off n : Nat} {xs : List Int} {v : Int} (i : Nat) (k : Nat) (ho : o.op = .store T x y) (hs : Sz P T 1) (hx : ev σ x = some (.pointer (some ⟨b, off, none⟩))) (hy : ev σ y = some (.int .i64 v))
    (hp : pull i H = some (Blk b (xs.map (Value.int .i64)) t, H')) (hoff : off = 0 + k * 1) (hk : k < n) (hn : xs.length = n) :
    Ef P w0 o σ H Q (fun _ H'' => H'' = repl i H (Blk b ((xs.set k v).map (Value.int .i64)) t)) := by
  subst hoff
  have h0 : 0 + k * 1 = k := by omega
  rw [h0] at hx
  exact Ef.store1 i ho hs hx hy hp rfl rfl (by simp; omega) (by rw [List.map_set])
end
end Go.Vc
/-
  The calculus, part 11: slices of slices; clear; rows that lose some.
-/
namespace Go.Vc
open Go Go.RowKit
section
variable {P : Program} {w0 w : World} {H H' : List Assn} {α : Type} {Q : Exit → Act → World → Prop} {σ : Sig} {o : Oper} {T e : TypeId} {C : Cod α}

theorem elem_of {T e : TypeId} (hT : P.underlying T = some (.slice e)) : P.underlying T = some (.slice (P.elem T)) ∧ P.elem T = e := by
  have : P.elem T = e := by simp [Program.elem, hT]
  exact ⟨this ▸ hT, this⟩
theorem map_add_zero (A : Option Addr) : A.map (·.add 0) = A := by
  cases A with
  | none => rfl
  | some q =>
    simp only [Option.map_some, Option.some.injEq]
    unfold Addr.add
    split <;> simp_all
/-- x[:h]. -/
theorem Pu.sliceH {x y : Operand} {A : Option Addr} {n c s : Nat} {K : IntKind} {i : Int} (k : Nat) (ho : o.op = .slice T x none (some y) none) (hT : P.underlying T = some (.slice e)) (hs : Sz P e s) (hx : ev σ x = some (.slice A n c)) (hy : ev σ y = some (.int K i)) (hi : i = (k : Int)) (hk : k ≤ c) :
    Pu P w0 o σ H (.slice A k c) := by
  intro w hw a ha
  have h1 := ha x (by simp [ho, Op.operands]) _ hx
  have h2 := ha y (by simp [ho, Op.operands]) _ hy
  subst hi
  obtain ⟨e1, e2⟩ := elem_of hT
  have e3 : Value.slice (if c = 0 then A else A.map (·.add 0)) k c = .slice A k c := by rw [map_add_zero]; simp
  have hr := run_slice_h (w := w) T A n c e1 K (k : Int) (by omega) (by omega)
  rw [e2, run_sz hs] at hr
  simp only [Result.andThen_ok, sliced, Int.toNat_natCast, Nat.zero_mul, Nat.sub_zero, e3] at hr
  simp [execOp, ho, h1, h2, run_sliceAt_slice (h := e1), hr]
/-- x[l:]. -/
theorem Pu.sliceL {x y : Operand} {A : Option Addr} {n c s : Nat} {K : IntKind} {i : Int} (k : Nat) (ho : o.op = .slice T x (some y) none none) (hT : P.underlying T = some (.slice e)) (hs : Sz P e s) (hx : ev σ x = some (.slice A n c)) (hy : ev σ y = some (.int K i)) (hi : i = (k : Int)) (hk : k ≤ n) :
    Pu P w0 o σ H (.slice (if c = k then A else A.map (·.add (k * s))) (n - k) (c - k)) := by
  intro w hw a ha
  have h1 := ha x (by simp [ho, Op.operands]) _ hx
  have h2 := ha y (by simp [ho, Op.operands]) _ hy
  subst hi
  obtain ⟨e1, e2⟩ := elem_of hT
  have hr := run_slice_l (w := w) T A n c e1 K (k : Int) (by omega) (by omega)
  rw [e2, run_sz hs] at hr
  simp only [Result.andThen_ok, sliced, Int.toNat_natCast] at hr
  simp [execOp, ho, h1, h2, run_sliceAt_slice (h := e1), hr]
theorem Rd.drop {A : Option Addr} {xs : List α} {c k s : Nat} (h : Rd C w A xs) (hs : s = C.sz) (hc : xs.length ≤ c) : Rd C w (if c = k then A else A.map (·.add (k * s))) (xs.drop k) := by
  intro i hi
  rw [List.length_drop] at hi
  obtain ⟨q, hq, hr⟩ := h (k + i) (by omega)
  rw [if_neg (by omega), hq]
  refine ⟨_, rfl, fun j u hj => ?_⟩
  rw [List.getElem_drop] at hj
  have := hr j u hj
  rw [Addr.add_add', hs]
  rw [show k * C.sz + (i * C.sz + j) = (k + i) * C.sz + j by rw [Nat.add_mul]; omega]
  exact this
theorem Rd.take {A : Option Addr} {xs : List α} (h : Rd C w A xs) (k : Nat) : Rd C w A (xs.take k) := by
  intro i hi
  rw [List.length_take] at hi
  obtain ⟨q, hq, hr⟩ := h i (by omega)
  exact ⟨q, hq, fun j u hj => hr j u (by rw [List.getElem_take] at hj; exact hj)⟩
theorem Own.cap {c i : Nat} {A : Option Addr} {xs : List α} (hw : St w0 H w) (hp : pull i H = Option.some (Own T C A c xs, H')) : xs.length ≤ c := by
  obtain ⟨F, ho, hF⟩ := hw.get i hp
  rcases ho.2 with ⟨h1, h2⟩ | ⟨g, cap, cur, hvv, hbase, hh, hle, hmax, hcs, htake⟩
  · omega
  · have hcap : c = cap := by injection hvv
    omega
/-- A row that is owned, and looked at in part. -/
theorem Own.takeP {A : Option Addr} {c : Nat} {xs : List α} (k : Nat) : ∀ w F, (Own T C A c xs).P w F → (Own T C A c (xs.take k)).P w F := by
  rintro w F ⟨h, hF⟩
  have hfl : (xs.take k).flatMap C.enc = (xs.flatMap C.enc).take ((xs.take k).length * C.sz) := by
    have h1 : xs.flatMap C.enc = (xs.take k).flatMap C.enc ++ (xs.drop k).flatMap C.enc := by rw [← List.flatMap_append, List.take_append_drop]
    have h2 : ((xs.take k).flatMap C.enc).length = (xs.take k).length * C.sz := length_flatMap_enc C _
    rw [h1, ← h2, List.take_append_of_le_length (Nat.le_refl _), List.take_length]
  refine ⟨⟨by rw [length_flatMap_enc], ?_⟩, fun j => ?_⟩
  · rcases h.2 with ⟨h1, h2⟩ | ⟨g, cap, cur, hv, hg, hh, hle, hmax, hcs, htake⟩
    · have hx0 : xs = [] := List.eq_nil_of_length_eq_zero (by omega)
      subst hx0
      exact .inl ⟨by simpa using h1, by simp⟩
    · refine .inr ⟨g, cap, cur, ?_, hg, hh, ?_, hmax, hcs, ?_⟩
      · injection hv with h1 h2 h3
        rw [h1, h3]
      · rw [List.length_take]; omega
      · have h3 : (xs.take k).length * C.sz ≤ xs.length * C.sz := Nat.mul_le_mul_right _ (by rw [List.length_take]; omega)
        rw [hfl, ← htake, List.take_take, Nat.min_eq_left h3]
  · rw [hF j]
    cases A <;> simp [Value.ownBlock]
/-- clear of a part at the end. -/
theorem Ef.clearTail {x : Operand} {sz bytes c c2 n : Nat} {z : Value} {A : Option Addr} {xs : List α} {y : α} (i : Nat) (k : Nat) (ho : o.op = .call { callee := .builtin .clear, args := #[x], argTypes := #[T] }) (hT : P.underlying T = some (.slice e)) (hi : Inf P e sz bytes z) (hs : sz = C.sz) (hz : z.cells.toList = C.enc y)
    (hx : ev σ x = some (.slice (if c = k then A else A.map (·.add (k * sz))) (n - k) c2)) (hp : pull i H = some (Own e C A c xs, H')) (hn : n = xs.length) (hk : k ≤ xs.length) :
    Ef P w0 o σ H Q (fun v H'' => v = .tuple #[] ∧ H'' = repl i H (Own e C A c (xs.take k ++ List.replicate (xs.length - k) y))) := by
  subst hn
  intro w hw a ha
  have h1 := ha x (by simp [ho, Op.operands, Call.operands]) _ hx
  obtain ⟨i0, hi1, hi2, hi3, hi4⟩ := hi.parts
  subst hs
  by_cases hk0 : xs.length - k = 0
  · have hkk : k = xs.length := by omega
    have hr : (execOp a.eval o).run P w = .ok (.value (.tuple #[])) w := by
      rw [hk0] at h1
      cases hA : (if c = k then A else A.map (·.add (k * C.sz))) <;> rw [hA] at h1 <;> simp [execOp, ho, resolve, invoke, builtin, h1, Builtin.clear_, run_underlying hT]
    refine upon_ok hr ⟨_, _, rfl, hw.perm ?_, rfl, rfl⟩
    subst hkk
    rw [List.take_length, Nat.sub_self, List.replicate_zero, List.append_nil]
    exact (pull_perm hp).trans (repl_perm hp)
  · obtain ⟨F, ho', hF⟩ := hw.get i hp
    rcases ho'.2 with ⟨h3, h4⟩ | ⟨g, cap, cur, hvv, hbase, hh, hle, hmax, hcs, htake⟩
    · omega
    · have hA : A = some ⟨g, 0, none⟩ := by injection hvv
      have hcap : c = cap := by injection hvv
      subst hA
      have hck : ¬ c = k := by omega
      rw [if_neg hck] at h1
      have hcells : (Builtin.zeroCells z.cells (xs.length - k)).toList = (List.replicate (xs.length - k) y).flatMap C.enc := by
        have : Builtin.zeroCells z.cells (xs.length - k) = madeCells z.cells ((xs.length - k) * C.sz) := by
          have hsz : z.cells.size = C.sz := by rw [← Array.length_toList, hz, C.len]
          unfold Builtin.zeroCells madeCells
          rw [hsz]
        rw [this, made_eq C y z (xs.length - k) hz]
      have hlen : ((List.replicate (xs.length - k) y).flatMap C.enc).length = (xs.length - k) * C.sz := by rw [length_flatMap_enc, List.length_replicate]
      have hkc : k * C.sz + (xs.length - k) * C.sz ≤ cur.size := by
        rw [hcs, ← Nat.add_mul]
        exact Nat.mul_le_mul_right _ (by omega)
      have hst := run_storeCells_at P g (k * C.sz) e ((List.replicate (xs.length - k) y).flatMap C.enc) 0 cur w hh (by rw [hlen]; omega) (fun u hu => by obtain ⟨y', _, hy'⟩ := List.mem_flatMap.1 hu; exact C.one y' u hy')
      simp only [Nat.add_zero, hlen] at hst
      have hzr : (zeroValue e).run P w = .ok z w := by simp [zeroValue, typeInfo, hi1, hi2]
      obtain ⟨m, hm⟩ : ∃ m, xs.length - k = m + 1 := ⟨xs.length - k - 1, by omega⟩
      have hr : (execOp a.eval o).run P w = .ok (.value (.tuple #[])) (w.setRow g (cur.toList.take (k * C.sz) ++ (List.replicate (xs.length - k) y).flatMap C.enc ++ cur.toList.drop (k * C.sz + (xs.length - k) * C.sz)).toArray) := by
        simp only [Option.map_some, add_mk, Nat.zero_add] at h1
        have hb : (Builtin.clear_ #[T] o.type #[.slice (some ⟨g, k * C.sz, none⟩) (xs.length - k) c2]).run P w = .ok (.tuple #[]) (w.setRow g (cur.toList.take (k * C.sz) ++ (List.replicate (xs.length - k) y).flatMap C.enc ++ cur.toList.drop (k * C.sz + (xs.length - k) * C.sz)).toArray) := by
          have hst' := hst
          rw [← hcells] at hst' ⊢
          rw [hm] at hst' ⊢
          simp [Builtin.clear_, run_underlying hT, hzr, hst']
        simp [execOp, ho, resolve, invoke, builtin, h1, hb]
      refine upon_ok hr ⟨_, _, rfl, ?_, rfl, rfl⟩
      refine St.perm ?_ (repl_perm hp)
      refine (hw.perm (pull_perm hp)).upd (B := Own e C (some ⟨g, 0, none⟩) c (xs.take k ++ List.replicate (xs.length - k) y)) ?_
      rintro F2 ⟨ho2, hF2⟩ hb
      have hl : (xs.take k ++ List.replicate (xs.length - k) y).length = xs.length := by simp; omega
      refine ⟨⟨rfl, rfl, rfl, by simp [World.setRow], fun m' _ hm' => setRow_other w g m' _ (fun e1 => hm' ((hF2 m').2 (by subst e1; rfl))), Nat.le_refl _⟩, F2, ⟨⟨by rw [length_flatMap_enc], .inr ⟨g, cap, _, by rw [hl, hcap], Nat.zero_le _, setRow_heap w g cur _ e _ hh, by rw [hl]; omega, hmax, ?_, ?_⟩⟩, ?_⟩, ?_⟩
      · simp only [List.size_toArray, List.length_append, List.length_take, List.length_drop, Array.length_toList, hlen]
        omega
      · rw [hl, List.flatMap_append]
        have hfl : (xs.take k).flatMap C.enc = cur.toList.take (k * C.sz) := by
          have hk2 : k * C.sz ≤ xs.length * C.sz := Nat.mul_le_mul_right _ hk
          have e5 : cur.toList.take (k * C.sz) = (xs.flatMap C.enc).take (k * C.sz) := by rw [← htake, List.take_take, Nat.min_eq_left hk2]
          have h1 : xs.flatMap C.enc = (xs.take k).flatMap C.enc ++ (xs.drop k).flatMap C.enc := by rw [← List.flatMap_append, List.take_append_drop]
          have h2 : ((xs.take k).flatMap C.enc).length = k * C.sz := by rw [length_flatMap_enc, List.length_take, Nat.min_eq_left hk]
          rw [e5, h1, List.take_append_of_le_length (by rw [h2]; exact Nat.le_refl _)]
          exact (List.take_of_length_le (by rw [h2]; exact Nat.le_refl _)).symm
        rw [hfl]
        have hlt : (cur.toList.take (k * C.sz)).length = k * C.sz := by rw [List.length_take, Array.length_toList]; omega
        rw [List.toList_toArray]
        rw [List.take_append_of_le_length (by rw [List.length_append, hlt, hlen, ← Nat.add_mul]; exact Nat.mul_le_mul_right _ (by omega))]
        rw [List.take_of_length_le (by rw [List.length_append, hlt, hlen, ← Nat.add_mul]; exact Nat.mul_le_mul_right _ (by omega))]
      · intro m'
        rw [hF2 m', hl]
      · intro m' hm'
        exact ⟨.inl hm', by have := (hb m' hm').2; simpa [World.setRow] using this⟩
theorem Pu.cast {u v : Value} (e : u = v) (h : Pu P w0 o σ H u) : Pu P w0 o σ H v := e ▸ h
/-- Some rows are dropped. -/
theorem RowsA.sublist {ps qs : List (Sl × List α)} (h : qs.Sublist ps) : St w0 (RowsA T C ps :: H) w → St w0 (RowsA T C qs :: H) w := by
  induction h generalizing H with
  | slnil => exact id
  | cons p _ ih =>
    intro hw
    exact ih (RowsA.uncons (s := p.1) (xs := p.2) hw).2.tail
  | cons_cons p _ ih =>
    intro hw
    obtain ⟨h1, h2⟩ := RowsA.uncons (s := p.1) (xs := p.2) hw
    have h3 := ih (h2.perm (List.Perm.swap _ _ _))
    have h4 := RowsA.cons (h3.perm (List.Perm.swap _ _ _))
    have e : (⟨p.1.A, p.2.length, p.1.c⟩ : Sl) = p.1 := by rw [← h1]
    rw [e] at h4
    exact h4
theorem Sl.eta {s : Sl} {xs : List α} (h : s.n = xs.length) : (⟨s.A, xs.length, s.c⟩ : Sl) = s := by rw [← h]
end
/-! ### Arrays of three numbers, compared -/
section
variable {P : Program} {w0 w : World} {H : List Assn} {σ : Sig} {o : Oper}
theorem run_part_int {T : TypeId} (hT : P.underlying T = some (.int .i64)) (cs : Array Value) (j : Nat) (v : Value) (h : cs[j]? = some v) : (part T cs j).run P w = .ok v w := by
  have hp : plainT P T = true := by simp [plainT, hT]
  simp [part, run_isAgg_f hp, h]
theorem run_eq3 {T E : TypeId} (hT : P.underlying T = some (.array 3 E)) (hE : P.underlying E = some (.int .i64)) (hs : Sz P E 1) (a b : B3) (d : Nat) (w : World) : (Op.equalIn (d + 1 + 1) T (B3.v a) (B3.v b)).run P w = .ok (decide (a = b)) w := by
  obtain ⟨i, hi, hsz⟩ := Option.map_eq_some_iff.1 hs
  have hc : P.cellsOf E = 1 := by simp [Program.cellsOf, hi, hsz]
  unfold B3.v
  rw [run_equalIn_array w (d + 1) _ _ hT hi, hc]
  have r : List.range 3 = [0, 1, 2] := rfl
  have e0 : ∀ x y z : Value, (part E #[x, y, z] 0).run P w = .ok x w := fun x y z => run_part_int hE _ _ _ rfl
  have e1 : ∀ x y z : Value, (part E #[x, y, z] 1).run P w = .ok y w := fun x y z => run_part_int hE _ _ _ rfl
  have e2 : ∀ x y z : Value, (part E #[x, y, z] 2).run P w = .ok z w := fun x y z => run_part_int hE _ _ _ rfl
  have q : ∀ x y : Int, (Op.equalIn (d + 1) E (.int .i64 x) (.int .i64 y)).run P w = .ok (x == y) w := fun x y => run_equalIn_int w d E .i64 .i64 x y hE
  obtain ⟨a1, a2, a3⟩ := a
  obtain ⟨b1, b2, b3⟩ := b
  rw [r]
  simp only [Op.eqItems, Sem.run_bind, Nat.zero_mul, Nat.one_mul, Nat.mul_one, e0, e1, e2, q, Result.andThen_ok]
  by_cases h1 : a1 = b1
  · subst h1
    by_cases h2 : a2 = b2
    · subst h2
      by_cases h3 : a3 = b3
      · subst h3; simp [e0, e1, e2, q]
      · simp [h3, e0, e1, e2, q]
    · simp [h2, e0, e1, e2, q]
  · simp [h1, e0, e1, e2, q]
theorem guard3 {T : TypeId} {op : BinOp} {x y : Operand} {a b : B3} (hg : P.eqGuardType P.depth T = false) : (eqGuard op T x y (B3.v a) (B3.v b)).run P w = .ok () w := by
  unfold B3.v
  exact run_eqGuard_agg w op T x y _ _ hg
theorem Pu.eqlB3 {T T2 E : TypeId} {x y : Operand} {a b : B3} (hT : P.underlying T = some (.array 3 E)) (hE : P.underlying E = some (.int .i64)) (hs : Sz P E 1) (hg : P.eqGuardType P.depth T = false) (ho : o.op = .binOp .eql T x y T2) (hx : ev σ x = some (B3.v a)) (hy : ev σ y = some (B3.v b)) : Pu P w0 o σ H (.bool (decide (a = b))) := by
  intro w hw ac ha
  have h1 := ha x (by simp [ho, Op.operands]) _ hx
  have h2 := ha y (by simp [ho, Op.operands]) _ hy
  have hb : (Go.binOp .eql T (B3.v a) (B3.v b)).run P w = .ok (.bool (decide (a = b))) w := by
    have := run_eq3 hT hE hs a b 9998 w
    unfold B3.v at *
    rw [run_eql_struct, show (10000 : Nat) = 9998 + 1 + 1 from rfl, this]
    rfl
  simp only [execOp, ho, h1, h2, Sem.run_bind, guard3 hg, hb, Result.andThen_ok, Sem.run_pure]
theorem Pu.neqB3 {T T2 E : TypeId} {x y : Operand} {a b : B3} (hT : P.underlying T = some (.array 3 E)) (hE : P.underlying E = some (.int .i64)) (hs : Sz P E 1) (hg : P.eqGuardType P.depth T = false) (ho : o.op = .binOp .neq T x y T2) (hx : ev σ x = some (B3.v a)) (hy : ev σ y = some (B3.v b)) : Pu P w0 o σ H (.bool (!decide (a = b))) := by
  intro w hw ac ha
  have h1 := ha x (by simp [ho, Op.operands]) _ hx
  have h2 := ha y (by simp [ho, Op.operands]) _ hy
  have hb : (Go.binOp .neq T (B3.v a) (B3.v b)).run P w = .ok (.bool (!decide (a = b))) w := by
    have := run_eq3 hT hE hs a b 9998 w
    unfold B3.v at *
    rw [run_neq_struct, show (10000 : Nat) = 9998 + 1 + 1 from rfl, this]
    rfl
  simp only [execOp, ho, h1, h2, Sem.run_bind, guard3 hg, hb, Result.andThen_ok, Sem.run_pure]
end
theorem idxP_at {β : Type} {p : β → Prop} [DecidablePred p] {xs : List β} (h : ¬ idxP p xs = -1) : ∃ k, ∃ hk : k < xs.length, idxP p xs = (k : Int) ∧ p xs[k] ∧ ∀ j (hj : j < xs.length), j < k → ¬ p xs[j] := by
  by_cases hc : ∃ k, ∃ hk : k < xs.length, p xs[k]
  · obtain ⟨k, hk, h1⟩ := hc
    have key : ∀ n k (hk : k < xs.length), k ≤ n → p xs[k] → ∃ k, ∃ hk : k < xs.length, p xs[k] ∧ ∀ j (hj : j < xs.length), j < k → ¬ p xs[j] := by
      intro n
      induction n with
      | zero => intro k hk h0 h1; exact ⟨k, hk, h1, fun j hj h => by omega⟩
      | succ n ih =>
        intro k hk h0 h1
        by_cases h2 : ∃ j, ∃ hj : j < xs.length, j < k ∧ p xs[j]
        · obtain ⟨j, hj, h3, h4⟩ := h2
          exact ih j hj (by omega) h4
        · exact ⟨k, hk, h1, fun j hj h3 h4 => h2 ⟨j, hj, h3, h4⟩⟩
    obtain ⟨k, hk, h1, h2⟩ := key k k hk (Nat.le_refl _) h1
    exact ⟨k, hk, idxP_found hk h1 h2, h1, h2⟩
  · exact absurd (idxP_none (fun j hj hh => hc ⟨j, hj, hh⟩)) h
theorem idxP_not {β : Type} {p : β → Prop} [DecidablePred p] {xs : List β} (h : idxP p xs = -1) : ∀ j (hj : j < xs.length), ¬ p xs[j] := fun j hj hh => by
  have := (idxP_nonneg (p := p) (xs := xs)).2 ⟨_, List.getElem_mem hj, hh⟩
  omega
/-! ### What is kept -/
section
variable {β : Type} {p : β → Prop} [DecidablePred p] {ps : List β} {j : Nat}
def keptL (p : β → Prop) [DecidablePred p] (ps : List β) (j : Nat) : List β := (ps.take j).filter fun x => !decide (p x)
theorem keptL_le : (keptL p ps j).length ≤ j := Nat.le_trans (List.length_filter_le _ _) (by rw [List.length_take]; omega)
theorem keptL_yes (hj : j < ps.length) (h : p ps[j]) : keptL p ps (j + 1) = keptL p ps j := by
  unfold keptL
  rw [take_snoc hj, List.filter_append]
  simp [h]
theorem keptL_no (hj : j < ps.length) (h : ¬ p ps[j]) : keptL p ps (j + 1) = keptL p ps j ++ [ps[j]] := by
  unfold keptL
  rw [take_snoc hj, List.filter_append]
  simp [h]
theorem keptL_all (h : ∀ k (hk : k < ps.length), k < j → ¬ p ps[k]) (hj : j ≤ ps.length) : keptL p ps j = ps.take j := by
  induction j with
  | zero => simp [keptL]
  | succ j ih =>
    rw [keptL_no (by omega) (h j (by omega) (by omega)), ih (fun k hk hkj => h k hk (by omega)) (by omega), take_snoc (by omega)]
theorem keptL_end (hj : ps.length ≤ j) : keptL p ps j = ps.filter fun x => !decide (p x) := by unfold keptL; rw [List.take_of_length_le hj]
/-- The row while it is being moved together. -/
def movL (p : β → Prop) [DecidablePred p] (ps : List β) (j : Nat) : List β := keptL p ps j ++ ps.drop (keptL p ps j).length
theorem movL_len : (movL p ps j).length = ps.length := by
  have h1 : (keptL p ps j).length ≤ ps.length := Nat.le_trans (List.length_filter_le _ _) (by rw [List.length_take]; omega)
  unfold movL
  rw [List.length_append, List.length_drop]
  omega
theorem movL_get (hj : j < ps.length) (h2 : j < (movL p ps j).length) : (movL p ps j)[j] = ps[j] := by
  have := keptL_le (p := p) (ps := ps) (j := j)
  apply Option.some.inj
  rw [← List.getElem?_eq_getElem h2]
  unfold movL
  rw [List.getElem?_append_right this, List.getElem?_drop, show (keptL p ps j).length + (j - (keptL p ps j).length) = j by omega, List.getElem?_eq_getElem hj]
theorem movL_no (hj : j < ps.length) (h : ¬ p ps[j]) : (movL p ps j).set (keptL p ps j).length ps[j] = movL p ps (j + 1) := by
  have h1 := keptL_le (p := p) (ps := ps) (j := j)
  unfold movL
  rw [keptL_no hj h, List.set_append_right _ _ (Nat.le_refl _), Nat.sub_self, List.length_append, List.length_singleton, drop_cons (show (keptL p ps j).length < ps.length by omega), List.set_cons_zero, List.append_assoc]
  rfl
theorem movL_yes (hj : j < ps.length) (h : p ps[j]) : movL p ps j = movL p ps (j + 1) := by
  unfold movL
  rw [keptL_yes hj h]
theorem movL_start (h : ∀ k (hk : k < ps.length), k < j → ¬ p ps[k]) (hj : j < ps.length) (hp : p ps[j]) : ps = movL p ps (j + 1) ∧ (keptL p ps (j + 1)).length = j := by
  have e : keptL p ps (j + 1) = ps.take j := by rw [keptL_yes hj hp, keptL_all h (by omega)]
  unfold movL
  rw [e]
  rw [List.length_take, Nat.min_eq_left (by omega), List.take_append_drop]
  exact ⟨rfl, rfl⟩
theorem movL_take : (movL p ps j).take (keptL p ps j).length = keptL p ps j := by unfold movL; rw [List.take_append_of_le_length (Nat.le_refl _), List.take_length]
theorem keep_none (h : ∀ k (hk : k < ps.length), ¬ p ps[k]) : (ps.filter fun x => !decide (p x)) = ps := by
  refine List.filter_eq_self.2 fun x hx => ?_
  obtain ⟨k, hk, rfl⟩ := List.getElem_of_mem hx
  simp [h k hk]
end
end Go.Vc
/-
  Plain words: completions, by the bits of the pairs that are used.
-/
namespace Go.Vc

theorem blt_no {a b : Nat} (h : ¬ a < b) : Nat.blt a b = false := by
  cases hh : Nat.blt a b with
  | false => rfl
  | true => rw [Nat.blt_eq] at hh; exact absurd hh h
/-- The number of a pair. -/
def prI (a b : Nat) : Nat := min a b * 16 + max a b
def usd (m a b : Nat) : Bool := m.testBit (prI a b)
def putM (m a b c : Nat) : Nat := m ||| 2 ^ prI a b ||| 2 ^ prI a c ||| 2 ^ prI b c
/-- The first pair that is left. -/
def rowN (v m a : Nat) : Option Nat := (List.range v).find? fun b => Nat.blt a b && !usd m a b
def nextM (v m : Nat) : Option (Nat × Nat) := (List.range v).findSome? fun a => (rowN v m a).map fun b => (a, b)
def may (m a b c : Nat) : Bool := Nat.blt b c && !usd m a c && !usd m b c
def b3N (a b c : Nat) : B3 := ((a : Int), (b : Int), (c : Int))
/-- All completions, each as the blocks that are put in. -/
def compM : Nat → Nat → Nat → List (List B3)
  | 0, v, m => match nextM v m with
    | none => [[]]
    | some _ => []
  | n + 1, v, m => match nextM v m with
    | none => [[]]
    | some (a, b) => (List.range v).flatMap fun c => if may m a b c then (compM n v (putM m a b c)).map (b3N a b c :: ·) else []
def compJ (n v m a b c : Nat) : List (List B3) := (List.range c).flatMap fun c => if may m a b c then (compM n v (putM m a b c)).map (b3N a b c :: ·) else []
/-- How many. -/
def cntM : Nat → Nat → Nat → Nat
  | 0, v, m => match nextM v m with
    | none => 1
    | some _ => 0
  | n + 1, v, m => match nextM v m with
    | none => 1
    | some (a, b) => (List.range v).foldl (fun s c => if may m a b c then s + cntM n v (putM m a b c) else s) 0
theorem len_flatMap {α β : Type} (l : List α) (f : α → List β) : (l.flatMap f).length = l.foldl (fun s x => s + (f x).length) 0 := by
  have key : ∀ (l : List α) (k : Nat), l.foldl (fun s x => s + (f x).length) k = k + (l.flatMap f).length := by
    intro l
    induction l with
    | nil => intro k; simp
    | cons x l ih => intro k; simp only [List.foldl_cons, List.flatMap_cons, List.length_append]; rw [ih]; omega
  rw [key]
  omega
theorem cntM_eq : ∀ n v m, (compM n v m).length = cntM n v m := by
  intro n
  induction n with
  | zero => intro v m; unfold compM cntM; split <;> rfl
  | succ n ih =>
    intro v m
    unfold compM cntM
    split
    · rfl
    · rw [len_flatMap]
      congr 1
      funext s c
      split
      · rw [List.length_map, ih]
      · simp
section
variable {v m a b c n : Nat}
structure IsNext (v m a b : Nat) : Prop where
  ab : a < b
  bv : b < v
  left : usd m a b = false
  row : ∀ y, a < y → y < b → usd m a y = true
  rows : ∀ x y, x < a → x < y → y < v → usd m x y = true
theorem rowN_none (h : ∀ y, a < y → y < v → usd m a y = true) : rowN v m a = none := by
  unfold rowN
  rw [List.find?_eq_none]
  intro y hy
  have := List.mem_range.1 hy
  simp only [Bool.and_eq_true, Nat.blt_eq, Bool.not_eq_true', not_and, Bool.not_eq_false]
  exact fun h1 => h y h1 this
theorem rowN_some (h1 : a < b) (h2 : b < v) (h3 : usd m a b = false) (h4 : ∀ y, a < y → y < b → usd m a y = true) : rowN v m a = some b := by
  unfold rowN
  rw [List.find?_range_eq_some]
  refine ⟨by simp [h1, h3], List.mem_range.2 h2, fun y hy => ?_⟩
  by_cases e : a < y
  · simp [h4 y e hy]
  · simp [blt_no e]
theorem nextM_none (h : ∀ x y, x < y → y < v → usd m x y = true) : nextM v m = none := by
  unfold nextM
  rw [List.findSome?_eq_none_iff]
  intro x hx
  rw [rowN_none (fun y h1 h2 => h x y h1 h2)]
  rfl
theorem findSome_range {α : Type} {f : Nat → Option α} {n k : Nat} {r : α} (hk : k < n) (hr : f k = some r) (hn : ∀ j, j < k → f j = none) : (List.range n).findSome? f = some r := by
  have e : List.range n = List.range k ++ k :: (List.range (n - k - 1)).map (k + 1 + ·) := by
    have h1 : n = k + (1 + (n - k - 1)) := by omega
    conv => lhs; rw [h1]
    rw [List.range_add, List.range_add]
    simp [List.range_succ, Nat.add_assoc, Nat.add_comm, Nat.add_left_comm]
  rw [e, List.findSome?_append]
  have h2 : (List.range k).findSome? f = none := by
    rw [List.findSome?_eq_none_iff]
    exact fun x hx => hn x (List.mem_range.1 hx)
  rw [h2]
  simp [hr]
theorem nextM_some (h : IsNext v m a b) : nextM v m = some (a, b) := by
  unfold nextM
  refine findSome_range (k := a) (Nat.lt_trans h.ab h.bv) ?_ ?_
  · rw [rowN_some h.ab h.bv h.left h.row]
    rfl
  · intro x hx
    rw [rowN_none (fun y h1 h2 => h.rows x y hx h1 h2)]
    rfl
theorem compM_none (h : nextM v m = none) : compM n v m = [[]] := by
  cases n <;> simp [compM, h]
theorem compM_some (h : nextM v m = some (a, b)) : compM (n + 1) v m = compJ n v m a b v := by
  simp [compM, compJ, h]
theorem compJ_zero : compJ n v m a b 0 = [] := rfl
theorem compJ_yes (h : may m a b c = true) : compJ n v m a b (c + 1) = compJ n v m a b c ++ (compM n v (putM m a b c)).map (b3N a b c :: ·) := by
  unfold compJ
  rw [List.range_succ, List.flatMap_append]
  simp [h]
theorem compJ_no (h : may m a b c = false) : compJ n v m a b (c + 1) = compJ n v m a b c := by
  unfold compJ
  rw [List.range_succ, List.flatMap_append]
  simp [h]
theorem compJ_low (h : c ≤ b + 1) : compJ n v m a b c = [] := by
  induction c with
  | zero => rfl
  | succ c ih =>
    rw [compJ_no, ih (by omega)]
    unfold may
    have : Nat.blt b c = false := blt_no (by omega)
    simp [this]
theorem compJ_prefix {i : Nat} (h : i ≤ c) : compJ n v m a b i <+: compJ n v m a b c := by
  induction c with
  | zero => have : i = 0 := by omega
            subst this; exact List.prefix_refl _
  | succ c ih =>
    by_cases e : i = c + 1
    · subst e; exact List.prefix_refl _
    · refine (ih (by omega)).trans ?_
      cases hk : may m a b c with
      | true => rw [compJ_yes hk]; exact List.prefix_append _ _
      | false => rw [compJ_no hk]; exact List.prefix_refl _
/-! ### Pairs -/
theorem prI_comm (a b : Nat) : prI a b = prI b a := by unfold prI; rw [Nat.min_comm, Nat.max_comm]
theorem usd_comm (m a b : Nat) : usd m a b = usd m b a := by unfold usd; rw [prI_comm]
theorem prI_inj {x y : Nat} (ha : a < 16) (hb : b < 16) (hx : x < 16) (hy : y < 16) (h : prI a b = prI x y) : (a = x ∧ b = y) ∨ (a = y ∧ b = x) := by
  unfold prI at h
  omega
theorem usd_put {x y : Nat} (ha : a < 16) (hb : b < 16) (hc : c < 16) (hx : x < 16) (hy : y < 16) : usd (putM m a b c) x y = true ↔ usd m x y = true ∨ ((x = a ∧ y = b) ∨ (x = b ∧ y = a)) ∨ ((x = a ∧ y = c) ∨ (x = c ∧ y = a)) ∨ ((x = b ∧ y = c) ∨ (x = c ∧ y = b)) := by
  unfold usd putM
  simp only [Nat.testBit_or, Nat.testBit_two_pow, Bool.or_eq_true, decide_eq_true_eq]
  have h1 : prI a b = prI x y ↔ (x = a ∧ y = b) ∨ (x = b ∧ y = a) := ⟨fun h => by have := prI_inj ha hb hx hy h; omega, by rintro (⟨rfl, rfl⟩ | ⟨rfl, rfl⟩); rfl; exact prI_comm _ _⟩
  have h2 : prI a c = prI x y ↔ (x = a ∧ y = c) ∨ (x = c ∧ y = a) := ⟨fun h => by have := prI_inj ha hc hx hy h; omega, by rintro (⟨rfl, rfl⟩ | ⟨rfl, rfl⟩); rfl; exact prI_comm _ _⟩
  have h3 : prI b c = prI x y ↔ (x = b ∧ y = c) ∨ (x = c ∧ y = b) := ⟨fun h => by have := prI_inj hb hc hx hy h; omega, by rintro (⟨rfl, rfl⟩ | ⟨rfl, rfl⟩); rfl; exact prI_comm _ _⟩
  rw [h1, h2, h3]
  simp only [or_assoc]
/-- How many pairs are left. -/
def prs (v : Nat) : List (Nat × Nat) := (List.range v).flatMap fun a => (List.range v).map fun b => (a, b)
def leftN (v m : Nat) : Nat := ((prs v).filter fun p => Nat.blt p.1 p.2 && !usd m p.1 p.2).length
theorem mem_prs {p : Nat × Nat} : p ∈ prs v ↔ p.1 < v ∧ p.2 < v := by
  unfold prs
  simp only [List.mem_flatMap, List.mem_range, List.mem_map]
  constructor
  · rintro ⟨x, hx, y, hy, rfl⟩; exact ⟨hx, hy⟩
  · rintro ⟨h1, h2⟩; exact ⟨p.1, h1, p.2, h2, rfl⟩
theorem filter_lt {α : Type} {l : List α} {p q : α → Bool} (h : ∀ x ∈ l, q x = true → p x = true) {x : α} (hx : x ∈ l) (hp : p x = true) (hq : q x = false) : (l.filter q).length < (l.filter p).length := by
  induction l with
  | nil => simp at hx
  | cons y l ih =>
    have hle : (l.filter q).length ≤ (l.filter p).length := by
      clear ih hx
      induction l with
      | nil => simp
      | cons z l ih2 =>
        have h1 := h z (by simp)
        have h2 := ih2 (fun x hx => h x (by simp at hx ⊢; rcases hx with h | h <;> simp [h]))
        simp only [List.filter_cons]
        cases hqz : q z <;> cases hpz : p z <;> simp_all <;> omega
    simp only [List.filter_cons]
    by_cases e : x = y
    · subst e
      simp [hp, hq]
      omega
    · have hm : x ∈ l := by simp at hx; rcases hx with h | h; exact absurd h e; exact h
      have := ih (fun x hx => h x (by simp [hx])) hm
      have h1 := h y (by simp)
      cases hqy : q y <;> cases hpy : p y <;> simp_all <;> omega
theorem leftN_put (ha : a < 16) (hb : b < 16) (hc : c < 16) (hv : v ≤ 16) (hab : a < b) (hbv : b < v) (hu : usd m a b = false) : leftN v (putM m a b c) < leftN v m := by
  unfold leftN
  refine filter_lt (x := (a, b)) ?_ (mem_prs.2 ⟨by omega, hbv⟩) (by simp [hab, hu]) ?_
  · rintro ⟨x, y⟩ hxy h
    obtain ⟨h1, h2⟩ := mem_prs.1 hxy
    simp only [Bool.and_eq_true, Bool.not_eq_true'] at h ⊢
    refine ⟨h.1, ?_⟩
    cases hux : usd m x y with
    | false => rfl
    | true =>
      have := (usd_put (m := m) ha hb hc (x := x) (y := y) (by simp at h1; omega) (by simp at h2; omega)).2 (.inl hux)
      rw [this] at h
      simp at h
  · have := (usd_put (m := m) ha hb hc ha hb).2 (.inr (.inl (.inl ⟨rfl, rfl⟩)))
    simp [this]
theorem leftN_zero (h : leftN v m = 0) : ∀ x y, x < y → y < v → usd m x y = true := by
  intro x y h1 h2
  unfold leftN at h
  have h3 := List.eq_nil_of_length_eq_zero h
  rw [List.filter_eq_nil_iff] at h3
  have := h3 (x, y) (mem_prs.2 ⟨by simp; omega, h2⟩)
  simp only [Bool.and_eq_true, Nat.blt_eq, Bool.not_eq_true', not_and, Bool.not_eq_false] at this
  exact this h1
end
end Go.Vc
/-
  Plain words: completions, by the table of third points; a list that is handed on one by one till it is enough.
-/
namespace Go.Vc
section
variable {v m a b c n : Nat} {G : Int → Int → Int}
/-- The pairs that the table has. -/
def Rel (v : Nat) (G : Int → Int → Int) (m : Nat) : Prop := ∀ x y : Nat, x < v → y < v → x ≠ y → (G x y = -1 ↔ usd m x y = false)
theorem b3N_three (h1 : a < b) (h2 : b < c) : three (b3N a b c) := by unfold three b3N; simp only; omega
theorem rel_left (h : Rel v G m) (h1 : a < b) (h2 : b < c) (h3 : c < v) (hu : usd m a b = false) : isLeft G (b3N a b c) ↔ may m a b c = true := by
  unfold isLeft may b3N
  simp only
  rw [h a b (by omega) (by omega) (by omega), h a c (by omega) (by omega) (by omega), h b c (by omega) (by omega) (by omega)]
  have : Nat.blt b c = true := by rw [Nat.blt_eq]; exact h2
  simp [this, hu]
theorem has_b3N {x : Nat} : has (b3N a b c) x ↔ x = a ∨ x = b ∨ x = c := by
  unfold has b3N
  simp only
  omega
theorem usd_putN {x y : Nat} (ha : a < b) (hb : b < c) (hc : c < 16) (hx : x < 16) (hy : y < 16) (hne : x ≠ y) : usd (putM m a b c) x y = false ↔ usd m x y = false ∧ ¬ (has (b3N a b c) x ∧ has (b3N a b c) y) := by
  have h := usd_put (m := m) (a := a) (b := b) (c := c) (by omega) (by omega) hc hx hy
  rw [has_b3N, has_b3N]
  constructor
  · intro h1
    have h2 : ¬ (usd (putM m a b c) x y = true) := by rw [h1]; decide
    rw [h] at h2
    refine ⟨?_, ?_⟩
    · cases hm : usd m x y with
      | false => rfl
      | true => exact absurd (.inl hm) h2
    · omega
  · rintro ⟨h1, h2⟩
    cases hm : usd (putM m a b c) x y with
    | false => rfl
    | true =>
      have h3 := h.1 hm
      rw [h1] at h3
      rcases h3 with h3 | h3
      · exact absurd h3 (by decide)
      · omega
theorem rel_put (h : Rel v G m) (ha : a < b) (hb : b < c) (hc : c < v) (hv : v ≤ 15) : Rel v (tabPut G (b3N a b c)) (putM m a b c) := by
  intro x y hx hy hne
  rw [tabPut_left (b3N_three ha hb), usd_putN ha hb (by omega) (by omega) (by omega) hne, h x y hx hy hne]
  constructor
  · rintro ⟨h1, h2⟩; exact ⟨h1, fun h3 => h2 ⟨h3.1, h3.2, by omega⟩⟩
  · rintro ⟨h1, h2⟩; exact ⟨h1, fun h3 => h2 ⟨h3.1, h3.2.1⟩⟩
theorem tabDel_left {b : B3} (x y : Int) (hne : x ≠ y) : tabDel G b x y = -1 ↔ (has b x ∧ has b y) ∨ G x y = -1 := by
  unfold tabDel gset has
  repeat' split
  all_goals first | (constructor <;> intro h <;> first | trivial | (left; omega)) | skip
  all_goals
    constructor
    · intro h; exact .inr h
    · rintro (h | h)
      · omega
      · exact h
theorem rel_del (h : Rel v G (putM m a b c)) (ha : a < b) (hb : b < c) (hc : c < v) (hv : v ≤ 15) (hu : usd m a b = false) (hm : may m a b c = true) : Rel v (tabDel G (b3N a b c)) m := by
  have hm' : usd m a c = false ∧ usd m b c = false := by unfold may at hm; simp only [Bool.and_eq_true, Bool.not_eq_true'] at hm; exact ⟨hm.1.2, hm.2⟩
  intro x y hx hy hne
  rw [tabDel_left _ _ (by omega), h x y hx hy hne, usd_putN ha hb (by omega) (by omega) (by omega) hne]
  constructor
  · rintro (⟨h1, h2⟩ | h1)
    · rw [has_b3N] at h1 h2
      rcases h1 with rfl | rfl | rfl <;> rcases h2 with rfl | rfl | rfl <;> first | exact absurd rfl hne | exact hu | exact hm'.1 | exact hm'.2 | (rw [usd_comm]; first | exact hu | exact hm'.1 | exact hm'.2)
    · exact h1.1
  · intro h1
    by_cases h2 : has (b3N a b c) x ∧ has (b3N a b c) y
    · exact .inl h2
    · exact .inr ⟨h1, h2⟩
theorem rel_nil : Rel v (fun _ _ => -1) 0 := by intro x y _ _ _; simp [usd]
/-! ### Handed on one by one -/
variable {α β : Type}
/-- What is handed on of a list, k being there already: till it is told to stop. -/
def runC (cont : Nat → Bool) : Nat → List α → List α
  | _, [] => []
  | k, x :: r => if cont (k + 1) then x :: runC cont (k + 1) r else [x]
def goesC (cont : Nat → Bool) : Nat → List α → Bool
  | _, [] => true
  | k, _ :: r => cont (k + 1) && goesC cont (k + 1) r
variable {cont : Nat → Bool} {k : Nat}
theorem runC_all {l : List α} (h : goesC cont k l = true) : runC cont k l = l := by
  induction l generalizing k with
  | nil => rfl
  | cons x r ih =>
    unfold goesC at h
    rw [Bool.and_eq_true] at h
    unfold runC
    rw [if_pos h.1, ih h.2]
theorem goesC_append {l r : List α} : goesC cont k (l ++ r) = (goesC cont k l && goesC cont (k + l.length) r) := by
  induction l generalizing k with
  | nil => simp [goesC]
  | cons x l ih =>
    simp only [List.cons_append, goesC, ih, List.length_cons, Bool.and_assoc]
    rw [show k + 1 + l.length = k + (l.length + 1) by omega]
theorem runC_append {l r : List α} (h : goesC cont k l = true) : runC cont k (l ++ r) = l ++ runC cont (k + l.length) r := by
  induction l generalizing k with
  | nil => rfl
  | cons x l ih =>
    unfold goesC at h
    rw [Bool.and_eq_true] at h
    simp only [List.cons_append]
    rw [runC, if_pos h.1, ih h.2, List.length_cons, show k + 1 + l.length = k + (l.length + 1) by omega]
theorem runC_stop {l r : List α} (h : goesC cont k l = false) : runC cont k (l ++ r) = runC cont k l := by
  induction l generalizing k with
  | nil => simp [goesC] at h
  | cons x l ih =>
    simp only [List.cons_append, runC]
    by_cases hc : cont (k + 1) = true
    · rw [if_pos hc, if_pos hc]
      unfold goesC at h
      rw [hc, Bool.true_and] at h
      rw [ih h]
    · rw [if_neg hc, if_neg hc]
theorem goesC_stop {l r : List α} (h : goesC cont k l = false) : goesC cont k (l ++ r) = false := by rw [goesC_append, h]; rfl
theorem goesC_map {f : α → β} {l : List α} : goesC cont k (l.map f) = goesC cont k l := by
  induction l generalizing k with
  | nil => rfl
  | cons x r ih => simp [goesC, ih]
theorem runC_le {l : List α} : (runC cont k l).length ≤ l.length := by
  induction l generalizing k with
  | nil => simp [runC]
  | cons x r ih =>
    unfold runC
    split
    · simp only [List.length_cons]
      have := ih (k := k + 1)
      omega
    · simp
theorem goesC_true {l : List α} : goesC (fun _ => true) k l = true := by
  induction l generalizing k with
  | nil => rfl
  | cons x r ih => simp [goesC, ih]
/-- The completions, behind blocks. -/
def leaf (xs : List B3) (l : List (List B3)) : List (List B3) := l.map (xs ++ ·)
theorem leaf_append {xs : List B3} {l r : List (List B3)} : leaf xs (l ++ r) = leaf xs l ++ leaf xs r := List.map_append ..
theorem leaf_cons {xs : List B3} {b : B3} {l : List (List B3)} : leaf xs (l.map (b :: ·)) = leaf (xs ++ [b]) l := by
  unfold leaf
  rw [List.map_map]
  refine List.map_congr_left fun x _ => ?_
  simp
theorem leaf_len {xs : List B3} {l : List (List B3)} : (leaf xs l).length = l.length := List.length_map ..
end
end Go.Vc
/-
  The calculus, part 13: a store behind which less is known; a call of a value that turns memory.
-/
namespace Go.Vc
open Go Go.RowKit
section
variable {P : Program} {N : Nat} {w0 : World} {Q : Exit → Act → World → Prop} {σ σ' : Sig} {H H' Hs Hs' : List Assn} {ops : Array Oper}
def coverB (ops : Array Oper) (done free : List Nat) (o : Oper) : Bool := done.all fun i => (afters o).contains i || free.contains i
/-- A store: what has been read before may change, if those who read it are listed. -/
theorem D.effX (hwf : wfB ops = true) {effs done : List Nat} {e : Nat} {o : Oper} {K : Value → List Assn → Prop} (ho : ops[e]? = some o) (hne' : (done.contains e || !strictB ops e) = false) (hcl : closedB ops done e = true) (hg : o.guard = none)
    (hp : Ef P w0 o σ H Q K) (hd : o.dst = none) (free : List Nat) (hfree : coverB ops done free o = true) (hfreeD : ∀ i ∈ free, ∃ d v, look σ d = some v ∧ Nat.blt d N = true ∧ Det P w0 ops Q i σ Hs' d v)
    (h : ∀ v H', K v H' → (∀ w, St w0 H' w → St w0 Hs' w) ∧ D P N w0 ops Q (e :: afters o) (e :: done) σ Hs' H') : D P N w0 ops Q effs done σ Hs H := by
  have hne := (new_of hne').1
  have hcov : ∀ i ∈ done, i ∈ afters o ∨ i ∈ free := by
    intro i hi
    have := List.all_eq_true.1 hfree i hi
    simpa using this
  intro fuel
  induction fuel with
  | zero =>
    intro L a w hI hf
    exfalso
    have hel : e < L.size := by rw [hI.size]; exact (Array.getElem?_eq_some_iff.1 ho).1
    cases hv : L[e] with
    | true =>
      have := hI.listed e (by rw [Array.getElem?_eq_getElem hel, hv])
      simp [this] at hne
    | false =>
      have hmem : false ∈ L.toList := by
        rw [← hv]
        simp
      have : 0 < L.toList.countP (fun b => !b) := List.countP_pos_iff.2 ⟨false, hmem, rfl⟩
      omega
  | succ fuel ih =>
    intro L a w hI hf
    have hel : e < L.size := by rw [hI.size]; exact (Array.getElem?_eq_some_iff.1 ho).1
    have hLe : L[e]? = some false := by
      rw [Array.getElem?_eq_getElem hel]
      cases hv : L[e] with
      | true =>
        have := hI.listed e (by rw [Array.getElem?_eq_getElem hel, hv])
        simp [this] at hne
      | false => rfl
    refine ⟨fun hr => ?_, fun i hi => ?_⟩
    · obtain ⟨j, hj⟩ := pending_ready hwf hI.size (e + 1) e (by omega) hLe
      rw [hr] at hj
      simp at hj
    · obtain ⟨hLi, oi, hoi, hall⟩ := (mem_ready hI.size).1 hi
      by_cases hid : i ∈ done
      · rcases hI.dets i hid with he | ⟨d, v, σ1, ⟨o', ho', hod, hdet⟩, hv, hsub, hdN⟩
        · have := hI.effs_ i he
          rw [hLi] at this
          cases this
        · rw [hoi] at ho'
          cases ho'
          have hag := hI.agree hwf hi hoi
          refine hdet w (hI.sub w hI.st) a _ (fun t ht u hu => hag t ht u (hsub t u hu)) ?_
          exact ih _ _ _ (hI.step_det hwf hoi hod hLi hv hdN hid) (count_set hLi hf)
      · by_cases hie : i = e
        · subst hie
          obtain rfl : o = oi := by rw [ho] at hoi; exact Option.some.inj hoi
          have hag := hI.agree hwf hi ho
          have hlst : ∀ j ∈ afters o, L[j]? = some true := fun j hj => ready_after hI.size hi ho hj
          unfold wpOp
          rw [ho]
          simp only
          rw [if_pos (wanted_none hg _)]
          refine .inl (Oper.wp_mono ?_ (hp w hI.st a ?_))
          · rintro a' w' ⟨v, H', rfl, hw', hK⟩
            obtain ⟨hs', hD⟩ := h v H' hK
            have ha : a.put o.dst v = a := by rw [hd]; rfl
            rw [ha]
            refine hD _ _ _ _ ⟨by simpa using hI.size, hw', hI.defers, hI.tmps, ?_, ?_, ?_, ?_, hs', fun j hj => by rcases List.mem_cons.1 hj with e1 | e1; (· exact e1 ▸ (new_of hne').2); (· exact hI.strict j e1)⟩ (count_set hLi hf)
            · intro j hj
              rw [set_some hel] at hj
              by_cases e1 : j = i
              · simp [e1]
              · rw [if_neg e1] at hj
                exact List.mem_cons_of_mem _ (hI.listed j hj)
            · intro j hj
              rw [set_some hel]
              split
              · rfl
              · rename_i e1
                rcases List.mem_cons.1 hj with e2 | e2
                · exact absurd e2 e1
                · exact hlst j e2
            · intro t u hu
              rcases hI.slots t u hu with h1 | ⟨j, q, hj, hLj, hq, hqd⟩
              · exact .inl h1
              · refine .inr ⟨j, q, List.mem_cons_of_mem _ hj, ?_, hq, hqd⟩
                rw [set_some hel, if_neg]
                · exact hLj
                · rintro rfl
                  exact hid hj
            · intro j hj
              rcases List.mem_cons.1 hj with e1 | e1
              · exact .inl (by simp [e1])
              · rcases hcov j e1 with h1 | h1
                · exact .inl (List.mem_cons_of_mem _ h1)
                · obtain ⟨d, v1, hv1, hdN, hdet⟩ := hfreeD j h1
                  exact .inr ⟨d, v1, σ, hdet, hv1, fun t u hu => hu, hdN⟩
          · intro x hx u hu
            cases x with
            | tmp t =>
              have ht : t ∈ reads ops o := by
                unfold reads
                exact List.mem_append.2 (.inl (List.mem_filterMap.2 ⟨.tmp t, by simpa using hx, rfl⟩))
              have := hag t ht u hu
              simp [Act.eval, this]
            | const c => simpa [ev, Act.eval] using hu
            | global g => simpa [ev, Act.eval] using hu
            | func g => simpa [ev, Act.eval] using hu
        · exfalso
          have hc := List.all_eq_true.1 hcl i (List.mem_range.2 (by have := (Array.getElem?_eq_some_iff.1 hoi).1; exact this))
          simp only [hoi, Bool.or_eq_true] at hc
          rcases hc with (hc | hc) | hc
          · exact hid (by simpa using hc)
          · exact hie (Nat.eq_of_beq_eq_true hc)
          · obtain ⟨j, hj, hjd⟩ := List.any_eq_true.1 hc
            have := hI.listed j (ready_after hI.size hi hoi hj)
            simp [this] at hjd
/-- An operation that reads no memory is settled whatever the heap. -/
theorem Det.of {i d : Nat} {v : Value} {o : Oper} (ho : ops[i]? = some o) (hg : o.guard = none) (hd : o.dst = some d) (hp : Pu P w0 o σ Hs v) : Det P w0 ops Q i σ Hs d v := by
  refine ⟨o, ho, hd, fun w hw a K hag hK => ?_⟩
  unfold wpOp
  rw [ho]
  simp only
  rw [if_pos (wanted_none hg _)]
  refine .inl (upon_ok (hp w hw a ?_) ?_)
  · intro x hx u hu
    cases x with
    | tmp t =>
      have ht : t ∈ reads ops o := by
        unfold reads
        exact List.mem_append.2 (.inl (List.mem_filterMap.2 ⟨.tmp t, by simpa using hx, rfl⟩))
      have := hag t ht u hu
      simp [Act.eval, this]
    | const c => simpa [ev, Act.eval] using hu
    | global g => simpa [ev, Act.eval] using hu
    | func g => simpa [ev, Act.eval] using hu
  · rw [hd]
    exact hK
end
end Go.Vc
/-
  The calculus, part 14: a search for completions that hands them on.
-/
namespace Go.Vc
open Go Go.RowKit
section
variable {P : Program} {N : Nat} {w0 : World} {Q : Exit → Act → World → Prop} {σ : Sig} {H H' : List Assn} {ops : Array Oper} {rest : List Oper}
/-- A search: the completer's cells, its grid, its list; what has been handed on, l. -/
def CompK (T eT gT : TypeId) (cb gb v : Nat) (f : Value) (E : List (List B3) → Assn) (m : Nat) (xs : List B3) (l : List (List B3)) : Assn :=
  .exi fun q : (Option Addr × Nat) × (Int → Int → Int) => .sep (.pur (Rel v q.2 m)) (.sep (Blk cb [.int .i64 (v : Int), .pointer (some ⟨gb, 0, none⟩), .slice q.1.1 xs.length q.1.2, f] T) (.sep (Grid gb q.2 gT) (.sep (Own eT B3C q.1.1 q.1.2 xs) (E l))))
variable {T eT gT : TypeId} {cb gb v m : Nat} {f : Value} {E : List (List B3) → Assn} {xs : List B3} {l : List (List B3)}
theorem V.compK {c : Code} (h : ∀ A k G, Rel v G m → V P N w0 c Q σ (Blk cb [.int .i64 (v : Int), .pointer (some ⟨gb, 0, none⟩), .slice A xs.length k, f] T :: Grid gb G gT :: Own eT B3C A k xs :: E l :: H)) : V P N w0 c Q σ (CompK T eT gT cb gb v f E m xs l :: H) := by
  intro w hw
  obtain ⟨q, hw⟩ := hw.exi
  have h1 := hw.sep.pur
  exact h _ _ _ h1.1 w (by
    have h2 := h1.2.sep
    have h3 := (h2.perm (List.Perm.swap _ _ _)).sep
    have h4 := (h3.sub (Sub.keep 1 rfl (Sub.keep 0 rfl (Sub.refl _)))).perm (List.Perm.refl _)
    have h5 := (h3.perm (List.Perm.swap _ _ _)).sep
    exact (h5.sub (Sub.keep 3 rfl (Sub.keep 2 rfl (Sub.keep 0 rfl (Sub.keep 0 rfl (Sub.refl _)))))))
theorem X.compK {e : Exit} (h : ∀ A k G, Rel v G m → X N w0 Q e σ (Blk cb [.int .i64 (v : Int), .pointer (some ⟨gb, 0, none⟩), .slice A xs.length k, f] T :: Grid gb G gT :: Own eT B3C A k xs :: E l :: H)) : X N w0 Q e σ (CompK T eT gT cb gb v f E m xs l :: H) := by
  intro w hw
  obtain ⟨q, hw⟩ := hw.exi
  have h1 := hw.sep.pur
  exact h _ _ _ h1.1 w (by
    have h2 := h1.2.sep
    have h3 := (h2.perm (List.Perm.swap _ _ _)).sep
    have h5 := (h3.perm (List.Perm.swap _ _ _)).sep
    exact (h5.sub (Sub.keep 3 rfl (Sub.keep 2 rfl (Sub.keep 0 rfl (Sub.keep 0 rfl (Sub.refl _)))))))
theorem CompK.mk {A : Option Addr} {k : Nat} {G : Int → Int → Int} (hr : Rel v G m) {w : World} (hw : St w0 (Blk cb [.int .i64 (v : Int), .pointer (some ⟨gb, 0, none⟩), .slice A xs.length k, f] T :: Grid gb G gT :: Own eT B3C A k xs :: E l :: H) w) : St w0 (CompK T eT gT cb gb v f E m xs l :: H) w := by
  refine St.mkExi ((A, k), G) (St.unsep (St.addPur hr ?_))
  have h1 : St w0 (Own eT B3C A k xs :: E l :: Grid gb G gT :: Blk cb [.int .i64 (v : Int), .pointer (some ⟨gb, 0, none⟩), .slice A xs.length k, f] T :: H) w := hw.sub (Sub.keep 2 rfl (Sub.keep 2 rfl (Sub.keep 1 rfl (Sub.keep 0 rfl (Sub.refl _)))))
  have h2 := (St.unsep h1).perm (List.Perm.swap _ _ _)
  have h3 := (St.unsep h2).perm (List.Perm.swap _ _ _)
  exact St.unsep h3
theorem CompK.mk' {A : Option Addr} {k n : Nat} {b : B3} {G : Int → Int → Int} (hr : Rel v G m) (hn : n = xs.length) {w : World} (hw : St w0 (Blk cb [.int .i64 (v : Int), .pointer (some ⟨gb, 0, none⟩), .slice A n k, f] T :: Grid gb G gT :: Own eT B3C A k (xs ++ [b]) :: E l :: H) w) : St w0 (CompK T eT gT cb gb v f E m xs l :: H) w := by
  subst hn
  refine CompK.mk hr (hw.sub (Sub.keep 0 rfl (Sub.keep 0 rfl (Sub.cons 0 rfl (fun w F h => ?_) (Sub.refl _)))))
  have := Own.takeP xs.length w F h
  rwa [List.take_left'] at this
  rfl
/-- What a search calls with each completion. -/
def CallB (P : Program) (w0 : World) (eT : TypeId) (gf : Nat) (caps : Array Value) (E : List (List B3) → Assn) (cont : Nat → Bool) (okL : List B3 → Prop) (M : Nat) : Prop :=
  ∀ (l : List (List B3)) (xs : List B3) (A : Option Addr) (k : Nat) (H : List Assn), l.length < M → okL xs → Does P gf ([.slice A xs.length k] ++ caps.toList) w0 (Own eT B3C A k xs :: E l :: H) (fun r => [.sep (.pur (r = .bool (cont (l.length + 1)))) (.sep (Own eT B3C A k xs) (E (l ++ [xs])))] ++ H)
end
section
variable {v m a b c n p k M : Nat} {cont : Nat → Bool} {xs : List B3} {l : List (List B3)} {okL : List B3 → Prop}
theorem comp_some' (h : nextM v m = some (a, b)) (hn : 0 < n) : compM n v m = compJ (n - 1) v m a b v := by
  obtain ⟨k, rfl⟩ : ∃ k, n = k + 1 := ⟨n - 1, by omega⟩
  exact compM_some h
theorem left_pos (h : IsNext v m a b) (hn : leftN v m ≤ n) : 0 < n := by
  apply Decidable.byContradiction
  intro h0
  have h1 := leftN_zero (v := v) (m := m) (by omega) a b h.ab h.bv
  rw [h.left] at h1
  cases h1
theorem compM_len : ∀ n v m (q : List B3), q ∈ compM n v m → q.length ≤ n := by
  intro n
  induction n with
  | zero =>
    intro v m q hq
    unfold compM at hq
    split at hq
    · simp at hq; subst hq; simp
    · simp at hq
  | succ n ih =>
    intro v m q hq
    unfold compM at hq
    split at hq
    · simp at hq; subst hq; simp
    · obtain ⟨c, hc, h1⟩ := List.mem_flatMap.1 hq
      split at h1
      · obtain ⟨r, hr, rfl⟩ := List.mem_map.1 h1
        have := ih _ _ _ hr
        simp only [List.length_cons]
        omega
      · simp at h1
theorem leaf_nil_len {q : List B3} (h : q ∈ leaf [] (compM n v m)) : q.length ≤ n := by
  have : q ∈ compM n v m := by simpa [leaf] using h
  exact compM_len n v m q this
theorem fitsAt_nil : fitsAt ([] : List B3) ([] : List B3).length := fitsAt_zero []
theorem leaf_none (h : nextM v m = none) : leaf xs (compM n v m) = [xs] := by rw [compM_none h]; simp [leaf]
theorem runC_one {α : Type} {x : α} : runC cont k [x] = [x] := by unfold runC; split <;> rfl
theorem goesC_one {α : Type} {x : α} : goesC cont k [x] = cont (k + 1) := by simp [goesC]
theorem runC_pre {α : Type} {l r : List α} : (runC cont k l).length ≤ (runC cont k (l ++ r)).length := by
  cases h : goesC cont k l with
  | true => rw [runC_append h, runC_all h, List.length_append]; omega
  | false => rw [runC_stop h]; omega
theorem leaf_step (hm : may m a b p = true) : leaf xs (compJ n v m a b (p + 1)) = leaf xs (compJ n v m a b p) ++ leaf (xs ++ [b3N a b p]) (compM n v (putM m a b p)) := by
  rw [compJ_yes hm, leaf_append, leaf_cons]
theorem leaf_pre {i : Nat} (h : i ≤ c) : ∃ r, leaf xs (compJ n v m a b c) = leaf xs (compJ n v m a b i) ++ r := by
  obtain ⟨r, hr⟩ := compJ_prefix (n := n) (v := v) (m := m) (a := a) (b := b) h
  exact ⟨leaf xs r, by rw [← leaf_append, hr]⟩
theorem step_M (hgo : goesC cont k (leaf xs (compJ n v m a b p)) = true) (hm : may m a b p = true) (hp : p < v) (hM : k + (runC cont k (leaf xs (compJ n v m a b v))).length ≤ M) :
    (l ++ leaf xs (compJ n v m a b p)).length + (runC cont (k + (leaf xs (compJ n v m a b p)).length) (leaf (xs ++ [b3N a b p]) (compM n v (putM m a b p)))).length ≤ M + l.length - k ∨ l.length < k := by
  by_cases hk : l.length < k
  · exact .inr hk
  · refine .inl ?_
    obtain ⟨r, hr⟩ := leaf_pre (xs := xs) (n := n) (v := v) (m := m) (a := a) (b := b) (i := p + 1) (c := v) (by omega)
    have h1 := runC_pre (cont := cont) (k := k) (l := leaf xs (compJ n v m a b (p + 1))) (r := r)
    rw [← hr] at h1
    rw [leaf_step hm, runC_append hgo, List.length_append] at h1
    rw [List.length_append]
    omega
theorem step_M2 {l2 : List (List B3)} (hgo : goesC cont l.length (leaf xs (compJ n v m a b p)) = true) (hm : may m a b p = true) (hp : p < v) (hM : l.length + (runC cont l.length (leaf xs (compJ n v m a b v))).length ≤ M) (hl : l2 = l ++ leaf xs (compJ n v m a b p)) :
    l2.length + (runC cont l2.length (leaf (xs ++ [b3N a b p]) (compM n v (putM m a b p)))).length ≤ M := by
  have h := step_M (l := l) (M := M) hgo hm hp hM
  rw [hl, List.length_append] at *
  rcases h with h | h <;> omega
theorem step_go (hgo : goesC cont k (leaf xs (compJ n v m a b p)) = true) (hm : may m a b p = true) (h : goesC cont (k + (leaf xs (compJ n v m a b p)).length) (leaf (xs ++ [b3N a b p]) (compM n v (putM m a b p))) = true) :
    goesC cont k (leaf xs (compJ n v m a b (p + 1))) = true := by
  rw [leaf_step hm, goesC_append, hgo, h]; rfl
theorem step_stop (hgo : goesC cont k (leaf xs (compJ n v m a b p)) = true) (hm : may m a b p = true) (hp : p < v) (h : ¬ goesC cont (k + (leaf xs (compJ n v m a b p)).length) (leaf (xs ++ [b3N a b p]) (compM n v (putM m a b p))) = true) :
    goesC cont k (leaf xs (compJ n v m a b v)) = false ∧ runC cont k (leaf xs (compJ n v m a b v)) = leaf xs (compJ n v m a b p) ++ runC cont (k + (leaf xs (compJ n v m a b p)).length) (leaf (xs ++ [b3N a b p]) (compM n v (putM m a b p))) := by
  obtain ⟨r, hr⟩ := leaf_pre (xs := xs) (n := n) (v := v) (m := m) (a := a) (b := b) (i := p + 1) (c := v) (by omega)
  have h1 : goesC cont k (leaf xs (compJ n v m a b (p + 1))) = false := by
    rw [leaf_step hm, goesC_append, hgo, Bool.true_and]
    cases hh : goesC cont (k + (leaf xs (compJ n v m a b p)).length) (leaf (xs ++ [b3N a b p]) (compM n v (putM m a b p))) with
    | true => exact absurd hh h
    | false => rfl
  rw [hr]
  refine ⟨goesC_stop h1, ?_⟩
  rw [runC_stop h1, leaf_step hm, runC_append hgo]
theorem step_ok (hm : may m a b p = true) (hp : p < v) (h : ∀ q ∈ leaf xs (compJ n v m a b v), okL q) : ∀ q ∈ leaf (xs ++ [b3N a b p]) (compM n v (putM m a b p)), okL q := by
  intro q hq
  obtain ⟨r, hr⟩ := leaf_pre (xs := xs) (n := n) (v := v) (m := m) (a := a) (b := b) (i := p + 1) (c := v) (by omega)
  refine h q ?_
  rw [hr, leaf_step hm]
  simp [hq]
end
end Go.Vc
