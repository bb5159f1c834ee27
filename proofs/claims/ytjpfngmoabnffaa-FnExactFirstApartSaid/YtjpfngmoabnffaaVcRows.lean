/-
  The calculus, part 8: rows of rows: a row of slices, and what they lead to.
-/
import Derived.Test.YtjpfngmoabnffaaVcOwn
import Derived.Test.YtjpfngmoabnffaaPureRow
import Derived.Lib.SliceRun
set_option linter.unusedVariables false
set_option linter.unusedSimpArgs false
namespace Go.Vc
open Go Go.RowKit

section
variable {P : Program} {w0 w : World} {H H' : List Assn} {α : Type} {T : TypeId} {C : Cod α}

/-- The slices' values; what they hold. -/
def tops (ps : List (Sl × List α)) : List Sl := ps.map (·.1)
def conts (ps : List (Sl × List α)) : List (List α) := ps.map (·.2)
theorem tops_len (ps : List (Sl × List α)) : (tops ps).length = ps.length := List.length_map ..
theorem conts_len (ps : List (Sl × List α)) : (conts ps).length = ps.length := List.length_map ..
theorem tops_append (ps qs : List (Sl × List α)) : tops (ps ++ qs) = tops ps ++ tops qs := List.map_append ..
theorem conts_append (ps qs : List (Sl × List α)) : conts (ps ++ qs) = conts ps ++ conts qs := List.map_append ..
theorem tops_get (ps : List (Sl × List α)) {k : Nat} (hk : k < (tops ps).length) : (tops ps)[k] = (ps[k]'(by rw [← tops_len]; exact hk)).1 := List.getElem_map ..
theorem conts_get (ps : List (Sl × List α)) {k : Nat} (hk : k < (conts ps).length) : (conts ps)[k] = (ps[k]'(by rw [← conts_len]; exact hk)).2 := List.getElem_map ..

def rowA (T : TypeId) (C : Cod α) (p : Sl × List α) : Assn := .sep (.pur (p.1.n = p.2.length)) (Own T C p.1.A p.1.c p.2)
/-- The inner rows: each owned, apart. -/
def RowsA (T : TypeId) (C : Cod α) (ps : List (Sl × List α)) : Assn := ⟨fun w F => SatF (ps.map (rowA T C)) w F, fun h hk => SatF.loc h hk⟩

theorem SatF_append {H1 H2 : List Assn} {w : World} {F : Nat → Prop} : SatF (H1 ++ H2) w F ↔ ∃ F1 F2, SatF H1 w F1 ∧ SatF H2 w F2 ∧ (∀ k, F1 k → ¬ F2 k) ∧ ∀ k, F k ↔ F1 k ∨ F2 k := by
  constructor
  · intro h
    induction H1 generalizing F with
    | nil => exact ⟨fun _ => False, F, fun _ h => h, h, fun _ h => h.elim, fun k => by simp⟩
    | cons A H1 ih =>
      obtain ⟨G1, G2, g1, g2, gd, gF⟩ := h
      obtain ⟨K1, K2, k1, k2, kd, kF⟩ := ih g2
      refine ⟨fun k => G1 k ∨ K1 k, K2, ⟨G1, K1, g1, k1, fun k h1 h2 => gd k h1 ((kF k).2 (.inl h2)), fun _ => Iff.rfl⟩, k2, ?_, ?_⟩
      · rintro k (h1 | h1) h2
        · exact gd k h1 ((kF k).2 (.inr h2))
        · exact kd k h1 h2
      · intro k
        rw [gF k, kF k, or_assoc]
  · rintro ⟨F1, F2, h1, h2, hd, hF⟩
    exact SatF_congr (SatF.append h1 h2 hd) (fun k => (hF k).symm)
theorem St.rows {ps : List (Sl × List α)} : St w0 (RowsA T C ps :: H) w ↔ St w0 (ps.map (rowA T C) ++ H) w := by
  constructor
  · rintro ⟨hb, F, ⟨F1, F2, h1, h2, hd, hF⟩, hk⟩
    exact ⟨hb, F, SatF_append.2 ⟨F1, F2, h1, h2, hd, hF⟩, hk⟩
  · rintro ⟨hb, F, hs, hk⟩
    obtain ⟨F1, F2, h1, h2, hd, hF⟩ := SatF_append.1 hs
    exact ⟨hb, F, ⟨F1, F2, h1, h2, hd, hF⟩, hk⟩
theorem RowsA.nil (hw : St w0 H w) : St w0 (RowsA T C ([] : List (Sl × List α)) :: H) w := St.rows.2 hw
theorem RowsA.permP {ps qs : List (Sl × List α)} (hp : ps.Perm qs) : ∀ w F, (RowsA T C ps).P w F → (RowsA T C qs).P w F := fun _ _ h => SatF.perm (hp.map _) h
theorem RowsA.perm {ps qs : List (Sl × List α)} (hp : ps.Perm qs) (hw : St w0 (RowsA T C ps :: H) w) : St w0 (RowsA T C qs :: H) w := hw.mono (RowsA.permP hp)
theorem RowsA.cons {A : Option Addr} {c : Nat} {xs : List α} {ps : List (Sl × List α)} (hw : St w0 (Own T C A c xs :: RowsA T C ps :: H) w) : St w0 (RowsA T C ((⟨A, xs.length, c⟩, xs) :: ps) :: H) w := by
  refine St.rows.2 ?_
  have h1 := St.rows.1 (hw.perm (List.Perm.swap _ _ _))
  have h2 : St w0 (Own T C A c xs :: (ps.map (rowA T C) ++ H)) w := h1.perm List.perm_middle
  exact (St.addPur rfl h2).unsep
theorem RowsA.uncons {s : Sl} {xs : List α} {ps : List (Sl × List α)} (hw : St w0 (RowsA T C ((s, xs) :: ps) :: H) w) : s.n = xs.length ∧ St w0 (Own T C s.A s.c xs :: RowsA T C ps :: H) w := by
  have h1 : St w0 (rowA T C (s, xs) :: (ps.map (rowA T C) ++ H)) w := St.rows.1 hw
  obtain ⟨h2, h3⟩ := (St.sep h1).pur
  refine ⟨h2, ?_⟩
  refine St.perm ?_ (List.Perm.swap _ _ _)
  refine St.rows.2 ?_
  exact h3.perm List.perm_middle.symm
theorem RowsA.app {ps qs : List (Sl × List α)} (hw : St w0 (RowsA T C ps :: RowsA T C qs :: H) w) : St w0 (RowsA T C (ps ++ qs) :: H) w := by
  refine St.rows.2 ?_
  rw [List.map_append, List.append_assoc]
  have h1 := St.rows.1 hw
  have h2 : St w0 (RowsA T C qs :: (ps.map (rowA T C) ++ H)) w := h1.perm List.perm_middle
  have h3 := St.rows.1 h2
  refine h3.perm ?_
  rw [← List.append_assoc, ← List.append_assoc]
  exact List.perm_append_comm.append_right H
theorem RowsA.unapp {ps qs : List (Sl × List α)} (hw : St w0 (RowsA T C (ps ++ qs) :: H) w) : St w0 (RowsA T C ps :: RowsA T C qs :: H) w := by
  have h1 := St.rows.1 hw
  rw [List.map_append, List.append_assoc] at h1
  refine St.rows.2 ?_
  have h2 : St w0 (qs.map (rowA T C) ++ (ps.map (rowA T C) ++ H)) w := h1.perm (by
    rw [← List.append_assoc, ← List.append_assoc]
    exact List.perm_append_comm.append_right H)
  exact (St.rows.2 h2).perm List.perm_middle.symm
theorem Own.le {A : Option Addr} {c i : Nat} {xs : List α} (hw : St w0 H w) (hp : pull i H = Option.some (Own T C A c xs, H')) : xs.length ≤ 9223372036854775807 := by
  obtain ⟨F, ho, hF⟩ := hw.get i hp
  rcases ho.2 with ⟨h1, h2⟩ | ⟨g, cap, cur, hvv, hbase, hh, hle, hmax, hcs, htake⟩
  · omega
  · simp only [maxLen] at hmax
    omega
theorem RowsA.rd {i : Nat} {ps : List (Sl × List α)} (hw : St w0 H w) (hp : pull i H = some (RowsA T C ps, H')) {p : Sl × List α} (hm : p ∈ ps) : (p.1.n = p.2.length ∧ p.2.length ≤ 9223372036854775807) ∧ Rd C w p.1.A p.2 := by
  obtain ⟨l, r, rfl⟩ := List.append_of_mem hm
  have h1 := RowsA.perm (qs := p :: (l ++ r)) List.perm_middle (hw.perm (pull_perm hp))
  obtain ⟨h2, h3⟩ := RowsA.uncons (s := p.1) (xs := p.2) h1
  exact ⟨⟨h2, Own.le h3 (i := 0) rfl⟩, Own.rd h3 (i := 0) rfl⟩
/-- The lengths are what they are told to be. -/
def LenOk (ps : List (Sl × List α)) : Prop := ∀ p ∈ ps, p.1.n = p.2.length ∧ p.2.length ≤ 9223372036854775807
theorem LenOk.le {ps : List (Sl × List α)} (h : LenOk ps) {k : Nat} (hk : k < ps.length) : (ps[k]).2.length ≤ 9223372036854775807 := (h _ (List.getElem_mem hk)).2
theorem RowsA.len {ps : List (Sl × List α)} (i : Nat) (hp : pull i H = some (RowsA T C ps, H')) : ∀ w, St w0 H w → LenOk ps := fun _ hw _ hm => (RowsA.rd hw hp hm).1
theorem LenOk.sl {ps : List (Sl × List α)} (h : LenOk ps) {k : Nat} (hk : k < ps.length) : (ps[k]).1.v = .slice (ps[k]).1.A (ps[k]).2.length (ps[k]).1.c := by
  unfold Sl.v
  rw [(h _ (List.getElem_mem hk)).1]

/-- What a load of slice k finds. -/
theorem Ld.row {A : Option Addr} {ps : List (Sl × List α)} (hr : ∀ w, St w0 H w → Rd SlC w A (tops ps)) (hn : LenOk ps) {k s : Nat} (hk : k < ps.length) (hs : s = 1) :
    ∀ w, St w0 H w → ∃ q, A.map (·.add (k * s)) = some q ∧ w.cell? q = some (.slice (ps[k]).1.A (ps[k]).2.length (ps[k]).1.c) := by
  have hk' : k < (tops ps).length := by rw [tops_len]; exact hk
  refine Ld.rd (C := SlC) hr hk' hs ?_
  simp only [SlC]
  rw [tops_get ps hk', hn.sl hk]
/-- .. and what lies there. -/
theorem Ld.rows {ps : List (Sl × List α)} (i : Nat) (hp : pull i H = some (RowsA T C ps, H')) {k : Nat} (hk : k < ps.length) : ∀ w, St w0 H w → Rd C w (ps[k]).1.A (ps[k]).2 :=
  fun _ hw => (RowsA.rd hw hp (List.getElem_mem hk)).2

/-- A list of lists that is read. -/
structure RdL (C : Cod α) (w : World) (A : Option Addr) (ps : List (Sl × List α)) : Prop where
  top : Rd SlC w A (tops ps)
  len : LenOk ps
  row : ∀ k (hk : k < ps.length), Rd C w (ps[k]).1.A (ps[k]).2
theorem RdL.below {A : Option Addr} {ps : List (Sl × List α)} {w' : World} (h : RdL C w A ps) (hb : Bel w.heap.size w w') : RdL C w' A ps := ⟨h.top.below hb, h.len, fun k hk => (h.row k hk).below hb⟩
theorem RdL.st {A : Option Addr} {ps : List (Sl × List α)} (h : RdL C w0 A ps) (hw : St w0 H w) : RdL C w A ps := h.below hw.below
theorem Ld.ll {T2 c : Nat} {A : Option Addr} {ps : List (Sl × List α)} {H2 : List Assn} (i j : Nat) (hp : pull i H = some (Own T2 SlC A c (tops ps), H')) (hq : pull j H = some (RowsA T C ps, H2)) : ∀ w, St w0 H w → RdL C w A ps :=
  fun w hw => ⟨Own.rd hw hp, RowsA.len j hq w hw, fun k hk => Ld.rows j hq hk w hw⟩
theorem RdL.nil (C : Cod α) (w : World) (A : Option Addr) : RdL C w A [] := ⟨Rd.nil _ _ _, fun _ h => by simp at h, fun k hk => by simp at hk⟩

/-- A list of lists, owned whole, as a value. -/
def LLv (T2 T : TypeId) (C : Cod α) (v : Value) (p : (Option Addr × Nat) × List (Sl × List α)) (xss : List (List α)) : Assn :=
  .sep (.pur (v = .slice p.1.1 (tops p.2).length p.1.2 ∧ conts p.2 = xss)) (.sep (Own T2 SlC p.1.1 p.1.2 (tops p.2)) (RowsA T C p.2))

/-- Nothing is owned at nil. -/
theorem Own.nilP (w : World) : (Own T C none 0 ([] : List α)).P w (fun _ => False) := by
  refine ⟨⟨by simp, .inl ⟨?_, ?_⟩⟩, fun k => ?_⟩
  all_goals simp [Value.ownBlock]
theorem St.addNil (hw : St w0 H w) : St w0 (Own T C none 0 ([] : List α) :: H) w :=
  hw.add (Bel.refl _ _) (Own.nilP w) (fun _ h => h.elim)

theorem tops_put {ps : List (Sl × List α)} {s : Sl} {xs : List α} (y : Nat) : tops (ps.take y ++ (s, xs) :: ps.drop y) = (tops ps).take y ++ s :: (tops ps).drop y := by simp [tops, List.map_take, List.map_drop]
theorem conts_put {ps : List (Sl × List α)} {s : Sl} {xs : List α} (y : Nat) : conts (ps.take y ++ (s, xs) :: ps.drop y) = (conts ps).take y ++ xs :: (conts ps).drop y := by simp [conts, List.map_take, List.map_drop]
theorem put_heap {T2 c d y : Nat} {A B : Option Addr} {ps : List (Sl × List α)} {xs : List α} {z : Sl} (hy : y ≤ ps.length) (hw : St w0 (Own T2 SlC A c ((shiftAt (tops ps) z y).set y ⟨B, xs.length, d⟩) :: RowsA T C ps :: Own T C B d xs :: H) w) :
    St w0 (Own T2 SlC A c (tops (ps.take y ++ (⟨B, xs.length, d⟩, xs) :: ps.drop y)) :: RowsA T C (ps.take y ++ (⟨B, xs.length, d⟩, xs) :: ps.drop y) :: H) w := by
  rw [shiftAt_done (by rw [tops_len]; exact hy), ← tops_put (xs := xs)] at hw
  have h1 := hw.perm (H' := Own T C B d xs :: RowsA T C ps :: Own T2 SlC A c (tops (ps.take y ++ (⟨B, xs.length, d⟩, xs) :: ps.drop y)) :: H) (by
    refine (List.Perm.swap _ _ _).trans ?_
    refine ((List.Perm.swap _ _ _).cons _).trans ?_
    exact List.Perm.swap _ _ _)
  have h2 := RowsA.perm (qs := ps.take y ++ (⟨B, xs.length, d⟩, xs) :: ps.drop y) (by
    refine List.Perm.trans ?_ List.perm_middle.symm
    rw [List.take_append_drop]) (RowsA.cons h1)
  exact h2.perm (List.Perm.swap _ _ _)
theorem snoc_heap {D : Cod Sl} {T2 c d : Nat} {A B : Option Addr} {ps : List (Sl × List α)} {xs : List α} (hw : St w0 (Own T2 D A c (tops ps ++ [⟨B, xs.length, d⟩]) :: RowsA T C ps :: Own T C B d xs :: H) w) :
    St w0 (Own T2 D A c (tops (ps ++ [(⟨B, xs.length, d⟩, xs)])) :: RowsA T C (ps ++ [(⟨B, xs.length, d⟩, xs)]) :: H) w := by
  rw [tops_append]
  have h1 := hw.perm (H' := Own T C B d xs :: RowsA T C ps :: Own T2 D A c (tops ps ++ [⟨B, xs.length, d⟩]) :: H) (by
    refine (List.Perm.swap _ _ _).trans ?_
    refine ((List.Perm.swap _ _ _).cons _).trans ?_
    exact List.Perm.swap _ _ _)
  have h2 := RowsA.perm (qs := ps ++ [(⟨B, xs.length, d⟩, xs)]) (List.perm_append_comm (l₁ := [_])) (RowsA.cons h1)
  exact h2.perm (List.Perm.swap _ _ _)
theorem one_heap {D : Cod Sl} {T2 c d : Nat} {A B : Option Addr} {xs : List α} (hw : St w0 (Own T2 D A c [⟨B, xs.length, d⟩] :: Own T C B d xs :: H) w) :
    St w0 (Own T2 D A c (tops [((⟨B, xs.length, d⟩ : Sl), xs)]) :: RowsA T C [((⟨B, xs.length, d⟩ : Sl), xs)] :: H) w :=
  snoc_heap (ps := []) ((RowsA.nil (T := T) (C := C) hw).perm (List.Perm.swap _ _ _))
theorem app_heap {D : Cod Sl} {T2 c : Nat} {A : Option Addr} {ps qs : List (Sl × List α)} (hw : St w0 (Own T2 D A c (tops ps ++ tops qs) :: RowsA T C ps :: RowsA T C qs :: H) w) :
    St w0 (Own T2 D A c (tops (ps ++ qs)) :: RowsA T C (ps ++ qs) :: H) w := by
  rw [tops_append]
  have h1 := hw.perm (H' := RowsA T C ps :: RowsA T C qs :: Own T2 D A c (tops ps ++ tops qs) :: H) ((List.Perm.swap _ _ _).trans ((List.Perm.swap _ _ _).cons _))
  exact (RowsA.app h1).perm (List.Perm.swap _ _ _)
theorem unrow {ps : List (Sl × List α)} {k : Nat} (hk : k < ps.length) (hw : St w0 (RowsA T C (ps.drop k) :: H) w) : St w0 (Own T C (ps[k]).1.A (ps[k]).1.c (ps[k]).2 :: RowsA T C (ps.drop (k + 1)) :: H) w := by
  rw [drop_cons hk] at hw
  exact (RowsA.uncons (s := (ps[k]).1) (xs := (ps[k]).2) hw).2
theorem Pu.eqlNil {o : Oper} {σ : Sig} {T T2 e : TypeId} {x y : Operand} {A : Option Addr} {n c m d : Nat} (hT : P.underlying T = some (.slice e)) (ho : o.op = .binOp .eql T x y T2) (hx : ev σ x = some (.slice A n c)) (hy : ev σ y = some (.slice none m d)) : Pu P w0 o σ H (.bool A.isNone) := by
  intro w hw a ha
  have h1 := ha x (by simp [ho, Op.operands]) _ hx
  have h2 := ha y (by simp [ho, Op.operands]) _ hy
  have he : (eqGuard .eql T x y (.slice A n c) (.slice none m d)).run P w = .ok () w := by
    unfold eqGuard
    simp
  simp [execOp, ho, h1, h2, he, Go.Lib.run_eql_slice_nil w T e A n c m d hT]
/-- A call of a function's value, whose result is a plain one. -/
theorem Ef.callPV {Q : Exit → Act → World → Prop} {o : Oper} {σ : Sig} {f : Operand} {g : FuncId} {l : List Operand} {ts : Array TypeId} {vs : List Value} {caps : Array Value} {r : Value} (hok : CallOk P g) (ho : o.op = .call { callee := .value f, args := l.toArray, argTypes := ts }) (hf : ev σ f = some (.func (.func g) #[] caps))
    (hargs : evs σ l = some vs) (hfn : ∀ w, St w0 H w → Does P g (vs ++ caps.toList) w [] (fun v => [.pur (v = r)])) : Ef P w0 o σ H Q (fun v H' => v = r ∧ H' = H) := by
  intro w hw a ha
  have := Ef.callV (Q := Q) ho hf hok hargs (Does.frame hfn) w hw a ha
  refine Oper.wp_mono ?_ this
  rintro a' w' ⟨v, H', rfl, hs, rfl⟩
  have hs' : St w0 (.pur (v = r) :: H) w' := hs
  exact ⟨v, H, rfl, hs'.pur.2, hs'.pur.1, rfl⟩
/-- A block of cells that is read. -/
def RdB (w : World) (b : Nat) (cs : List Value) : Prop := ∀ m u, cs[m]? = some u → w.cell? ⟨b, m, none⟩ = some u
theorem RdB.below {w' : World} {b : Nat} {cs : List Value} (h : RdB w b cs) (hb : Bel w.heap.size w w') : RdB w' b cs := by
  intro m u hm
  have h1 := h m u hm
  rw [hb.low.cell (World.block_lt_of_cell? w _ h1)]
  exact h1
theorem Blk.rdb {b t i : Nat} {cs : List Value} (hw : St w0 H w) (hp : pull i H = Option.some (Blk b cs t, H')) : RdB w b cs := fun m u hm => Blk.cell hw hp hm
theorem Ld.rdb {b j : Nat} {cs : List Value} {u : Value} (h : RdB w0 b cs) (hj : cs[j]? = some u) : ∀ w, St w0 H w → ∃ q, some (⟨b, j, none⟩ : Addr) = some q ∧ w.cell? q = some u := fun w hw => ⟨_, rfl, h.below hw.below j u hj⟩
theorem Ld.rdbs {b : Nat} {cs : List Value} (h : RdB w0 b cs) : ∀ w, St w0 H w → ∃ q, some (⟨b, 0, none⟩ : Addr) = some q ∧ ∀ m u, cs[m]? = some u → w.cell? (q.add m) = some u := by
  intro w hw
  refine ⟨_, rfl, fun m u hm => ?_⟩
  rw [add_mk, Nat.zero_add]
  exact h.below hw.below m u hm
theorem Rd.none {C : Cod α} {A : Option Addr} {xs : List α} (h : Rd C w A xs) (hA : A = none) : xs = [] := by
  cases xs with
  | nil => rfl
  | cons x xs =>
    have := h.some (by simp)
    rw [hA] at this
    cases this
theorem Pu.indexAddrS {o : Oper} {σ : Sig} {T : TypeId} {x y : Operand} {A : Option Addr} {n c : Nat} {e sz : Nat} {K : IntKind} {i : Int} (k : Nat) (ho : o.op = .indexAddr T x y) (hT : P.underlying T = some (.slice e)) (hs : Sz P e sz) (hx : ev σ x = some (.slice A n c)) (hy : ev σ y = some (.int K i)) (hi : i = (k : Int)) (hk : k < n) (hA : ∀ w, St w0 H w → A.isSome = true) :
    Pu P w0 o σ H (.pointer (A.map (·.add (k * sz)))) := fun w hw a ha => Pu.indexAddr k ho hT hs hx hy hi hk (hA w hw) w hw a ha
theorem Does.pre {f : FuncId} {args : List Value} {R : Value → List Assn} (hs : ∀ w, St w0 H w → St w0 H' w) (h : Does P f args w0 H' R) : Does P f args w0 H R := fun w hw => h w (hs w hw)

variable {N : Nat} {Q : Exit → Act → World → Prop} {σ : Sig} {ops : Array Oper} {rest : List Oper}
theorem V.map {c : Code} (hs : ∀ w, St w0 H w → St w0 H' w) (h : V P N w0 c Q σ H') : V P N w0 c Q σ H := fun w hw a ha => h w (hs w hw) a ha
theorem O.map (hs : ∀ w, St w0 H w → St w0 H' w) (h : O P N w0 ops Q rest σ H') : O P N w0 ops Q rest σ H := fun w hw a ha => h w (hs w hw) a ha
theorem X.map {e : Exit} (hs : ∀ w, St w0 H w → St w0 H' w) (h : X N w0 Q e σ H') : X N w0 Q e σ H := fun w hw a ha => h w (hs w hw) a ha
end
end Go.Vc
