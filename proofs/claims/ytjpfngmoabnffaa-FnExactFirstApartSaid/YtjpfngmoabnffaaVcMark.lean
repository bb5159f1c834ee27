/-
  The calculus, part 9: a part of an element of an owned row is written; rows taken out and put back; the marks of the laws.
-/
import Derived.Test.YtjpfngmoabnffaaVcRows
set_option linter.unusedVariables false
set_option linter.unusedSimpArgs false
namespace Go.Vc
open Go Go.RowKit

section
variable {P : Program} {w0 w : World} {H H' : List Assn} {α : Type} {T : TypeId} {C : Cod α} {Q : Exit → Act → World → Prop} {σ : Sig} {o : Oper}

theorem flat_set (C : Cod α) (xs : List α) (k j : Nat) (u : Value) (y : α) (hk : k < xs.length) (hj : j < C.sz) (hy : C.enc y = (C.enc xs[k]).set j u) : (xs.flatMap C.enc).set (k * C.sz + j) u = (xs.set k y).flatMap C.enc := by
  induction xs generalizing k with
  | nil => simp at hk
  | cons x xs ih =>
    cases k with
    | zero =>
      simp only [Nat.zero_mul, Nat.zero_add, List.flatMap_cons, List.set_cons_zero]
      rw [List.set_append_left _ _ (by rw [C.len]; exact hj)]
      simp only [List.getElem_cons_zero] at hy
      rw [hy]
    | succ k =>
      simp only [List.flatMap_cons, List.set_cons_succ]
      rw [List.set_append_right _ _ (by rw [C.len, Nat.add_mul]; omega), C.len]
      have : (k + 1) * C.sz + j - C.sz = k * C.sz + j := by rw [Nat.add_mul]; omega
      rw [this, ih k (by simpa using hk) (by simpa using hy)]

/-- A store into part j of element k of an owned row. -/
theorem Ef.storeOwnAt {T e s c : Nat} {x y : Operand} {v : Value} {A : Option Addr} {xs : List α} (i : Nat) (k j : Nat) (u : α) (ho : o.op = .store T x y) (hs : Sz P T 1) (hx : ev σ x = some (.pointer ((A.map (·.add (k * s))).map (·.add j)))) (hy : ev σ y = some v)
    (hp : pull i H = some (Own e C A c xs, H')) (hsz : s = C.sz) (hk : k < xs.length) (hj : j < C.sz) (hv : v.cells = #[v]) (h1v : v.oneCell' = true) (hu : C.enc u = (C.enc xs[k]).set j v) :
    Ef P w0 o σ H Q (fun _ H'' => H'' = repl i H (Own e C A c (xs.set k u))) := by
  intro w hw a ha
  have h1' := ha x (by simp [ho, Op.operands]) _ hx
  have h2' := ha y (by simp [ho, Op.operands]) _ hy
  subst hsz
  have hw2 := hw.perm (pull_perm hp)
  obtain ⟨F, ho', hF⟩ := hw.get i hp
  rcases ho'.2 with ⟨h1, h2⟩ | ⟨g, cap, cur, hvv, hbase, hh, hle, hmax, hcs, htake⟩
  · omega
  · have hA : A = some ⟨g, 0, none⟩ := by injection hvv
    have hcap : c = cap := by injection hvv
    subst hA
    have hkc : k * C.sz + j < xs.length * C.sz := by
      have : (k + 1) * C.sz ≤ xs.length * C.sz := Nat.mul_le_mul_right _ (by omega)
      rw [Nat.add_mul] at this
      omega
    have hn : xs.length * C.sz ≤ cur.size := by rw [hcs]; exact Nat.mul_le_mul_right _ hle
    have hst := run_storeCells_at P g (k * C.sz + j) e [v] 0 cur w hh (by simp; omega) (by simpa using h1v)
    simp only [Nat.add_zero] at hst
    have hrun : (execOp a.eval o).run P w = .ok .skip (w.setRow g (cur.toList.take (k * C.sz + j) ++ [v] ++ cur.toList.drop (k * C.sz + j + [v].length)).toArray) := by
      simp [execOp, ho, h1', h2', Instr.storeAt, Instr.sureAddr, storeVar, run_sz hs, hv, add_mk, hst]
    have hset : cur.toList.take (k * C.sz + j) ++ [v] ++ cur.toList.drop (k * C.sz + j + [v].length) = cur.toList.set (k * C.sz + j) v := by
      rw [List.set_eq_take_append_cons_drop, if_pos (by simp; omega)]
      simp
    rw [hset] at hrun
    unfold Oper.wp
    rw [hrun]
    refine ⟨undef, _, rfl, ?_, rfl⟩
    refine St.perm ?_ (repl_perm hp)
    refine hw2.upd (B := Own e C (some ⟨g, 0, none⟩) c (xs.set k u)) ?_
    rintro F2 ⟨ho2, hF2⟩ hb
    refine ⟨⟨rfl, rfl, rfl, by simp [World.setRow], fun m _ hm => setRow_other w g m _ (fun e1 => hm ((hF2 m).2 (by subst e1; rfl))), Nat.le_refl _⟩, F2, ⟨⟨?_, .inr ⟨g, cap, _, ?_, Nat.zero_le _, setRow_heap w g cur _ e _ hh, ?_, hmax, ?_, ?_⟩⟩, ?_⟩, ?_⟩
    · rw [length_flatMap_enc]
    · rw [hcap]
    · simpa using hle
    · simpa using hcs
    · rw [List.length_set, List.take_set, htake]
      exact flat_set C xs k j v u hk hj hu
    · intro m
      rw [hF2 m]
      simp
    · intro m hm
      exact ⟨.inl hm, by have := (hb m hm).2; simpa [World.setRow] using this⟩

theorem Pu.indexArr' {T : TypeId} {x y : Operand} {p : Option Addr} {e sz n : Nat} {K : IntKind} {i : Int} (k : Nat) (ho : o.op = .indexAddr T x y) (hT : P.underlying T = some (.array n e)) (hs : Sz P e sz) (hx : ev σ x = some (.pointer p)) (hy : ev σ y = some (.int K i)) (hi : i = (k : Int)) (hk : k < n) (h1 : sz = 1) (hp : ∀ w, St w0 H w → p.isSome = true) :
    Pu P w0 o σ H (.pointer (p.map (·.add k))) := by
  intro w hw a ha
  have h1' := ha x (by simp [ho, Op.operands]) _ hx
  have h2 := ha y (by simp [ho, Op.operands]) _ hy
  obtain ⟨q, rfl⟩ := Option.isSome_iff_exists.1 (hp w hw)
  subst hi
  subst h1
  simp [execOp, ho, h1', h2, Instr.indexAt, Instr.sureAddr, asIntOf, run_underlying hT, run_sz hs, hk]

/-! ### Marks -/
def marks (m : Int) (n : Nat) : List Int := (List.range n).map fun i => m + (i : Nat)
theorem marks_len (m : Int) (n : Nat) : (marks m n).length = n := by simp [marks]
theorem marks_get (m : Int) (n : Nat) {k : Nat} (hk : k < (marks m n).length) : (marks m n)[k] = m + k := by simp [marks]
def markAt (xs : List Int) (m : Int) (k : Nat) : List Int := marks m k ++ xs.drop k
theorem markAt_zero (xs : List Int) (m : Int) : markAt xs m 0 = xs := by simp [markAt, marks]
theorem markAt_len {xs : List Int} {m : Int} {k : Nat} (h : k ≤ xs.length) : (markAt xs m k).length = xs.length := by simp [markAt, marks_len]; omega
theorem markAt_set {xs : List Int} {m : Int} {k : Nat} (h : k < xs.length) : (markAt xs m k).set k (m + k) = markAt xs m (k + 1) := by
  unfold markAt
  rw [List.set_append_right _ _ (by rw [marks_len]; exact Nat.le_refl _), marks_len, Nat.sub_self, drop_cons h, List.set_cons_zero]
  unfold marks
  rw [List.range_succ, List.map_append, List.append_assoc]
  rfl
theorem markAt_all {xs : List Int} {m : Int} {k : Nat} (h : k = xs.length) : markAt xs m k = marks m xs.length := by
  subst h
  simp [markAt]
/-- The marks of a list of lists. -/
def sumLen : List (Sl × List Int) → Nat
  | [] => 0
  | p :: r => p.2.length + sumLen r
def markL : Int → List (Sl × List Int) → List (Sl × List Int)
  | _, [] => []
  | m, p :: r => (p.1, marks m p.2.length) :: markL (m + p.2.length) r
theorem markL_tops : ∀ (ps : List (Sl × List Int)) (m : Int), tops (markL m ps) = tops ps := by
  intro ps
  induction ps with
  | nil => intro m; rfl
  | cons p ps ih => intro m; simp only [tops, markL, List.map_cons] at *; rw [ih]
theorem markL_len (m : Int) (ps : List (Sl × List Int)) : (markL m ps).length = ps.length := by rw [← tops_len, markL_tops, tops_len]
theorem sumLen_append : ∀ (ps qs : List (Sl × List Int)), sumLen (ps ++ qs) = sumLen ps + sumLen qs := by
  intro ps
  induction ps with
  | nil => intro qs; simp [sumLen]
  | cons p ps ih => intro qs; simp only [List.cons_append, sumLen, ih]; omega
theorem markL_append : ∀ (ps qs : List (Sl × List Int)) (m : Int), markL m (ps ++ qs) = markL m ps ++ markL (m + sumLen ps) qs := by
  intro ps
  induction ps with
  | nil => intro qs m; simp [markL, sumLen]
  | cons p ps ih =>
    intro qs m
    simp only [List.cons_append, markL, sumLen, ih]
    congr 3
    push_cast
    omega
theorem sumLen_take {ps : List (Sl × List Int)} {k : Nat} (hk : k < ps.length) : sumLen (ps.take (k + 1)) = sumLen (ps.take k) + (ps[k]).2.length := by rw [take_snoc hk, sumLen_append]; simp [sumLen]
theorem markL_take {ps : List (Sl × List Int)} {k : Nat} (hk : k < ps.length) (m : Int) : markL m (ps.take (k + 1)) = markL m (ps.take k) ++ [((ps[k]).1, marks (m + sumLen (ps.take k)) (ps[k]).2.length)] := by rw [take_snoc hk, markL_append]; rfl
theorem sumLen_le {ps : List (Sl × List Int)} {k : Nat} : sumLen (ps.take k) ≤ sumLen ps := by
  have := sumLen_append (ps.take k) (ps.drop k)
  rw [List.take_append_drop] at this
  omega
theorem markL_get {ps : List (Sl × List Int)} {k : Nat} (m : Int) (hk : k < ps.length) (hk' : k < (markL m ps).length) : (markL m ps)[k] = ((ps[k]).1, marks (m + sumLen (ps.take k)) (ps[k]).2.length) := by
  have h1 := markL_append (ps.take (k + 1)) (ps.drop (k + 1)) m
  rw [List.take_append_drop, markL_take hk] at h1
  have h2 : (markL m (ps.take k)).length = k := by rw [markL_len, List.length_take]; omega
  apply Option.some.inj
  rw [← List.getElem?_eq_getElem hk', h1, List.append_assoc, List.getElem?_append_right (by omega), h2]
  simp
theorem sumLen_bound {ps : List (Sl × List Int)} {M : Nat} (h : ∀ q ∈ conts ps, q.length ≤ M) : sumLen ps ≤ ps.length * M := by
  induction ps with
  | nil => simp [sumLen]
  | cons p ps ih =>
    have h1 := h p.2 (by simp [conts])
    have h2 := ih (fun q hq => h q (by simp only [conts, List.map_cons, List.mem_cons] at *; exact .inr hq))
    simp only [sumLen, List.length_cons, Nat.add_mul, Nat.one_mul]
    omega
theorem Ld.llm {T2 c i j : Nat} {A : Option Addr} {ps : List (Sl × List Int)} {m : Int} {H2 : List Assn} (hp : pull i H = some (Own T2 SlC A c (tops ps), H')) (hq : pull j H = some (RowsA T I64 (markL m ps), H2)) : ∀ w, St w0 H w → RdL I64 w A (markL m ps) := by
  rw [← markL_tops ps m] at hp
  exact Ld.ll i j hp hq
/-- A row is taken out. -/
theorem row_out {ps qs : List (Sl × List α)} {k : Nat} (hk : k < ps.length) (hw : St w0 (RowsA T C (qs ++ ps.drop k) :: H) w) : St w0 (Own T C (ps[k]).1.A (ps[k]).1.c (ps[k]).2 :: RowsA T C (qs ++ ps.drop (k + 1)) :: H) w := by
  rw [drop_cons hk] at hw
  exact (RowsA.uncons (s := (ps[k]).1) (xs := (ps[k]).2) (RowsA.perm List.perm_middle hw)).2
/-- .. and another put in. -/
theorem row_in {ps qs : List (Sl × List α)} {s : Sl} {xs : List α} (hn : s.n = xs.length) (hw : St w0 (Own T C s.A s.c xs :: RowsA T C (qs ++ ps) :: H) w) : St w0 (RowsA T C ((qs ++ [(s, xs)]) ++ ps) :: H) w := by
  have h1 := RowsA.cons hw
  have h2 : (⟨s.A, xs.length, s.c⟩ : Sl) = s := by rw [← hn]
  rw [h2] at h1
  rw [List.append_assoc]
  exact RowsA.perm List.perm_middle.symm h1
end
end Go.Vc
