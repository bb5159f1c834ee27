/-
  The calculus and plain words, part 5.
-/
import Derived.Test.YtoeldiaidjnibaaGreatKa4
import Derived.Shelf.SlSortCmp.NoneTotal
import Derived.Shelf.SortM.Plain
import Derived.Shelf.SortM.SortNone
import Derived.Laws.OwnMore
set_option linter.unusedVariables false
set_option linter.unusedSimpArgs false
/-
  Plain words: the number of a system; what is common.
-/
namespace Go.Vc
def few9 (v : Int) : Prop := v = 3 ∨ v = 7 ∨ v = 9
instance (v : Int) : Decidable (few9 v) := inferInstanceAs (Decidable (_ ∨ _))
/-- Full, with few points. -/
def Few (v : Int) (bs : List B3) : Prop := few9 v ∧ 6 * (bs.length : Int) = v * (v - 1)
instance (v : Int) (bs : List B3) : Decidable (Few v bs) := inferInstanceAs (Decidable (_ ∧ _))
/-- All systems of few points. -/
noncomputable def allN (v : Int) : List (List B3) := compM 40 v.toNat 0
/-- The number of a system, and the code. -/
def NOS (v : Int) (bs : List B3) (r code : Int) : Prop := (¬ STS v bs → r = 0 ∧ code = 1) ∧ (STS v bs → ¬ Few v bs → r = 0 ∧ code = 5) ∧ (STS v bs → Few v bs → r = idxP (fun q => bs = q) (allN v) ∧ code = 0)
theorem NOS.unique {v : Int} {bs : List B3} {r c s d : Int} (h : NOS v bs r c) (g : NOS v bs s d) : r = s ∧ c = d := by
  by_cases hS : STS v bs
  · by_cases hf : Few v bs
    · have := h.2.2 hS hf; have := g.2.2 hS hf; omega
    · have := h.2.1 hS hf; have := g.2.1 hS hf; omega
  · have := h.1 hS; have := g.1 hS; omega
end Go.Vc
/-
  The calculus, part 17: the least and the greatest of integers.
-/
namespace Go.Vc
open Go Go.RowKit
section
variable {P : Program} {w0 w : World} {Q : Exit → Act → World → Prop} {σ : Sig} {H : List Assn} {o : Oper} {ts : Array TypeId}
theorem run_min2 (a b : Int) : (Builtin.min2 (.int .i64 a) (.int .i64 b)).run P w = .ok (.int .i64 (if b < a then b else a)) w := by
  unfold Builtin.min2
  by_cases h : b < a <;> simp [h]
theorem run_max2 (a b : Int) : (Builtin.max2 (.int .i64 a) (.int .i64 b)).run P w = .ok (.int .i64 (if a < b then b else a)) w := by
  unfold Builtin.max2
  by_cases h : a < b <;> simp [h]
theorem Pu.min2 {x y : Operand} {a b r : Int} (hr : r = if b < a then b else a) (ho : o.op = .call { callee := .builtin .min, args := #[x, y], argTypes := ts }) (hx : ev σ x = some (.int .i64 a)) (hy : ev σ y = some (.int .i64 b)) : Pu P w0 o σ H (.int .i64 r) := by
  subst hr
  intro w hw c ha
  have h1 := ha x (by simp [ho, Op.operands, Call.operands]) _ hx
  have h2 := ha y (by simp [ho, Op.operands, Call.operands]) _ hy
  simp [execOp, ho, h1, h2, resolve, invoke, builtin, Builtin.min_, run_min2]
theorem Pu.max2 {x y : Operand} {a b r : Int} (hr : r = if a < b then b else a) (ho : o.op = .call { callee := .builtin .max, args := #[x, y], argTypes := ts }) (hx : ev σ x = some (.int .i64 a)) (hy : ev σ y = some (.int .i64 b)) : Pu P w0 o σ H (.int .i64 r) := by
  subst hr
  intro w hw c ha
  have h1 := ha x (by simp [ho, Op.operands, Call.operands]) _ hx
  have h2 := ha y (by simp [ho, Op.operands, Call.operands]) _ hy
  simp [execOp, ho, h1, h2, resolve, invoke, builtin, Builtin.max_, run_max2]
theorem Pu.min3 {x y z : Operand} {a b d r : Int} (hr : r = if d < (if b < a then b else a) then d else (if b < a then b else a)) (ho : o.op = .call { callee := .builtin .min, args := #[x, y, z], argTypes := ts }) (hx : ev σ x = some (.int .i64 a)) (hy : ev σ y = some (.int .i64 b)) (hz : ev σ z = some (.int .i64 d)) : Pu P w0 o σ H (.int .i64 r) := by
  subst hr
  intro w hw c ha
  have h1 := ha x (by simp [ho, Op.operands, Call.operands]) _ hx
  have h2 := ha y (by simp [ho, Op.operands, Call.operands]) _ hy
  have h3 := ha z (by simp [ho, Op.operands, Call.operands]) _ hz
  simp [execOp, ho, h1, h2, h3, resolve, invoke, builtin, Builtin.min_, run_min2]
theorem Pu.max3 {x y z : Operand} {a b d r : Int} (hr : r = if (if a < b then b else a) < d then d else (if a < b then b else a)) (ho : o.op = .call { callee := .builtin .max, args := #[x, y, z], argTypes := ts }) (hx : ev σ x = some (.int .i64 a)) (hy : ev σ y = some (.int .i64 b)) (hz : ev σ z = some (.int .i64 d)) : Pu P w0 o σ H (.int .i64 r) := by
  subst hr
  intro w hw c ha
  have h1 := ha x (by simp [ho, Op.operands, Call.operands]) _ hx
  have h2 := ha y (by simp [ho, Op.operands, Call.operands]) _ hy
  have h3 := ha z (by simp [ho, Op.operands, Call.operands]) _ hz
  simp [execOp, ho, h1, h2, h3, resolve, invoke, builtin, Builtin.max_, run_max2]
end
end Go.Vc
/-
  Plain words: blocks in order, by insertion.
-/
namespace Go.Vc
def leB (a b : B3) : Prop := ¬ B3.lt b a
theorem leB_trans {a b c : B3} (h1 : leB a b) (h2 : leB b c) : leB a c := by unfold leB B3.lt at *; omega
theorem leB_of {a b : B3} (h : B3.lt a b) : leB a b := by unfold leB B3.lt at *; omega
theorem leB_anti {a b : B3} (h1 : leB a b) (h2 : leB b a) : a = b := by
  obtain ⟨a1, a2, a3⟩ := a
  obtain ⟨b1, b2, b3⟩ := b
  unfold leB B3.lt at *
  simp only at *
  have e1 : a1 = b1 := by omega
  have e2 : a2 = b2 := by omega
  have e3 : a3 = b3 := by omega
  rw [e1, e2, e3]
def SrtB (l : List B3) : Prop := l.Pairwise leB
theorem ins_perm {l : List B3} {b : B3} {y : Nat} : (l.take y ++ b :: l.drop y).Perm (l ++ [b]) := by
  refine List.perm_middle.trans ?_
  rw [List.take_append_drop]
  exact (List.perm_append_comm (l₁ := [b])).trans (List.Perm.refl _)
theorem ins_sorted {l : List B3} {b : B3} {y : Nat} (hs : SrtB l) (hy : y ≤ l.length) (h1 : ∀ j (hj : j < l.length), y ≤ j → B3.lt b l[j]) (h2 : ∀ (h0 : 0 < y), ¬ B3.lt b (l[y - 1]'(by omega))) : SrtB (l.take y ++ b :: l.drop y) := by
  have hp := List.pairwise_iff_getElem.1 hs
  unfold SrtB
  rw [List.pairwise_append, List.pairwise_cons]
  have hd : ∀ x ∈ l.drop y, B3.lt b x := by
    intro x hx
    obtain ⟨j, hj, rfl⟩ := List.getElem_of_mem hx
    rw [List.length_drop] at hj
    rw [List.getElem_drop]
    exact h1 (y + j) (by omega) (by omega)
  have ht : ∀ x ∈ l.take y, leB x b := by
    intro x hx
    obtain ⟨j, hj, rfl⟩ := List.getElem_of_mem hx
    rw [List.length_take] at hj
    rw [List.getElem_take]
    have h3 := h2 (by omega)
    by_cases e : j = y - 1
    · subst e; exact h3
    · exact leB_trans (hp j (y - 1) (by omega) (by omega) (by omega)) h3
  refine ⟨hs.sublist (List.take_sublist _ _), ⟨fun x hx => leB_of (hd x hx), hs.sublist (List.drop_sublist _ _)⟩, fun x hx z hz => ?_⟩
  rcases List.mem_cons.1 hz with rfl | hz
  · exact ht x hx
  · exact leB_trans (ht x hx) (leB_of (hd z hz))
theorem srtB_unique : ∀ {l m : List B3}, SrtB l → SrtB m → l.Perm m → l = m := by
  intro l
  induction l with
  | nil => intro m _ _ h; exact (List.Perm.nil_eq h)
  | cons a l ih =>
    intro m h1 h2 h
    cases m with
    | nil => exact absurd h.length_eq (by simp)
    | cons b m =>
      obtain ⟨ha, hl⟩ := List.pairwise_cons.1 h1
      obtain ⟨hb, hm⟩ := List.pairwise_cons.1 h2
      have e : a = b := by
        rcases List.mem_cons.1 (h.mem_iff.1 (List.mem_cons_self ..)) with e | e
        · exact e
        · rcases List.mem_cons.1 (h.mem_iff.2 (List.mem_cons_self ..)) with e' | e'
          · exact e'.symm
          · exact leB_anti (ha b e') (hb a e)
      subst e
      rw [ih hl hm (List.Perm.cons_inv h)]
theorem srtB_lt {l : List B3} (h : l.Pairwise B3.lt) : SrtB l := h.imp leB_of
end Go.Vc
/-
  The calculus, part 18: a search for completions that keeps or counts them.
-/
namespace Go.Vc
open Go Go.RowKit
section
variable {v m a b c n p k : Nat} {U : List Bool}
/-- The pairs that are used, by their numbers. -/
def RelU (v : Nat) (U : List Bool) (m : Nat) : Prop := U.length = 256 ∧ ∀ x y : Nat, x < v → y < v → x ≠ y → U.getD (prI x y) false = usd m x y
theorem prI_lt (ha : a < 16) (hb : b < 16) : prI a b < 256 := by unfold prI; omega
/-- What the loops for the first pair have found. -/
def Fnd (v m : Nat) (a b : Int) (p : Nat) : Prop := (a = -1 ∧ b = -1 ∧ p ≤ v ∧ ∀ i j, i < p → i < j → j < v → usd m i j = true) ∨ ∃ x y : Nat, a = x ∧ b = y ∧ IsNext v m x y
variable {most : Nat} {α : Type}
end
section
variable {P : Program} {N : Nat} {w0 w : World} {Q : Exit → Act → World → Prop} {σ : Sig} {H H' : List Assn} {ops : Array Oper} {rest : List Oper}
/-- A search: its cells, the pairs that are used, what it has found; what has been counted, l. -/
def SrchK (T uT fT bT : TypeId) (sb v most : Nat) (keep : Bool) (m : Nat) (l : List (List B3)) : Assn :=
  .exi fun q : ((Option Addr × Nat) × List Bool) × (Option Addr × Nat) × List (Sl × List B3) => .sep (.pur (RelU v q.1.2 m ∧ (conts q.2.2 = if keep then l else []) ∧ ∀ p ∈ q.2.2, p.1.A.isSome = true))
    (.sep (Blk sb [.int .i64 (v : Int), .slice q.1.1.1 q.1.2.length q.1.1.2, .int .i64 (l.length : Int), .int .i64 (most : Int), .bool keep, .slice q.2.1.1 (tops q.2.2).length q.2.1.2] T)
      (.sep (Own uT BoolC q.1.1.1 q.1.1.2 q.1.2) (.sep (Own fT SlC q.2.1.1 q.2.1.2 (tops q.2.2)) (RowsA bT B3C q.2.2))))
theorem inB_pts {v : Nat} {d : B3} (hd : inB v d) (hv : v ≤ 15) : (0 ≤ d.1 ∧ d.1 < 16) ∧ (0 ≤ d.2.1 ∧ d.2.1 < 16) ∧ (0 ≤ d.2.2 ∧ d.2.2 < 16) := by
  obtain ⟨x, y, z, rfl, h1, h2, h3⟩ := hd
  unfold b3N
  simp only
  omega
variable {T uT fT bT : TypeId} {sb v most m : Nat} {keep : Bool} {l : List (List B3)}
theorem SrchK.elim (hw : St w0 (SrchK T uT fT bT sb v most keep m l :: H) w) : ∃ uA uk U fA fk ps, RelU v U m ∧ conts ps = (if keep then l else []) ∧ (∀ p ∈ ps, p.1.A.isSome = true) ∧
    St w0 (Blk sb [.int .i64 (v : Int), .slice uA U.length uk, .int .i64 (l.length : Int), .int .i64 (most : Int), .bool keep, .slice fA (tops ps).length fk] T :: Own uT BoolC uA uk U :: Own fT SlC fA fk (tops ps) :: RowsA bT B3C ps :: H) w := by
  obtain ⟨q, hw⟩ := hw.exi
  have h1 := hw.sep.pur
  refine ⟨q.1.1.1, q.1.1.2, q.1.2, q.2.1.1, q.2.1.2, q.2.2, h1.1.1, h1.1.2.1, h1.1.2.2, ?_⟩
  have h2 := h1.2.sep
  have h3 := (h2.perm (List.Perm.swap _ _ _)).sep
  have h5 := (h3.perm (List.Perm.swap _ _ _)).sep
  exact (h5.sub (Sub.keep 3 rfl (Sub.keep 2 rfl (Sub.keep 0 rfl (Sub.keep 0 rfl (Sub.refl _))))))
theorem SrchK.mk {uA fA : Option Addr} {uk fk : Nat} {U : List Bool} {ps : List (Sl × List B3)} (hr : RelU v U m) (hc : conts ps = if keep then l else []) (hso : ∀ p ∈ ps, p.1.A.isSome = true)
    (hw : St w0 (Blk sb [.int .i64 (v : Int), .slice uA U.length uk, .int .i64 (l.length : Int), .int .i64 (most : Int), .bool keep, .slice fA (tops ps).length fk] T :: Own uT BoolC uA uk U :: Own fT SlC fA fk (tops ps) :: RowsA bT B3C ps :: H) w) : St w0 (SrchK T uT fT bT sb v most keep m l :: H) w := by
  refine St.mkExi (((uA, uk), U), (fA, fk), ps) (St.unsep (St.addPur ⟨hr, hc, hso⟩ ?_))
  have h1 : St w0 (Own fT SlC fA fk (tops ps) :: RowsA bT B3C ps :: Own uT BoolC uA uk U :: Blk sb [.int .i64 (v : Int), .slice uA U.length uk, .int .i64 (l.length : Int), .int .i64 (most : Int), .bool keep, .slice fA (tops ps).length fk] T :: H) w := hw.sub (Sub.keep 2 rfl (Sub.keep 2 rfl (Sub.keep 1 rfl (Sub.keep 0 rfl (Sub.refl _)))))
  have h2 := (St.unsep h1).perm (List.Perm.swap _ _ _)
  have h3 := (St.unsep h2).perm (List.Perm.swap _ _ _)
  exact St.unsep h3
end
end Go.Vc
/-
  The calculus, part 19: fields of a list's elements.
-/
namespace Go.Vc
open Go Go.RowKit
section
variable {P : Program} {w0 w : World} {σ : Sig} {H H' : List Assn} {o : Oper} {v : Int}
end
end Go.Vc
/-
  Plain words: the first system that is apart; how many blocks are common.
-/
namespace Go.Vc
/-- No block in common. -/
def ApartB (bs q : List B3) : Prop := ∀ b ∈ bs, b ∉ q
instance (bs q : List B3) : Decidable (ApartB bs q) := inferInstanceAs (Decidable (∀ b ∈ bs, b ∉ q))
theorem apart_I {bs q : List B3} : (bs.filter fun b => decide (b ∈ q)).length = 0 ↔ ApartB bs q := by
  rw [List.length_eq_zero_iff, List.filter_eq_nil_iff]
  unfold ApartB
  simp
/-- The first of all systems that is apart. -/
noncomputable def firstA (v : Int) (bs : List B3) : Option (List B3) := (allN v).find? fun q => decide (ApartB bs q)
/-- What both FirstApart return. -/
noncomputable def apR (v : Int) (bs : List B3) : Int × List B3 × Int :=
  if STS v bs then if Few v bs then match firstA v bs with | some q => (v, q, 0) | none => (0, [], 4) else (0, [], 5) else (0, [], 1)
/-- How many of the first i lists have q blocks of bs, for each q. -/
def cntC (bs : List B3) (ls : List (List B3)) (n i : Nat) : List Int := (List.range n).map fun q => (((ls.take i).filter fun y => decide ((bs.filter fun b => decide (b ∈ y)).length = q)).length : Int)
section
variable {bs : List B3} {ls : List (List B3)} {n i : Nat}
end
/-- What both CommonNumbers return. -/
noncomputable def cmR (v : Int) (bs : List B3) : List Int × Int :=
  if STS v bs then if Few v bs then (cntC bs (allN v) (bs.length + 1) (allN v).length, 0) else ([], 5) else ([], 1)
section
variable {w0 w : World} {H : List Assn} {α : Type} {T : TypeId} {C : Cod α}
/-- One row is kept. -/
theorem RowsA.out {ps : List (Sl × List α)} {k : Nat} (hk : k < ps.length) (hw : St w0 (RowsA T C ps :: H) w) : St w0 (Own T C (ps[k]).1.A (ps[k]).1.c (ps[k]).2 :: H) w := by
  have e : ps = ps.take k ++ ps[k] :: ps.drop (k + 1) := by
    rw [← List.drop_eq_getElem_cons hk, List.take_append_drop]
  have hp : ps.Perm (ps[k] :: (ps.take k ++ ps.drop (k + 1))) := by
    conv => lhs; rw [e]
    exact List.perm_middle
  have h1 := RowsA.perm hp hw
  exact ((RowsA.uncons (s := (ps[k]).1) (xs := (ps[k]).2) h1).2).sub (Sub.keep 0 rfl (Sub.drop (Sub.refl _)))
end
end Go.Vc
/-
  The calculus, part 19: two results, the first of which lies in memory; the marks of blocks.
-/
namespace Go.Vc
open Go Go.RowKit
section
variable {P : Program} {N : Nat} {w0 w : World} {Q : Exit → Act → World → Prop} {σ : Sig} {H H' : List Assn}
theorem X.retCell2 {fn : Func} {t s n : Nat} {T : TypeId} {p : Option Addr} {cs : List Value} {u : Value} {R : Value → List Assn} (hr : fn.results = #[.cell t T, .tmp s]) (hT : aggT P T = true) (hz : Sz P T n) (hl : cs.length = n) (ht : look σ t = some (.pointer p)) (hs' : look σ s = some u)
    (hc : ∀ w, St w0 H w → ∃ q, p = some q ∧ ∀ j u, cs[j]? = some u → w.cell? (q.add j) = some u) (hs : ∀ w, St w0 H w → St w0 (R (.tuple #[.agg cs.toArray, u])) w) :
    X N w0 (bodyPost P fn (fun e w' => ∃ v, e = .returned v ∧ St w0 (R v) w')) .ret σ H := by
  intro w hw a ha
  refine ⟨ha.defers, .tuple #[.agg cs.toArray, u], ?_, _, rfl, hs w hw⟩
  have h1 := ha.look_ t _ ht
  have h2 := ha.look_ s _ hs'
  obtain ⟨q, rfl, hq⟩ := hc w hw
  subst hl
  have hrn := run_loadCells_list (P := P) (w := w) q cs hq
  simp [results, hr, h1, h2, asAddr, loadVar, run_isAgg_t hT, run_sz hz, hrn]
end
section
variable {w0 : World} {H : List Assn}
theorem Ld.part {A : Option Addr} {xs : List B3} {k s j : Nat} {u : Value} (hr : ∀ w, St w0 H w → Rd B3C w A xs) (hk : k < xs.length) (hs : s = 3) (hu : (B3.cs xs[k])[j]? = some u) : ∀ w, St w0 H w → ∃ q, (A.map (·.add (k * s))).map (·.add j) = some q ∧ w.cell? q = some u := by
  intro w hw
  obtain ⟨q, h1, h2⟩ := Ld.rds hr hk (s := s) hs w hw
  exact ⟨q.add j, by rw [h1]; rfl, h2 j u hu⟩
end
/-- Two strings are equal, or not. -/
theorem Pu.eqlStr {P : Program} {w0 : World} {H : List Assn} {σ : Sig} {o : Oper} {T T2 : TypeId} {x y : Operand} {s t : ByteArray} {b : Bool} (hb : (s.toList == t.toList) = b) (ho : o.op = .binOp .eql T x y T2) (hx : ev σ x = some (.string s)) (hy : ev σ y = some (.string t)) : Pu P w0 o σ H (.bool b) := by
  subst hb
  intro w hw a ha
  have h1 := ha x (by simp [ho, Op.operands]) _ hx
  have h2 := ha y (by simp [ho, Op.operands]) _ hy
  have he : (eqGuard .eql T x y (.string s) (.string t)).run P w = .ok () w := by
    unfold eqGuard
    simp
  simp [execOp, ho, h1, h2, he, Go.binOp, Op.stringOp]
/-- The marks of n blocks. -/
def marksB (m : Int) (n : Nat) : List B3 := (List.range n).map fun i : Nat => (m + 3 * (i : Int), m + 3 * (i : Int) + 1, m + 3 * (i : Int) + 2)
theorem marksB_len (m : Int) (n : Nat) : (marksB m n).length = n := by simp [marksB]
def markBAt (xs : List B3) (m : Int) (k : Nat) : List B3 := marksB m k ++ xs.drop k
end Go.Vc
/-
  Plain words: parts that fix a system.
-/
namespace Go.Vc
instance (a b : B3) : Decidable (leB a b) := inferInstanceAs (Decidable (¬ _))
section
variable {v m n : Nat}
theorem usd_put_false {a b c x y : Nat} (ha : a < 16) (hb : b < 16) (hc : c < 16) (hx : x < 16) (hy : y < 16) (h : usd (putM m a b c) x y = false) : usd m x y = false := by
  cases hh : usd m x y with
  | false => rfl
  | true =>
    have := (usd_put (m := m) ha hb hc hx hy).2 (.inl hh)
    rw [this] at h
    cases h
/-- What a completion is. -/
theorem comp_rest : ∀ n v m (q : List B3), v ≤ 15 → q ∈ compM n v m → Rest v m q := by
  intro n
  induction n with
  | zero =>
    intro v m q hv hq
    rcases mem_comp hq with ⟨rfl, _⟩ | ⟨k, a, b, c, r, hk, _⟩
    · exact ⟨fun _ h => by simp at h, fun _ h => by simp at h, List.Pairwise.nil, List.Pairwise.nil⟩
    · omega
  | succ n ih =>
    intro v m q hv hq
    have hs := comp_sorted _ _ _ _ hv hq
    rcases mem_comp hq with ⟨rfl, _⟩ | ⟨k, a, b, c, r, hk, hn, hc, hm, hr, rfl⟩
    · exact ⟨fun _ h => by simp at h, fun _ h => by simp at h, List.Pairwise.nil, List.Pairwise.nil⟩
    · obtain rfl : n = k := by omega
      have hI := next_spec hn
      have hab := hI.ab
      have hbv := hI.bv
      obtain ⟨h1, h2, h3⟩ := may_spec hm
      have h := ih _ _ _ hv hr
      refine ⟨fun d hd => ?_, fun d hd => ?_, hs, List.pairwise_cons.2 ⟨fun d hd => ?_, h.fit⟩⟩
      · rcases List.mem_cons.1 hd with rfl | hd
        · exact ⟨a, b, c, rfl, hab, h1, hc⟩
        · exact h.ok d hd
      · rcases List.mem_cons.1 hd with rfl | hd
        · exact ⟨a, b, c, rfl, hab, h1, hI.left, h2, h3⟩
        · obtain ⟨x, y, z, rfl, hx, hy, u1, u2, u3⟩ := h.opn d hd
          obtain ⟨x', y', z', e, _, _, hz⟩ := h.ok _ hd
          obtain ⟨rfl, rfl, rfl⟩ := b3N_inj e
          exact ⟨x, y, z, rfl, hx, hy, usd_put_false (by omega) (by omega) (by omega) (by omega) (by omega) u1, usd_put_false (by omega) (by omega) (by omega) (by omega) (by omega) u2, usd_put_false (by omega) (by omega) (by omega) (by omega) (by omega) u3⟩
      · obtain ⟨x, y, z, rfl, hx, hy, u1, u2, u3⟩ := h.opn d hd
        obtain ⟨x', y', z', e, _, _, hz⟩ := h.ok _ hd
        obtain ⟨rfl, rfl, rfl⟩ := b3N_inj e
        rw [common_le (b3N_three hab h1)]
        have k : ∀ p q : Nat, p < q → q < v → usd (putM m a b c) p q = false → ¬ (has (b3N a b c) p ∧ has (b3N a b c) q) := fun p q h4 h5 h6 => ((usd_putN hab h1 (by omega) (by omega) (by omega) (by omega)).1 h6).2
        exact ⟨k x y hx (by omega) u1, k x z (by omega) (by omega) u2, k y z hy (by omega) u3⟩
/-- .. and that it leaves no pair. -/
theorem comp_full : ∀ n v m (q : List B3), v ≤ 15 → q ∈ compM n v m → ∀ x y, x < y → y < v → usd (maskB m q) x y = true := by
  intro n
  induction n with
  | zero =>
    intro v m q hv hq
    rcases mem_comp hq with ⟨rfl, h⟩ | ⟨k, a, b, c, r, hk, _⟩
    · exact next_none h
    · omega
  | succ n ih =>
    intro v m q hv hq
    rcases mem_comp hq with ⟨rfl, h⟩ | ⟨k, a, b, c, r, hk, hn, hc, hm, hr, rfl⟩
    · exact next_none h
    · obtain rfl : n = k := by omega
      have h := ih _ _ _ hv hr
      have e : maskB m (b3N a b c :: r) = maskB (putM m a b c) r := by
        show maskB (putB m (b3N a b c)) r = _
        rw [putB_b3N]
      rw [e]
      exact h
/-- A full system, as plain words have it. -/
structure FullS (v : Nat) (T : List B3) : Prop where
  rest : Rest v 0 T
  full : ∀ x y, x < y → y < v → ∃ d ∈ T, has d x ∧ has d y
theorem FullS.of {T : List B3} (hv : v ≤ 15) (h : T ∈ compM n v 0) : FullS v T := by
  have hr := comp_rest _ _ _ _ hv h
  refine ⟨hr, fun x y h1 h2 => ?_⟩
  rcases (usd_mask T 0 hv hr.ok x y h1 h2).1 (comp_full _ _ _ _ hv h x y h1 h2) with h3 | h3
  · rw [usd_zero] at h3; cases h3
  · exact h3
theorem Rest.sub {T Q : List B3} (h : Rest v 0 T) (hs : Q.Sublist T) : Rest v 0 Q := ⟨fun d hd => h.ok d (hs.subset hd), fun d hd => h.opn d (hs.subset hd), h.lt.sublist hs, h.fit.sublist hs⟩
end
end Go.Vc
/-
  Plain words: the least part that fixes a system.
-/
namespace Go.Vc
/-- The least set with a property. -/
def LeastP (n : Nat) (p : Nat → Prop) (o : List Int) : Prop :=
  ∃ t, t < 2 ^ n ∧ p t ∧ o = pts t ∧ ∀ q, q < 2 ^ n → p q → ones t ≤ ones q ∧ (ones q = ones t → ¬ ltL (pts q) (pts t))
theorem LeastP.unique {n : Nat} {p : Nat → Prop} {a b : List Int} (h1 : LeastP n p a) (h2 : LeastP n p b) : a = b := by
  obtain ⟨T, a1, a2, rfl, a4⟩ := h1
  obtain ⟨U, b1, b2, rfl, b4⟩ := h2
  have h3 := a4 U b1 b2
  have h4 := b4 T a1 a2
  exact ltL_tri (fun h => h4.2 (by omega) h) (fun h => h3.2 (by omega) h)
/-- Which of the first k blocks a system has. -/
def hasM (bs U : List B3) : Nat → Nat
  | 0 => 0
  | k + 1 => if bs.getD k (0, 0, 0) ∈ U then hasM bs U k ||| 2 ^ k else hasM bs U k
/-- A part's blocks. -/
def partB (bs : List B3) (s : Nat) : List B3 := (pts s).map (blk bs)
/-- No other full system has all blocks of the part. -/
def FixP (bs : List B3) (all : List (List B3)) (s : Nat) : Prop := ∀ U ∈ all, (∀ q, s.testBit q = true → bs.getD q (0, 0, 0) ∈ U) → U = bs
/-- Lists of so many of the numbers below n, from one on, in order. -/
def setsN (n : Nat) : Nat → Nat → List (List Int)
  | 0, _ => [[]]
  | c + 1, f => (List.range (n - f)).flatMap fun i => (setsN n c (f + i + 1)).map (((f + i : Nat) : Int) :: ·)
theorem ptsAt_sorted (m : Nat) : ∀ v, (ptsAt m v).Pairwise (· < ·) := by
  intro v
  induction v with
  | zero => exact List.Pairwise.nil
  | succ v ih =>
    simp only [ptsAt]
    split
    · refine List.pairwise_append.2 ⟨ih, by simp, fun a ha b hb => ?_⟩
      have := (ptsAt_mem m v).1 ha
      simp only [List.mem_singleton] at hb
      omega
    · exact ih
end Go.Vc
/-
  The calculus, part 20: Go's own sorting of an owned row.
-/
namespace Go.Vc
open Go Go.RowKit
open Go.Proofs (sortWorldK CmpLays ltOf)
open Go.Sort (flatK HoldsK putRowK get_flatK size_flatK putCells putRow mapBlock onCells PermIn SortedIn SWO)
section
variable {P : Program} {α : Type} {w0 w w' : World} {H : List Assn} {T c g : Nat} {A : Option Addr} {C : Cod α} {xs ys : List α}
theorem flatK_flat [Inhabited α] (C : Cod α) (xs : List α) : flatK C.enc C.sz xs.toArray = (xs.flatMap C.enc).toArray := by
  have hl := length_flatMap_enc C xs
  apply Array.ext
  · rw [size_flatK]; simp only [List.size_toArray]; omega
  · intro i h1 h2
    have hlt : i < xs.length * C.sz := by simpa [size_flatK] using h1
    have hp := C.pos
    have hq : i / C.sz < xs.length := Nat.div_lt_of_lt_mul (by rw [Nat.mul_comm]; exact hlt)
    have hme : i / C.sz * C.sz + i % C.sz = i := by rw [Nat.mul_comm]; exact Nat.div_add_mod i C.sz
    have hg := getElem?_flatMap_enc C xs (i / C.sz) (i % C.sz) hq (Nat.mod_lt _ hp)
    rw [hme] at hg
    have e1 := get_flatK C.enc C.sz xs.toArray i (by simpa using hlt)
    rw [getElem!_pos _ i h1] at e1
    rw [e1]
    have e2 : xs.toArray[i / C.sz]! = xs[i / C.sz] := by rw [getElem!_pos _ _ (by simpa using hq)]; simp
    rw [e2]
    have h3 : i % C.sz < (C.enc xs[i / C.sz]).length := by rw [C.len]; exact Nat.mod_lt _ hp
    rw [getElem!_pos (C.enc xs[i / C.sz]) _ h3]
    have h4 : (xs.flatMap C.enc)[i]? = some (C.enc xs[i / C.sz])[i % C.sz] := by rw [hg, List.getElem?_eq_getElem h3]
    have h5 : i < (xs.flatMap C.enc).length := by rw [hl]; exact hlt
    rw [List.getElem?_eq_getElem h5] at h4
    simpa using (Option.some.inj h4).symm
theorem own_cases (hw : St w0 (Own T C A c xs :: H) w) : (A = none ∧ c = 0 ∧ xs = []) ∨ ∃ g, A = some ⟨g, 0, none⟩ := by
  obtain ⟨F, ho, hF⟩ := hw.get 0 rfl
  rcases ho.2 with ⟨h1, h2⟩ | ⟨g, cap, cur, hvv, _⟩
  · injection h1 with e1 e2 e3
    exact .inl ⟨e1, e3, List.eq_nil_of_length_eq_zero h2⟩
  · injection hvv with e1
    exact .inr ⟨g, e1⟩
theorem own_holdsK [Inhabited α] (hw : St w0 (Own T C (some ⟨g, 0, none⟩) c xs :: H) w) : HoldsK C.enc C.sz w g 0 xs.toArray ∧ g < w.heap.size := by
  obtain ⟨F, ho, hF⟩ := hw.get 0 rfl
  rcases ho.2 with ⟨h1, h2⟩ | ⟨g', cap, cur, hvv, hbase, hh, hle, hmax, hcs, htake⟩
  · injection h1 with e1; cases e1
  · injection hvv with e1 e2 e3
    cases e1
    subst e3
    refine ⟨fun j hj => ?_, (Array.getElem?_eq_some_iff.1 hh).1⟩
    rw [flatK_flat] at hj ⊢
    have hl := length_flatMap_enc C xs
    have hj' : j < (xs.flatMap C.enc).length := by simpa using hj
    have e : cur[j]? = some (xs.flatMap C.enc)[j] := by
      have h1 : (cur.toList.take (xs.length * C.sz))[j]? = cur.toList[j]? := by rw [List.getElem?_take, if_pos (by omega)]
      rw [htake, List.getElem?_eq_getElem hj'] at h1
      rw [← Array.getElem?_toList, ← h1]
    constructor
    · rw [getElem!_pos _ j (by simpa using hj')]
      simp only [World.cell?, hh, Nat.zero_add, e, id]
      simp
    · simp [World.frozen?, hh]
theorem putCells_toList [Inhabited α] {cur : Array Value} (hn : xs.length * C.sz ≤ cur.size) : (putCells id 0 (flatK C.enc C.sz xs.toArray) cur).toList.take (xs.length * C.sz) = xs.flatMap C.enc := by
  have hl := length_flatMap_enc C xs
  rw [flatK_flat]
  apply List.ext_getElem
  · simp [putCells, hl]; omega
  · intro j h1 h2
    simp only [List.getElem_take, Array.getElem_toList, putCells, Array.getElem_mapIdx]
    rw [if_pos ⟨Nat.zero_le _, by simpa using h2⟩, Nat.sub_zero, getElem!_pos _ j (by simpa using h2)]
    simp
theorem St.sortedK [Inhabited α] (hw : St w0 (Own T C (some ⟨g, 0, none⟩) c xs :: H) w) (hl : ys.length = xs.length) (n : Nat) (os : Array Obj) :
    St w0 (Own T C (some ⟨g, 0, none⟩) c ys :: H) (sortWorldK C.enc C.sz w g 0 n ys.toArray os) := by
  refine hw.upd ?_
  rintro F ⟨ho, hF⟩ hb
  rcases ho.2 with ⟨h1, h2⟩ | ⟨g', cap, cur, hvv, hbase, hh, hle, hmax, hcs, htake⟩
  · injection h1 with e1; cases e1
  · injection hvv with e1 e2 e3
    cases e1
    subst e3
    have hgs : g < w.heap.size := (Array.getElem?_eq_some_iff.1 hh).1
    have hn : xs.length * C.sz ≤ cur.size := by rw [hcs]; exact Nat.mul_le_mul_right _ hle
    have heap : ∀ k, k < w.heap.size → (sortWorldK C.enc C.sz w g 0 n ys.toArray os).heap[k]? = if g = k then (w.heap[k]?).map (onCells (putCells id 0 (flatK C.enc C.sz ys.toArray))) else w.heap[k]? := by
      intro k hk
      unfold sortWorldK Go.Sort.grow putRowK putRow mapBlock Go.Sort.ahead
      simp only
      rw [Array.getElem?_append_left (by simpa using hk), Array.getElem?_modify]
    have hsize : (sortWorldK C.enc C.sz w g 0 n ys.toArray os).heap.size = w.heap.size + os.size := by
      unfold sortWorldK Go.Sort.grow putRowK putRow mapBlock Go.Sort.ahead
      simp
    refine ⟨⟨rfl, rfl, rfl, by omega, fun k hk hk' => ?_, Nat.le_add_right _ _⟩, F, ⟨⟨?_, .inr ⟨g, c, putCells id 0 (flatK C.enc C.sz ys.toArray) cur, by rw [hl], Nat.zero_le _, ?_, by omega, hmax, ?_, ?_⟩⟩, ?_⟩, ?_⟩
    · rw [heap k hk, if_neg (fun e => hk' ((hF k).2 (by subst e; rfl)))]
    · rw [length_flatMap_enc]
    · rw [heap g hgs, if_pos rfl, hh]; rfl
    · simp [putCells, hcs]
    · exact putCells_toList (by rw [hl]; exact hn)
    · intro k
      rw [hF k]
      simp [Value.ownBlock]
    · intro k hk
      exact ⟨.inl hk, by have := (hb k hk).2; omega⟩
/-- A world that has only grown. -/
theorem Bel.grown (h : Bel w.heap.size w w') : ∃ q os', w' = Go.Sort.grow (w.drewN q) os' := by
  refine ⟨w'.drawn - w.drawn, w'.heap.extract w.heap.size w'.heap.size, ?_⟩
  have hd := h.drawn
  have hs := h.size
  have e : w'.heap = w.heap ++ w'.heap.extract w.heap.size w'.heap.size := by
    apply Array.ext_getElem?
    intro k
    by_cases hk : k < w.heap.size
    · rw [Array.getElem?_append_left hk, h.block k hk]
    · rw [Array.getElem?_append_right (by omega), Array.getElem?_extract]
      by_cases h2 : k < w'.heap.size
      · rw [if_pos (by omega)]
        congr 1
        omega
      · rw [Array.getElem?_eq_none (by omega), if_neg (by omega)]
  cases w'
  cases w
  simp only [Go.Sort.grow, World.drewN] at *
  have h1 := h.os
  have h2 := h.tape
  have h3 := h.output
  simp only at h1 h2 h3 hd
  subst h1 h2 h3
  rw [← e]
  congr 1
  omega
/-- What a comparison hands back. -/
def CmpD (P : Program) (f : Nat) (cb : Array Value) (enc : α → Value) (cf : α → α → Int) (W : World) : Prop :=
  ∀ x y : α, Does P f ([enc x, enc y] ++ cb.toList) W [] (fun v => [.pur (v = .int .i64 (cf x y))])
theorem sorted_pair [Inhabited α] {lt : α → α → Bool} {d : Array α} (h : SortedIn lt 0 d.size d) : d.toList.Pairwise fun x y => lt y x = false := by
  rw [List.pairwise_iff_getElem]
  intro i j hi hj hij
  have h1 := h i j (Nat.zero_le _) hij (by simpa using hj)
  rw [getElem!_pos d i (by simpa using hi), getElem!_pos d j (by simpa using hj)] at h1
  simpa using h1
theorem permIn_perm [Inhabited α] {d d' : Array α} (h : PermIn 0 d.size d d') : d'.toList.Perm d.toList := by
  obtain ⟨h1, _, h3⟩ := h
  have e1 : d.extract 0 d.size = d := by simp
  have e2 : d'.extract 0 d.size = d' := by rw [← h1]; simp
  rwa [e1, e2] at h3
/-- slices.SortFunc at elements of several cells. -/
theorem sortK_does [Inhabited α] {ρ : Go.Shelf.Ren} (L : Go.Proofs.SlLaysF0.n6 P ρ) (aE : ∀ w, (isAgg (ρ.t 24)).run P w = .ok true w) (zE : ∀ w, (Go.sizeOf (ρ.t 24)).run P w = .ok C.sz w) (cf : α → α → Int) (hO : SWO (ltOf cf)) {f : Nat} {cb : Array Value} (hok : CallOk P f)
    (hcmp : ∀ zs W, St w0 (Own T C A c zs :: H) W → CmpD P f cb (fun x => .agg (C.enc x).toArray) cf W) (hlen : xs.length < 4611686018427387904) :
    Does P (ρ.f 6) [.slice A xs.length c, .func (.func f) #[] cb] w0 (Own T C A c xs :: H) (fun v => [.exi fun ys : List α => .sep (.pur (v = .tuple #[] ∧ ys.Perm xs ∧ ys.Pairwise fun x y => ¬ cf y x < 0)) (Own T C A c ys)] ++ H) := by
  intro w hw
  rcases own_cases hw with ⟨rfl, rfl, rfl⟩ | ⟨g, rfl⟩
  · refine (Go.Proofs.AnyF.slices_SortFunc_none L none 0 _ w).mono ?_
    rintro e w' ⟨rfl, rfl⟩
    exact ⟨_, rfl, St.mkExi [] (St.unsep (St.addPur ⟨rfl, List.Perm.refl _, List.Pairwise.nil⟩ hw))⟩
  · obtain ⟨hH, hg⟩ := own_holdsK hw
    have eg : ∀ args w, (callFunc f args).run P w = .ok (.enter f args) w := fun args w => run_callFunc hok args w
    have hC : CmpLays P f cb C.enc C.sz cf g 0 xs.toArray.size w := by
      intro m os dk hs x y
      have hs' : dk.toList.length = xs.length := by simpa using hs
      have h1 := St.sortedK hw hs' m os
      have h2 := hcmp _ _ h1 x y _ (St.start _)
      have e : ([Value.agg (C.enc x).toArray, Value.agg (C.enc y).toArray] ++ cb.toList).toArray = #[.agg (C.enc x).toArray, .agg (C.enc y).toArray] ++ cb := by
        apply Array.ext'
        simp
      rw [e] at h2
      refine h2.mono ?_
      rintro e w' ⟨v, rfl, hs3⟩
      exact ⟨by rw [hs3.pur.1], hs3.below.grown⟩
    have h := Go.Proofs.AnyQ.slices_SortFunc L C.sz aE zE C.enc C.len C.one cf hO f cb g 0 c xs.toArray w eg hC hH hg (by simpa using hlen)
    have e0 : xs.toArray.size = xs.length := by simp
    rw [e0] at h
    refine h.mono ?_
    rintro e w' ⟨rfl, d', n, os, hp, hs, rfl⟩
    rw [← e0] at hp hs
    have hsz : d'.size = xs.toArray.size := hp.1
    have hp' := permIn_perm hp
    rw [← hsz] at hs
    have hs' := sorted_pair hs
    refine ⟨_, rfl, St.mkExi d'.toList (St.unsep (St.addPur ⟨rfl, by simpa using hp', hs'.imp fun h => ?_⟩ (St.sortedK hw (by simpa using hsz) n os)))⟩
    simpa [ltOf] using h
end
end Go.Vc
/-
  The calculus, part 21: Go's own sorting of an owned row of one cell an element, and of an array of numbers.
-/
namespace Go.Vc
open Go Go.RowKit
open Go.Proofs (sortWorld CmpLays1 ltOf)
open Go.Sort (putCells putRow mapBlock onCells PermIn SortedIn SWO Holds)
section
variable {P : Program} {α : Type} {w0 w w' : World} {H : List Assn} {T c g : Nat} {A : Option Addr} {C : Cod α} {xs ys : List α} {enc : α → Value}
/-- Numbers in order. -/
def sortI (xs : List Int) : List Int := xs.mergeSort fun x y => decide (x ≤ y)
end
end Go.Vc
/-
  Plain words: three numbers in order; systems that are turned.
-/
namespace Go.Vc
open Go Go.RowKit
section
variable {P : Program} {w0 w : World} {H : List Assn} {T c g : Nat}
end
theorem swoB : Go.Sort.SWO (Go.Proofs.ltOf fun x y : B3 => cmpL (bl x) (bl y)) := by
  have e : ∀ x y : B3, Go.Proofs.ltOf (fun x y : B3 => cmpL (bl x) (bl y)) x y = decide (B3.lt x y) := fun x y => by
    unfold Go.Proofs.ltOf
    exact decide_eq_decide.2 (cmpL_bl x y)
  refine ⟨fun x => ?_, fun x y z h1 h2 => ?_, fun x y z h1 h2 => ?_⟩
  · rw [e]; exact decide_eq_false (lt_irrefl x)
  · rw [e] at *
    simp only [decide_eq_true_eq] at *
    unfold B3.lt at *
    omega
  · rw [e] at *
    simp only [decide_eq_false_iff_not] at *
    unfold B3.lt at *
    omega
theorem srt_of {ys : List B3} (h : ys.Pairwise fun x y => ¬ cmpL (bl y) (bl x) < 0) : SrtB ys := h.imp fun {a b} h => by
  unfold leB
  rwa [cmpL_bl] at h
/-- The points, turned. -/
def turnL (v k : Int) (n : Nat) : List Int := (List.range n).map fun a : Nat => ((a : Int) + k) % v
theorem turnL_len (v k : Int) (n : Nat) : (turnL v k n).length = n := by simp [turnL]
/-- The blocks, turned, in some order. -/
def turnB (v k : Int) (bs : List B3) : List B3 := bs.map (renB (turnL v k v.toNat))
/-- What both TurnSystem return. -/
def TSR (v : Int) (bs : List B3) (k : Int) (r : List B3) : Prop := if STS v bs ∧ 0 ≤ k ∧ k ≤ v - 1 then r.Perm (turnB v k bs) ∧ SrtB r else r = []
theorem TSR.unique {v : Int} {bs : List B3} {k : Int} {r s : List B3} (h : TSR v bs k r) (g : TSR v bs k s) : r = s := by
  unfold TSR at *
  split at h
  · rename_i hc
    rw [if_pos hc] at g
    exact srtB_unique h.2 g.2 (h.1.trans g.1.symm)
  · rename_i hc
    rw [if_neg hc] at g
    rw [h, g]
theorem TSR.len {v : Int} {bs : List B3} {k : Int} {r : List B3} (h : TSR v bs k r) : r.length ≤ bs.length := by
  unfold TSR at h
  split at h
  · rw [h.1.length_eq]; simp [turnB]
  · simp [h]
/-- No block is in common with the turned ones. -/
def apT (v : Int) (bs : List B3) (k : Int) : Prop := ∀ b ∈ bs, b ∉ turnB v k bs
instance (v : Int) (bs : List B3) (k : Int) : Decidable (apT v bs k) := inferInstanceAs (Decidable (∀ b ∈ bs, b ∉ turnB v k bs))
/-- The least turn that is apart, and the code: what both MateByTurning return. -/
def MTR (v : Int) (bs : List B3) (r code : Int) : Prop :=
  (¬ STS v bs → r = 0 ∧ code = 1) ∧ (STS v bs → (1 ≤ r ∧ r < v ∧ apT v bs r ∧ (∀ j, 1 ≤ j → j < r → ¬ apT v bs j) ∧ code = 0) ∨ ((∀ j, 1 ≤ j → j < v → ¬ apT v bs j) ∧ r = 0 ∧ code = 4))
theorem MTR.unique {v : Int} {bs : List B3} {r c s d : Int} (h : MTR v bs r c) (g : MTR v bs s d) : r = s ∧ c = d := by
  by_cases hS : STS v bs
  · rcases h.2 hS with ⟨a1, a2, a3, a4, a5⟩ | ⟨a1, a2, a3⟩ <;> rcases g.2 hS with ⟨b1, b2, b3, b4, b5⟩ | ⟨b1, b2, b3⟩
    · have e : r = s := by
        by_cases h1 : r < s
        · exact absurd a3 (b4 r a1 h1)
        · by_cases h2 : s < r
          · exact absurd b3 (a4 s b1 h2)
          · omega
      exact ⟨e, by omega⟩
    · exact absurd a3 (b1 r a1 a2)
    · exact absurd b3 (a1 s b1 b2)
    · omega
  · have := h.1 hS; have := g.1 hS; omega
end Go.Vc
/-
  Plain words: blocks that are turned around; the two systems of a new desk.
-/
namespace Go.Vc
open Go Go.RowKit
def bkT (v : Int) (b : B3) (i : Nat) : B3 := bk3 ((b.1 + i) % v) ((b.2.1 + i) % v) ((b.2.2 + i) % v)
def addT (v : Int) (b : B3) (l : List B3) (i : Nat) : List B3 := if bkT v b i ∈ l then l else l ++ [bkT v b i]
/-- The first n turns of a block, put behind a list, without equal ones. -/
def rowT (v : Int) (l : List B3) (b : B3) (n : Nat) : List B3 := (List.range n).foldl (addT v b) l
def tblT (v : Int) (bs : List B3) : List B3 := bs.foldl (fun l b => rowT v l b v.toNat) []
section
variable {v : Int} {l bs : List B3} {b : B3} {n i : Nat}
theorem rowT_succ : rowT v l b (n + 1) = addT v b (rowT v l b n) n := by
  unfold rowT
  rw [List.range_succ, List.foldl_append]
  rfl
theorem rowT_yes (h : bkT v b n ∈ rowT v l b n) : rowT v l b (n + 1) = rowT v l b n := by
  rw [rowT_succ]
  unfold addT
  rw [if_pos h]
theorem rowT_no (h : ¬ bkT v b n ∈ rowT v l b n) : rowT v l b (n + 1) = rowT v l b n ++ [bkT v b n] := by
  rw [rowT_succ]
  unfold addT
  rw [if_neg h]
theorem rowT_zero : rowT v l b 0 = l := rfl
theorem rowT_len : ∀ n, (rowT v l b n).length ≤ l.length + n := by
  intro n
  induction n with
  | zero => simp [rowT_zero]
  | succ n ih =>
    by_cases h : bkT v b n ∈ rowT v l b n
    · rw [rowT_yes h]; omega
    · rw [rowT_no h, List.length_append]; simp; omega
end
/-- What both make of the Fano plane. -/
def FanoR (r : List B3) : Prop := r.Perm (rowT 7 [] (0, 1, 3) 7) ∧ SrtB r
theorem FanoR.unique {r s : List B3} (h : FanoR r) (g : FanoR s) : r = s := srtB_unique h.2 g.2 (h.1.trans g.1.symm)
theorem FanoR.len {r : List B3} (h : FanoR r) : r.length ≤ 7 := by
  rw [h.1.length_eq]
  exact rowT_len 7
end Go.Vc
/-
  The calculus, part 23: pairs of numbers; the pairs of blocks.
-/
namespace Go.Vc
open Go Go.RowKit
def P2C : Cod (Int × Int) := ⟨2, fun p => [.int .i64 p.1, .int .i64 p.2], by decide, fun _ => rfl, fun _ u hu => by simp at hu; rcases hu with rfl | rfl <;> rfl⟩
def P2v (p : Int × Int) : Value := .agg #[.int .i64 p.1, .int .i64 p.2]
section
variable {P : Program} {w0 w : World} {H : List Assn} {σ : Sig} {o : Oper}
theorem run_eq2 {T E : TypeId} (hT : P.underlying T = some (.array 2 E)) (hE : P.underlying E = some (.int .i64)) (hs : Sz P E 1) (a b : Int × Int) (d : Nat) (w : World) : (Op.equalIn (d + 1 + 1) T (P2v a) (P2v b)).run P w = .ok (decide (a = b)) w := by
  obtain ⟨i, hi, hsz⟩ := Option.map_eq_some_iff.1 hs
  have hc : P.cellsOf E = 1 := by simp [Program.cellsOf, hi, hsz]
  unfold P2v
  rw [run_equalIn_array w (d + 1) _ _ hT hi, hc]
  have r : List.range 2 = [0, 1] := rfl
  have e0 : ∀ x y : Value, (part E #[x, y] 0).run P w = .ok x w := fun x y => run_part_int hE _ _ _ rfl
  have e1 : ∀ x y : Value, (part E #[x, y] 1).run P w = .ok y w := fun x y => run_part_int hE _ _ _ rfl
  have q : ∀ x y : Int, (Op.equalIn (d + 1) E (.int .i64 x) (.int .i64 y)).run P w = .ok (x == y) w := fun x y => run_equalIn_int w d E .i64 .i64 x y hE
  obtain ⟨a1, a2⟩ := a
  obtain ⟨b1, b2⟩ := b
  rw [r]
  simp only [Op.eqItems, Sem.run_bind, Nat.zero_mul, Nat.one_mul, e0, e1, q, Result.andThen_ok]
  by_cases h1 : a1 = b1
  · subst h1
    by_cases h2 : a2 = b2
    · subst h2; simp [e0, e1, q]
    · simp [h2, e0, e1, q]
  · simp [h1, e0, e1, q]
theorem guard2 {T : TypeId} {op : BinOp} {x y : Operand} {a b : Int × Int} (hg : P.eqGuardType P.depth T = false) : (eqGuard op T x y (P2v a) (P2v b)).run P w = .ok () w := by
  unfold P2v
  exact run_eqGuard_agg w op T x y _ _ hg
theorem Pu.neqP2 {T T2 E : TypeId} {x y : Operand} {a b : Int × Int} (hT : P.underlying T = some (.array 2 E)) (hE : P.underlying E = some (.int .i64)) (hs : Sz P E 1) (hg : P.eqGuardType P.depth T = false) (ho : o.op = .binOp .neq T x y T2) (hx : ev σ x = some (P2v a)) (hy : ev σ y = some (P2v b)) : Pu P w0 o σ H (.bool (!decide (a = b))) := by
  intro w hw ac ha
  have h1 := ha x (by simp [ho, Op.operands]) _ hx
  have h2 := ha y (by simp [ho, Op.operands]) _ hy
  have hb : (Go.binOp .neq T (P2v a) (P2v b)).run P w = .ok (.bool (!decide (a = b))) w := by
    have := run_eq2 hT hE hs a b 9998 w
    unfold P2v at *
    rw [run_neq_struct, show (10000 : Nat) = 9998 + 1 + 1 from rfl, this]
    rfl
  simp only [execOp, ho, h1, h2, Sem.run_bind, guard2 hg, hb, Result.andThen_ok, Sem.run_pure]
end
/-! ### The pairs of blocks -/
def ltP (p q : Int × Int) : Prop := p.1 < q.1 ∨ (p.1 = q.1 ∧ p.2 < q.2)
instance (p q : Int × Int) : Decidable (ltP p q) := inferInstanceAs (Decidable (_ ∨ _))
def leP (p q : Int × Int) : Prop := ¬ ltP q p
theorem cmpL_p2 (p q : Int × Int) : cmpL [p.1, p.2] [q.1, q.2] < 0 ↔ ltP p q := by
  simp only [cmpL, ltP]
  (repeat' split) <;> omega
theorem swoP : Go.Sort.SWO (Go.Proofs.ltOf fun x y : Int × Int => cmpL [x.1, x.2] [y.1, y.2]) := by
  have e : ∀ x y : Int × Int, Go.Proofs.ltOf (fun x y : Int × Int => cmpL [x.1, x.2] [y.1, y.2]) x y = decide (ltP x y) := fun x y => by
    unfold Go.Proofs.ltOf
    exact decide_eq_decide.2 (cmpL_p2 x y)
  refine ⟨fun x => ?_, fun x y z h1 h2 => ?_, fun x y z h1 h2 => ?_⟩
  · rw [e]; exact decide_eq_false (by unfold ltP; omega)
  · rw [e] at *
    simp only [decide_eq_true_eq] at *
    unfold ltP at *
    omega
  · rw [e] at *
    simp only [decide_eq_false_iff_not] at *
    unfold ltP at *
    omega
def SrtP (l : List (Int × Int)) : Prop := l.Pairwise leP
theorem srtP_of {ys : List (Int × Int)} (h : ys.Pairwise fun x y => ¬ cmpL [y.1, y.2] [x.1, x.2] < 0) : SrtP ys := h.imp fun {a b} h => by
  unfold leP
  rwa [cmpL_p2] at h
theorem srtP_unique {a b : List (Int × Int)} (ha : SrtP a) (hb : SrtP b) (hp : a.Perm b) : a = b :=
  hp.eq_of_pairwise (fun x y _ _ h1 h2 => by
    obtain ⟨x1, x2⟩ := x
    obtain ⟨y1, y2⟩ := y
    unfold leP ltP at *
    simp only at *
    rw [Prod.mk.injEq]
    omega) ha hb
def prsB (bs : List B3) : List (Int × Int) := bs.flatMap fun b => [(b.1, b.2.1), (b.1, b.2.2), (b.2.1, b.2.2)]
theorem prsB_snoc (bs : List B3) (b : B3) : prsB (bs ++ [b]) = prsB bs ++ [(b.1, b.2.1), (b.1, b.2.2), (b.2.1, b.2.2)] := by simp [prsB]
theorem prsB_len (bs : List B3) : (prsB bs).length = 3 * bs.length := by
  unfold prsB
  induction bs with
  | nil => rfl
  | cons b bs ih => rw [List.flatMap_cons, List.length_append, ih]; simp; omega
theorem mem_prsB {bs : List B3} {p : Int × Int} : p ∈ prsB bs ↔ ∃ b ∈ bs, p = (b.1, b.2.1) ∨ p = (b.1, b.2.2) ∨ p = (b.2.1, b.2.2) := by
  unfold prsB
  simp [List.mem_flatMap]
section
variable {v : Nat} {bs cs : List B3}
theorem prsB_mem (h : STS (v : Int) bs) {x y : Nat} (hxy : x < y) : ((x : Int), (y : Int)) ∈ prsB bs ↔ ∃ d ∈ bs, has d x ∧ has d y := by
  rw [mem_prsB]
  constructor
  · rintro ⟨b, hb, h1⟩
    refine ⟨b, hb, ?_⟩
    unfold has
    rcases h1 with h1 | h1 | h1 <;> (simp only [Prod.mk.injEq] at h1; omega)
  · rintro ⟨b, hb, h1, h2⟩
    refine ⟨b, hb, ?_⟩
    have hg := h.good b hb
    unfold good at hg
    unfold has at h1 h2
    simp only [Prod.mk.injEq]
    omega
theorem prsB_in (h : STS (v : Int) bs) {p : Int × Int} (hp : p ∈ prsB bs) : ∃ x y : Nat, p = ((x : Int), (y : Int)) ∧ x < y ∧ y < v := by
  obtain ⟨b, hb, h1⟩ := mem_prsB.1 hp
  have hg := h.good b hb
  unfold good at hg
  refine ⟨p.1.toNat, p.2.toNat, ?_, ?_, ?_⟩
  all_goals rcases h1 with rfl | rfl | rfl
  all_goals first | (simp only [Prod.mk.injEq]; omega) | (simp only; omega)
theorem prsB_nodup (hv : v ≤ 15) (h : STS (v : Int) bs) : (prsB bs).Nodup := by
  have hr := sts_rest h
  unfold prsB
  unfold List.Nodup
  rw [List.flatMap_def, List.pairwise_flatten]
  constructor
  · intro l hl
    obtain ⟨b, hb, rfl⟩ := List.mem_map.1 hl
    have hg := h.good b hb
    unfold good at hg
    simp only [List.pairwise_cons, List.mem_cons, List.not_mem_nil, or_false, forall_eq_or_imp, forall_eq, ne_eq, Prod.mk.injEq, List.Pairwise.nil, and_true]
    refine ⟨⟨?_, ?_⟩, ?_, ?_⟩ <;> first | omega | (intro _ h; cases h)
  · rw [List.pairwise_map]
    refine List.Pairwise.imp_of_mem ?_ hr.fit
    intro a b ha hb hc
    have hga := h.good a ha
    have hgb := h.good b hb
    rw [common_le hga.three] at hc
    unfold good at hga hgb
    unfold has at hc
    intro p h1 q h2 e
    subst e
    simp only [List.mem_cons, List.not_mem_nil, or_false] at h1 h2
    rcases h1 with rfl | rfl | rfl <;> simp only [Prod.mk.injEq] at h2 <;> omega
end
end Go.Vc
namespace Go.Vc
/-- Which numbers of pairs are in some blocks. -/
def usedK (n : Nat) (bs : List B3) : List Bool := (List.range n).map fun k => decide (∃ p ∈ prsB bs, prI p.1.toNat p.2.toNat = k)
theorem usedK_len (n : Nat) (bs : List B3) : (usedK n bs).length = n := by simp [usedK]
theorem usedK_nil (n : Nat) : usedK n [] = List.replicate n false := by
  apply List.ext_getElem
  · simp [usedK]
  · intro k h1 h2
    simp [usedK, prsB]
theorem usedK_snoc (n : Nat) (bs : List B3) (b : B3) : usedK n (bs ++ [b]) = (((usedK n bs).set (prI b.1.toNat b.2.1.toNat) true).set (prI b.1.toNat b.2.2.toNat) true).set (prI b.2.1.toNat b.2.2.toNat) true := by
  apply List.ext_getElem
  · simp [usedK]
  · intro k h1 h2
    simp only [List.getElem_set]
    simp only [usedK, List.getElem_map, List.getElem_range]
    have key : (∃ p ∈ prsB (bs ++ [b]), prI p.1.toNat p.2.toNat = k) ↔ (prI b.2.1.toNat b.2.2.toNat = k ∨ prI b.1.toNat b.2.2.toNat = k ∨ prI b.1.toNat b.2.1.toNat = k ∨ ∃ p ∈ prsB bs, prI p.1.toNat p.2.toNat = k) := by
      rw [prsB_snoc]
      simp only [List.mem_append, List.mem_cons, List.not_mem_nil, or_false]
      constructor
      · rintro ⟨p, h | rfl | rfl | rfl, e⟩
        · exact .inr (.inr (.inr ⟨p, h, e⟩))
        · exact .inr (.inr (.inl e))
        · exact .inr (.inl e)
        · exact .inl e
      · rintro (e | e | e | ⟨p, h, e⟩)
        · exact ⟨_, .inr (.inr (.inr rfl)), e⟩
        · exact ⟨_, .inr (.inr (.inl rfl)), e⟩
        · exact ⟨_, .inr (.inl rfl), e⟩
        · exact ⟨p, .inl h, e⟩
    by_cases e1 : prI b.2.1.toNat b.2.2.toNat = k
    · rw [if_pos e1]; exact decide_eq_true (key.2 (.inl e1))
    · rw [if_neg e1]
      by_cases e2 : prI b.1.toNat b.2.2.toNat = k
      · rw [if_pos e2]; exact decide_eq_true (key.2 (.inr (.inl e2)))
      · rw [if_neg e2]
        by_cases e3 : prI b.1.toNat b.2.1.toNat = k
        · rw [if_pos e3]; exact decide_eq_true (key.2 (.inr (.inr (.inl e3))))
        · rw [if_neg e3]
          refine decide_eq_decide.2 (key.trans ⟨fun h => ?_, fun h => .inr (.inr (.inr h))⟩)
          rcases h with h | h | h | h
          · exact absurd h e1
          · exact absurd h e2
          · exact absurd h e3
          · exact h
def usedL (bs : List B3) : List Bool := usedK 256 bs
theorem usedL_len (bs : List B3) : (usedL bs).length = 256 := usedK_len 256 bs
theorem usedL_nil : usedL [] = List.replicate 256 false := usedK_nil 256
theorem usedL_snoc (bs : List B3) (b : B3) : usedL (bs ++ [b]) = (((usedL bs).set (prI b.1.toNat b.2.1.toNat) true).set (prI b.1.toNat b.2.2.toNat) true).set (prI b.2.1.toNat b.2.2.toNat) true := usedK_snoc 256 bs b
theorem usedK_at {n : Nat} {bs : List B3} {k : Nat} (hk : k < n) : (usedK n bs)[k]? = some true ↔ ∃ p ∈ prsB bs, prI p.1.toNat p.2.toNat = k := by
  simp only [usedK, List.getElem?_map, List.getElem?_range hk, Option.map_some, Option.some.injEq, decide_eq_true_eq]
theorem usedK_congr {n : Nat} {bs cs : List B3} (h : ∀ p, p ∈ prsB bs ↔ p ∈ prsB cs) : usedK n bs = usedK n cs := by
  unfold usedK
  apply List.map_congr_left
  intro k _
  exact decide_eq_decide.2 ⟨fun ⟨p, hp, e⟩ => ⟨p, (h p).1 hp, e⟩, fun ⟨p, hp, e⟩ => ⟨p, (h p).2 hp, e⟩⟩
theorem usedL_iff {v : Nat} {bs cs : List B3} (hv : v ≤ 15) (h : STS (v : Int) bs) (g : STS (v : Int) cs) : usedL bs = usedL cs ↔ (prsB bs).Perm (prsB cs) := by
  rw [List.perm_ext_iff_of_nodup (prsB_nodup hv h) (prsB_nodup hv g)]
  have at_ : ∀ (ds : List B3), STS (v : Int) ds → ∀ x y : Nat, x < y → y < v → (((x : Int), (y : Int)) ∈ prsB ds ↔ (usedL ds)[prI x y]? = some true) := by
    intro ds hd x y hx hy
    have hl : prI x y < 256 := prI_lt (by omega) (by omega)
    rw [show usedL ds = usedK 256 ds from rfl, usedK_at hl]
    constructor
    · intro hp; exact ⟨_, hp, by simp⟩
    · rintro ⟨p, hp, e⟩
      obtain ⟨a, b, rfl, hab, hb⟩ := prsB_in hd hp
      simp only [Int.toNat_natCast] at e
      rcases prI_inj (by omega) (by omega) (by omega) (by omega) e with ⟨rfl, rfl⟩ | ⟨rfl, rfl⟩
      · exact hp
      · omega
  constructor
  · intro e p
    constructor
    · intro hp
      obtain ⟨x, y, rfl, hx, hy⟩ := prsB_in h hp
      rw [at_ cs g x y hx hy, ← e, ← at_ bs h x y hx hy]
      exact hp
    · intro hp
      obtain ⟨x, y, rfl, hx, hy⟩ := prsB_in g hp
      rw [at_ bs h x y hx hy, e, ← at_ cs g x y hx hy]
      exact hp
  · intro hm
    exact usedK_congr hm
/-- A trade. -/
def TRD (v : Int) (os ns : List B3) : Prop := STS v os ∧ STS v ns ∧ (∀ b ∈ os, b ∉ ns) ∧ (prsB os).Perm (prsB ns)
noncomputable instance (v : Int) (os ns : List B3) : Decidable (TRD v os ns) := Classical.propDecidable _
/-- The first n numbers that are points of blocks. -/
def ptsB (os : List B3) (n : Nat) : List Int := ((List.range n).filter fun p : Nat => decide (∃ b ∈ os, has b (p : Int))).map fun p : Nat => (p : Int)
theorem ptsB_yes {os : List B3} {n : Nat} (h : ∃ b ∈ os, has b (n : Int)) : ptsB os (n + 1) = ptsB os n ++ [(n : Int)] := by
  unfold ptsB
  rw [List.range_succ, List.filter_append, List.map_append]
  simp only [List.filter_cons, List.filter_nil, decide_eq_true h, if_true, List.map_cons, List.map_nil]
theorem ptsB_no {os : List B3} {n : Nat} (h : ¬ ∃ b ∈ os, has b (n : Int)) : ptsB os (n + 1) = ptsB os n := by
  unfold ptsB
  rw [List.range_succ, List.filter_append, List.map_append]
  simp only [List.filter_cons, List.filter_nil, decide_eq_false h]
  simp
theorem ptsB_len {os : List B3} {n : Nat} : (ptsB os n).length ≤ n := by
  unfold ptsB
  rw [List.length_map]
  exact Nat.le_trans (List.length_filter_le _ _) (by simp)
/-- What both PointsOfTrade return. -/
def PTR (v : Int) (os ns : List B3) (o : List Int) : Prop := (TRD v os ns → o = ptsB os v.toNat) ∧ (¬ TRD v os ns → o = [])
theorem PTR.unique {v : Int} {os ns : List B3} {a b : List Int} (h : PTR v os ns a) (g : PTR v os ns b) : a = b := by
  by_cases ht : TRD v os ns
  · rw [h.1 ht, g.1 ht]
  · rw [h.2 ht, g.2 ht]
theorem PTR.len {v : Int} {os ns : List B3} {a : List Int} (h : PTR v os ns a) : a.length ≤ 15 := by
  by_cases ht : TRD v os ns
  · rw [h.1 ht]
    have := ptsB_len (os := os) (n := v.toNat)
    have := ht.1.hi
    omega
  · rw [h.2 ht]; simp
end Go.Vc
/-
  Plain words: mitres: three blocks with a point in common, and two blocks that are apart and meet each of the three elsewhere.
-/
namespace Go.Vc
structure Cr (a : Int) (X Y Z P Q : B3) : Prop where
  pa : ¬ has P a
  qa : ¬ has Q a
  dis : ∀ t, has P t → ¬ has Q t
  xp : ∃ t, has X t ∧ has P t
  xq : ∃ t, has X t ∧ has Q t
  yp : ∃ t, has Y t ∧ has P t
  yq : ∃ t, has Y t ∧ has Q t
  zp : ∃ t, has Z t ∧ has P t
  zq : ∃ t, has Z t ∧ has Q t
section
variable {v : Int} {bs : List B3} {a b c d e f g : Int} {x y z : Nat} {r : List Int}
def MitT (bs : List B3) (a : Int) (X Y Z : B3) (xs : List Int) (r : List Int) : Prop := ∃ p q : Nat, ∃ (hp : p < bs.length) (hq : q < bs.length), Cr a X Y Z bs[p] bs[q] ∧ r.Perm (xs ++ [(p : Int), (q : Int)]) ∧ r.Pairwise (· ≤ ·)
/-- Two blocks, one with each of the points. -/
def HitM (bs : List B3) (b d f c e g : Int) (xs r : List Int) : Prop := ∃ p q : Nat, ∃ (hp : p < bs.length) (hq : q < bs.length), (has bs[p] b ∧ has bs[p] d ∧ has bs[p] f) ∧ (has bs[q] c ∧ has bs[q] e ∧ has bs[q] g) ∧ r.Perm (xs ++ [(p : Int), (q : Int)]) ∧ r.Pairwise (· ≤ ·)
/-- Three blocks through a. -/
structure Thr (bs : List B3) (a b c d e f g : Int) (x y z : Nat) : Prop where
  hx : x < bs.length
  hy : y < bs.length
  hz : z < bs.length
  xy : x ≠ y
  xz : x ≠ z
  yz : y ≠ z
  tx : Tri (bs[x]'hx) a b c
  ty : Tri (bs[y]'hy) a d e
  tz : Tri (bs[z]'hz) a f g
theorem far (h : STS v bs) {i j : Nat} (hi : i < bs.length) (hj : j < bs.length) (hne : i ≠ j) (ha : has bs[i] a) (hb : has bs[j] a) (t : Int) (h1 : has bs[i] t) (h2 : has bs[j] t) : t = a := by
  apply Decidable.byContradiction
  intro ht
  exact hne (h.two hi hj (fun e => ht e.symm) ha h1 hb h2)
def Sev (a b c d e f g : Int) : Prop := (a ≠ b ∧ a ≠ c ∧ a ≠ d ∧ a ≠ e ∧ a ≠ f ∧ a ≠ g) ∧ (b ≠ c ∧ b ≠ d ∧ b ≠ e ∧ b ≠ f ∧ b ≠ g) ∧ (c ≠ d ∧ c ≠ e ∧ c ≠ f ∧ c ≠ g) ∧ (d ≠ e ∧ d ≠ f ∧ d ≠ g) ∧ (e ≠ f ∧ e ≠ g) ∧ f ≠ g
end
end Go.Vc
/-
  Plain words: the lists of mitres.
-/
namespace Go.Vc
def fmR {α : Type} (f : Nat → List α) (n : Nat) : List α := (List.range n).flatMap f
abbrev W4 := Int × Int × Int × Int
noncomputable def ent (bs : List B3) (x y z b c : Int) (w : W4) : List (List Int) :=
  if idxP (fun t => bk3 b w.1 w.2.2.1 = t) bs < 0 ∨ idxP (fun t => bk3 c w.2.1 w.2.2.2 = t) bs < 0 then [] else [sortI [x, y, z, idxP (fun t => bk3 b w.1 w.2.2.1 = t) bs, idxP (fun t => bk3 c w.2.1 w.2.2.2 = t) bs]]
def wayL (d e f g : Int) : List W4 := [(d, e, f, g), (d, e, g, f), (e, d, f, g), (e, d, g, f)]
noncomputable def f3 (bs : List B3) (a x y z : Int) : List (List Int) := (wayL (oth1 (blk bs y) a) (oth2 (blk bs y) a) (oth1 (blk bs z) a) (oth2 (blk bs z) a)).flatMap (ent bs x y z (oth1 (blk bs x) a) (oth2 (blk bs x) a))
noncomputable def mt3 (bs : List B3) (a : Int) (l : List Int) (i j k : Nat) : List (List Int) := f3 bs a (l.getD i 0) (l.getD (i + 1 + j) 0) (l.getD (i + j + 2 + k) 0)
noncomputable def mt2 (bs : List B3) (a : Int) (l : List Int) (i j : Nat) : List (List Int) := fmR (mt3 bs a l i j) (l.length - (i + j + 2))
noncomputable def mt1 (bs : List B3) (a : Int) (l : List Int) (i : Nat) : List (List Int) := fmR (mt2 bs a l i) (l.length - (i + 1))
noncomputable def mitI (bs : List B3) (a : Int) : List (List Int) := fmR (mt1 bs a (numsAt (fun c => has c a) bs bs.length)) (numsAt (fun c => has c a) bs bs.length).length
section
variable {v : Int} {bs : List B3} {a b c d e f g : Int} {x y z : Nat} {r : List Int}
/-! ### The numbers of the blocks with a point -/
def atL (bs : List B3) (a : Int) : List Int := numsAt (fun c => has c a) bs bs.length
/-- The mitres with a centre. -/
def Mit (bs : List B3) (a : Int) (r : List Int) : Prop := ∃ (x y z : Nat) (hx : x < bs.length) (hy : y < bs.length) (hz : z < bs.length), x < y ∧ y < z ∧ has bs[x] a ∧ has bs[y] a ∧ has bs[z] a ∧ MitT bs a bs[x] bs[y] bs[z] [(x : Int), (y : Int), (z : Int)] r
end
end Go.Vc
/-
  The calculus, part 25: lists of lists in order; each once.
-/
namespace Go.Vc
open Go Go.RowKit
open Go.Proofs (ltOf)
open Go.Sort (SWO)
section
variable {P : Program} {w0 w : World} {H : List Assn} {T T2 c : Nat} {A : Option Addr} {ps : List (Sl × List Int)}
def RowC : Cod (Sl × List Int) := ⟨1, fun p => SlC.enc p.1, by decide, fun p => SlC.len p.1, fun p u hu => SlC.one p.1 u hu⟩
end
instance decLtL (x y : List Int) : Decidable (ltL x y) := inferInstanceAs (Decidable (cmpL x y < 0))
/-! ### Each once -/
abbrev SL := Sl × List Int
def d0 : SL := (⟨none, 0, 0⟩, [])
def keepA (l : List SL) (j : Nat) : Prop := j = 0 ∨ (l.getD j d0).2 ≠ (l.getD (j - 1) d0).2
instance (l : List SL) (j : Nat) : Decidable (keepA l j) := inferInstanceAs (Decidable (_ ∨ _))
def kpt (l : List SL) (i : Nat) : List SL := ((List.range i).filter fun j => decide (keepA l j)).map fun j => l.getD j d0
section
variable {l : List SL} {i j k : Nat}
/-- What the row holds while its elements are moved. -/
def mvt (l : List SL) (i : Nat) : List Sl := tops (kpt l i) ++ (tops l).drop (kpt l i).length
end
end Go.Vc
/-
  Plain words: subsystems: sets with a block for each pair; told by the number of their blocks.
-/
namespace Go.Vc
theorem sub_full {α : Type} [DecidableEq α] : ∀ (l1 l2 : List α), l1.Nodup → (∀ x ∈ l1, x ∈ l2) → l2.length ≤ l1.length → ∀ x ∈ l2, x ∈ l1
  | [], l2, _, _, hl, x, hx => by
    have : l2 = [] := List.eq_nil_of_length_eq_zero (by simpa using hl)
    subst this
    exact hx
  | a :: l1, l2, hn, hs, hl, x, hx => by
    obtain ⟨h1, h2⟩ := List.nodup_cons.1 hn
    have ha := hs a (by simp)
    have he := List.length_erase_of_mem ha
    have hp := List.length_pos_of_mem ha
    by_cases e : x = a
    · subst e; simp
    · refine List.mem_cons_of_mem _ (sub_full l1 (l2.erase a) h2 (fun y hy => ?_) (by simp at hl; omega) x ((List.mem_erase_of_ne e).2 hx))
      exact (List.mem_erase_of_ne (fun e => by subst e; exact h1 hy)).2 (hs y (by simp [hy]))
/-! ### Pairs of a list -/
def prs2 : List Int → List (Int × Int)
  | [] => []
  | x :: l => l.map (fun y => (x, y)) ++ prs2 l
theorem prs2_len : ∀ l, 2 * (prs2 l).length = l.length * (l.length - 1)
  | [] => rfl
  | x :: l => by
    have ih := prs2_len l
    rw [prs2, List.length_append, List.length_map, List.length_cons, Nat.add_sub_cancel, Nat.mul_add, ih]
    generalize l.length = k
    cases k with
    | zero => rfl
    | succ m => rw [Nat.add_sub_cancel]; simp only [Nat.add_mul, Nat.mul_add]; omega
theorem prs2_mem : ∀ {l : List Int}, l.Pairwise (· < ·) → ∀ {p : Int × Int}, p ∈ prs2 l ↔ p.1 < p.2 ∧ p.1 ∈ l ∧ p.2 ∈ l
  | [], _, p => by simp [prs2]
  | x :: l, h, p => by
    obtain ⟨h1, h2⟩ := List.pairwise_cons.1 h
    obtain ⟨a, b⟩ := p
    rw [prs2, List.mem_append, List.mem_map, prs2_mem h2]
    simp only [List.mem_cons, Prod.mk.injEq]
    constructor
    · rintro (⟨y, hy, rfl, rfl⟩ | ⟨k1, k2, k3⟩)
      · exact ⟨h1 _ hy, .inl rfl, .inr hy⟩
      · exact ⟨k1, .inr k2, .inr k3⟩
    · rintro ⟨k1, k2, k3⟩
      rcases k2 with rfl | k2
      · rcases k3 with rfl | k3
        · omega
        · exact .inl ⟨b, k3, rfl, rfl⟩
      · rcases k3 with rfl | k3
        · have := h1 _ k2; omega
        · exact .inr ⟨k1, k2, k3⟩
theorem prsB_sub {l m : List B3} (h : l.Sublist m) : (prsB l).Sublist (prsB m) := by
  unfold prsB
  induction h with
  | slnil => exact List.Sublist.refl _
  | cons a _ ih => rw [List.flatMap_cons]; exact ih.trans (List.sublist_append_right _ _)
  | cons_cons a _ ih => rw [List.flatMap_cons, List.flatMap_cons]; exact ih.append_left _
theorem prsI_mem {v : Int} {I : List B3} (hg : ∀ d ∈ I, good v d) {x y : Int} (hxy : x < y) : (x, y) ∈ prsB I ↔ ∃ d ∈ I, has d x ∧ has d y := by
  rw [mem_prsB]
  constructor
  · rintro ⟨b, hb, h1⟩
    refine ⟨b, hb, ?_⟩
    unfold has
    rcases h1 with h1 | h1 | h1 <;> (simp only [Prod.mk.injEq] at h1; omega)
  · rintro ⟨b, hb, h1, h2⟩
    refine ⟨b, hb, ?_⟩
    have hg := hg b hb
    unfold good at hg
    unfold has at h1 h2
    simp only [Prod.mk.injEq]
    omega
section
variable {v : Int} {bs : List B3} {s : Nat}
theorem two_mem (h : STS v bs) {d e : B3} (hd : d ∈ bs) (he : e ∈ bs) {x y : Int} (hxy : x ≠ y) (h1 : has d x) (h2 : has d y) (h3 : has e x) (h4 : has e y) : d = e := by
  obtain ⟨i, hi, rfl⟩ := List.mem_iff_getElem.1 hd
  obtain ⟨j, hj, rfl⟩ := List.mem_iff_getElem.1 he
  have := h.two hi hj hxy h1 h2 h3 h4
  subst this
  rfl
theorem tabPut_val {G : Int → Int → Int} {b : B3} (hb : three b) {x y : Int} : tabPut G b x y = if has b x ∧ has b y ∧ x ≠ y then b.1 + b.2.1 + b.2.2 - x - y else G x y := by
  obtain ⟨p, q, r⟩ := b
  unfold tabPut gset has
  unfold three at hb
  simp only at *
  (repeat' split) <;> first | rfl | omega
/-- The table's third point. -/
theorem tab_tri (h : STS v bs) {d : B3} (hd : d ∈ bs) {x y z : Int} (t : Tri d x y z) : tab bs x y = z := by
  have key : ∀ (l : List B3) (G : Int → Int → Int), (∀ b ∈ l, three b) → (∀ b ∈ l, has b x → has b y → b = d) → (d ∈ l ∨ G x y = z) → l.foldl tabPut G x y = z := by
    intro l
    induction l with
    | nil => intro G _ _ hz; exact hz.elim (fun h => by simp at h) id
    | cons b l ih =>
      intro G hb hu hz
      rw [List.foldl_cons]
      refine ih _ (fun c hc => hb c (by simp [hc])) (fun c hc => hu c (by simp [hc])) ?_
      by_cases hdl : d ∈ l
      · exact .inl hdl
      · right
        by_cases e : has b x ∧ has b y
        · have eb := hu b (by simp) e.1 e.2
          rw [tabPut_val (hb b (by simp)), if_pos ⟨e.1, e.2, t.1⟩, eb, tri_sum (h.good d hd) t]
          omega
        · have hG : G x y = z := by
            rcases hz with hz | hz
            · rw [List.mem_cons] at hz
              rcases hz with rfl | hz
              · exact absurd ⟨t.h1, t.h2⟩ e
              · exact absurd hz hdl
            · exact hz
          rw [← hG, tabPut_val (hb b (by simp)), if_neg (fun q => e ⟨q.1, q.2.1⟩)]
  refine key bs _ (fun b hb => (h.good b hb).three) (fun b hb h1 h2 => two_mem h hb hd t.1 h1 h2 t.h1 t.h2) (.inl hd)
def SubQ (bs : List B3) (s : Nat) : Prop := ∀ x y : Int, x ∈ pts s → y ∈ pts s → x ≠ y → ∃ d ∈ bs, has d x ∧ has d y ∧ ∀ z, has d z → z ∈ pts s
def Clo (bs : List B3) (s : Nat) : Prop := ∀ d ∈ bs, ¬ ones (bmask d &&& s) = 2
def insB (bs : List B3) (s : Nat) : List B3 := bs.filter fun d => decide (bmask d &&& s = bmask d)
theorem insB_len : (insB bs s).length = inside bs s bs.length := by
  unfold insB inside
  rw [List.take_of_length_le (Nat.le_refl _)]
theorem pts_lt (s : Nat) : (pts s).Pairwise (· < ·) := ptsAt_sorted _ _
theorem mem_pts {s : Nat} {z : Int} : z ∈ pts s ↔ 0 ≤ z ∧ z < 15 ∧ s.testBit z.toNat = true := ptsAt_mem s 15
theorem bit_has {d : B3} (hg : good v d) {z : Int} (hz : 0 ≤ z) : (bmask d).testBit z.toNat = true ↔ has d z := by
  rw [bmask_bit hg, Int.toNat_of_nonneg hz]
theorem pts_ones {m : Nat} (h : m < 32768) : (pts m).length = ones m := by
  unfold pts
  rw [ptsAt_len, cov_ones (by simpa using h)]
theorem ins_iff {d : B3} (hg : good 15 d) : bmask d &&& s = bmask d ↔ ∀ z, has d z → z ∈ pts s := by
  have hp := good.pts hg
  constructor
  · intro h z hz
    have hzz : 0 ≤ z ∧ z < 15 := by unfold has at hz; omega
    have h1 := (bit_has hg hzz.1).2 hz
    rw [← h, Nat.testBit_and, Bool.and_eq_true] at h1
    exact mem_pts.2 ⟨hzz.1, hzz.2, h1.2⟩
  · intro h
    apply Nat.eq_of_testBit_eq
    intro i
    rw [Nat.testBit_and]
    cases hb : (bmask d).testBit i with
    | false => rfl
    | true =>
      have := h i ((bmask_bit hg i).1 hb)
      rw [mem_pts] at this
      simpa using this.2.2
theorem mem_insB (h : STS v bs) {d : B3} : d ∈ insB bs s ↔ d ∈ bs ∧ ∀ z, has d z → z ∈ pts s := by
  unfold insB
  rw [List.mem_filter, decide_eq_true_eq]
  constructor
  · rintro ⟨h1, h2⟩; exact ⟨h1, (ins_iff ((h.good d h1).mono h.hi)).1 h2⟩
  · rintro ⟨h1, h2⟩; exact ⟨h1, (ins_iff ((h.good d h1).mono h.hi)).2 h2⟩
theorem ins_nodup (h : STS v bs) : (prsB (insB bs s)).Nodup := by
  have hv := h.lo
  have hh := h.hi
  have h' : STS ((v.toNat : Nat) : Int) bs := by rw [show ((v.toNat : Nat) : Int) = v by omega]; exact h
  exact (prsB_nodup (by omega) h').sublist (prsB_sub List.filter_sublist)
theorem ins_pair (h : STS v bs) {p : Int × Int} (hp : p ∈ prsB (insB bs s)) : p ∈ prs2 (pts s) := by
  rw [prs2_mem (pts_lt s)]
  obtain ⟨d, hd, e⟩ := mem_prsB.1 hp
  obtain ⟨h1, h2⟩ := (mem_insB h).1 hd
  have hg := h.good d h1
  unfold good at hg
  have k1 := h2 d.1 (.inl rfl)
  have k2 := h2 d.2.1 (.inr (.inl rfl))
  have k3 := h2 d.2.2 (.inr (.inr rfl))
  rcases e with rfl | rfl | rfl
  · exact ⟨by simp only; omega, k1, k2⟩
  · exact ⟨by simp only; omega, k1, k3⟩
  · exact ⟨by simp only; omega, k2, k3⟩
theorem count_subq (h : STS v bs) (hc : 6 * inside bs s bs.length = (pts s).length * ((pts s).length - 1)) : SubQ bs s := by
  have h1 := prs2_len (pts s)
  have h2 := prsB_len (insB bs s)
  rw [insB_len] at h2
  have hall := sub_full (prsB (insB bs s)) (prs2 (pts s)) (ins_nodup h) (fun p hp => ins_pair h hp) (by omega)
  have key : ∀ x y : Int, x ∈ pts s → y ∈ pts s → x < y → ∃ d ∈ bs, has d x ∧ has d y ∧ ∀ z, has d z → z ∈ pts s := fun x y hx hy hxy => by
    have := hall (x, y) ((prs2_mem (pts_lt s)).2 ⟨hxy, hx, hy⟩)
    obtain ⟨d, hd, k1, k2⟩ := (prsI_mem (fun e he => h.good e ((mem_insB h).1 he).1) hxy).1 this
    obtain ⟨k3, k4⟩ := (mem_insB h).1 hd
    exact ⟨d, k3, k1, k2, k4⟩
  intro x y hx hy hxy
  rcases Int.lt_or_gt_of_ne hxy with h3 | h3
  · exact key x y hx hy h3
  · obtain ⟨d, hd, k1, k2, k3⟩ := key y x hy hx h3
    exact ⟨d, hd, k2, k1, k3⟩
end
end Go.Vc
/-
  Plain words: the list of subsystems.
-/
namespace Go.Vc
open Go.Proofs (ltOf)
open Go.Sort (SWO)
def PairOk (bs : List B3) (s : Nat) (x y : Int) : Prop := ∃ d ∈ bs, has d x ∧ has d y ∧ ∀ z, has d z → z ∈ pts s
def SubI (bs : List B3) (s i j : Nat) : Prop := ∀ a b, a < b → (b < i ∨ (b = i ∧ a < j)) → b < (pts s).length → PairOk bs s ((pts s).getD b 0) ((pts s).getD a 0)
section
variable {v : Int} {bs : List B3} {s i j : Nat}
theorem PairOk.symm {x y : Int} (h : PairOk bs s x y) : PairOk bs s y x := by
  obtain ⟨d, h1, h2, h3, h4⟩ := h
  exact ⟨d, h1, h3, h2, h4⟩
theorem tri_third {d : B3} (hg : good v d) {x y : Int} (hxy : x ≠ y) (hx : has d x) (hy : has d y) : ∃ z, Tri d x y z := by
  have t := tri_oth hg hx
  rcases (t.2.2.2 y).1 hy with e | e | e
  · exact absurd e.symm hxy
  · exact ⟨_, e ▸ t⟩
  · exact ⟨_, e ▸ t.swap⟩
noncomputable instance (bs : List B3) (s : Nat) : Decidable (SubQ bs s) := Classical.propDecidable _
/-- The subsystems among the first n sets. -/
noncomputable def subsL (bs : List B3) (n : Nat) : List (List Int) := ((List.range n).filter fun s => decide (3 ≤ ones s ∧ SubQ bs s)).map pts
theorem subsL_len {n : Nat} : (subsL bs n).length ≤ n := by
  unfold subsL
  rw [List.length_map]
  exact Nat.le_trans (List.length_filter_le _ _) (by simp)
theorem subsL_small {n : Nat} : ∀ q ∈ subsL bs n, q.length ≤ 15 := by
  intro q hq
  obtain ⟨s, _, rfl⟩ := List.mem_map.1 hq
  exact pts_len s
end
/-- Shorter lists first, then in their order. -/
def cfB (a b : List Int) : Int := if ¬ (a.length : Int) = b.length then (a.length : Int) - b.length else cmpL a b
def leQ (a b : List Int) : Prop := ¬ cfB b a < 0
theorem cfB_lt {a b : List Int} : cfB a b < 0 ↔ a.length < b.length ∨ (a.length = b.length ∧ ltL a b) := by
  unfold cfB ltL
  split <;> omega
theorem leQ_anti {a b : List Int} (h1 : leQ a b) (h2 : leQ b a) : a = b := by
  unfold leQ at *
  rw [cfB_lt] at *
  have h4 : a.length = b.length := by
    rcases Nat.lt_trichotomy a.length b.length with h | h | h
    · exact absurd (.inl h) h2
    · exact h
    · exact absurd (.inl h) h1
  exact ltL_tri (fun h => h2 (.inr ⟨h4, h⟩)) (fun h => h1 (.inr ⟨h4.symm, h⟩))
/-- What both Subsystems return. -/
def SubR (v : Int) (bs : List B3) (l : List (List Int)) : Prop := (STS v bs → l.Perm (subsL bs (2 ^ v.toNat)) ∧ l.Pairwise leQ) ∧ (¬ STS v bs → l = [])
theorem SubR.unique {v : Int} {bs : List B3} {l m : List (List Int)} (h1 : SubR v bs l) (h2 : SubR v bs m) : l = m := by
  by_cases h : STS v bs
  · obtain ⟨p1, s1⟩ := h1.1 h
    obtain ⟨p2, s2⟩ := h2.1 h
    exact (p1.trans p2.symm).eq_of_pairwise (fun a b _ _ k1 k2 => leQ_anti k1 k2) s1 s2
  · rw [h1.2 h, h2.2 h]
theorem SubR.small {v : Int} {bs : List B3} {l : List (List Int)} (h1 : SubR v bs l) : (∀ q ∈ l, q.length ≤ 15) ∧ l.length ≤ 32768 := by
  by_cases h : STS v bs
  · obtain ⟨p1, s1⟩ := h1.1 h
    have hv := h.hi
    refine ⟨fun q hq => subsL_small q (p1.mem_iff.1 hq), ?_⟩
    rw [p1.length_eq]
    exact Nat.le_trans subsL_len (Nat.pow_le_pow_right (by decide) (by omega : v.toNat ≤ 15))
  · rw [h1.2 h]; simp
end Go.Vc
namespace Go.Vc
end Go.Vc
namespace Go.Vc
end Go.Vc
namespace Go.Vc
end Go.Vc
namespace Go.Vc
noncomputable instance (bs : List B3) (s : Nat) : Decidable (Clo bs s) := Classical.propDecidable _
theorem mul15 : ∀ n : Nat, n < 16 → (0 ≤ (n : Int) * ((n : Int) - 1) ∧ (n : Int) * ((n : Int) - 1) ≤ 210) ∧ (n : Int) * ((n : Int) - 1) = ((n * (n - 1) : Nat) : Int) := by decide
end Go.Vc
namespace Go.Vc
end Go.Vc
/-
  Plain words: cycles of a point by two others in a full system.
-/
namespace Go.Vc
def Pt (v x : Int) : Prop := 0 ≤ x ∧ x < v
noncomputable instance (v x : Int) : Decidable (Pt v x) := Classical.propDecidable _
/-- Each pair is in a block. -/
def AllP (v : Int) (bs : List B3) : Prop := ∀ x y, Pt v x → Pt v y → x ≠ y → ∃ d ∈ bs, has d x ∧ has d y
section
variable {v : Int} {bs : List B3} {a b p x y : Int} {m n N : Nat}
theorem full_allC (h : STS v bs) (hf : 6 * (bs.length : Int) = v * (v - 1)) : AllP v bs := by
  have hlo := h.lo
  have hhi := h.hi
  obtain ⟨V, hV⟩ := Int.eq_ofNat_of_zero_le (show 0 ≤ v by omega)
  subst hV
  have hpw : 2 ^ V ≤ 2 ^ 15 := Nat.pow_le_pow_right (by decide) (by omega)
  have hp0 := Nat.two_pow_pos V
  have bit : ∀ z : Int, z ∈ pts (2 ^ V - 1) ↔ 0 ≤ z ∧ z < (V : Int) := fun z => by
    rw [mem_pts, Nat.testBit_two_pow_sub_one, decide_eq_true_eq]
    omega
  have hin : inside bs (2 ^ V - 1) bs.length = bs.length := by
    rw [← insB_len]
    have : insB bs (2 ^ V - 1) = bs := by
      unfold insB
      rw [List.filter_eq_self]
      intro d hd
      refine decide_eq_true ((ins_iff ((h.good d hd).mono h.hi)).2 fun z hz => (bit z).2 ?_)
      have hg := h.good d hd
      unfold good at hg
      unfold has at hz
      omega
    rw [this]
  have hl : (pts (2 ^ V - 1)).length = V := by
    rw [pts_ones (by omega)]
    have := compl_ones (v := V) (s := 0) (by omega)
    rw [ones_zero] at this
    simpa using this
  have hq := count_subq (s := 2 ^ V - 1) h (by
    rw [hin, hl]
    have := (mul15 V (by omega)).2
    omega)
  intro x y hx hy hxy
  obtain ⟨d, hd, k1, k2, _⟩ := hq x y ((bit x).2 hx) ((bit y).2 hy) hxy
  exact ⟨d, hd, k1, k2⟩
/-- The third point: what is known of it. -/
structure Th (v : Int) (bs : List B3) (x y z : Int) : Prop where
  blk : ∃ d ∈ bs, Tri d x y z
  pt : Pt v z
  nx : z ≠ x
  ny : z ≠ y
theorem th_of (h : STS v bs) (hf : AllP v bs) (hx : Pt v x) (hy : Pt v y) (hxy : x ≠ y) : Th v bs x y (third bs x y) := by
  obtain ⟨d, hd, k1, k2⟩ := hf x y hx hy hxy
  obtain ⟨z, t⟩ := tri_third (h.good d hd) hxy k1 k2
  obtain ⟨k, hk, rfl⟩ := List.mem_iff_getElem.1 hd
  rw [(third_tri h hk t).2]
  have hg := h.good _ hd
  have h3 := t.h3
  refine ⟨⟨_, hd, t⟩, ?_, fun e => t.2.1 e.symm, fun e => t.2.2.1 e.symm⟩
  unfold good at hg
  unfold has at h3
  unfold Pt
  omega
theorem Th.eq (h : STS v bs) {z : Int} (t : Th v bs x y z) : third bs x y = z ∧ tab bs x y = z := by
  obtain ⟨d, hd, t⟩ := t.blk
  refine ⟨?_, tab_tri h hd t⟩
  obtain ⟨k, hk, rfl⟩ := List.mem_iff_getElem.1 hd
  exact (third_tri h hk t).2
theorem Th.back {z : Int} (h : STS v bs) (t : Th v bs x y z) : third bs x z = y := by
  obtain ⟨d, hd, t⟩ := t.blk
  obtain ⟨k, hk, rfl⟩ := List.mem_iff_getElem.1 hd
  exact (third_tri h hk t.swap).2
/-- The points that can be in a cycle. -/
structure Cy (v : Int) (bs : List B3) (a b x : Int) : Prop where
  pt : Pt v x
  na : x ≠ a
  nb : x ≠ b
  nc : x ≠ third bs a b
structure Ab (v : Int) (bs : List B3) (a b : Int) : Prop where
  h : STS v bs
  f : AllP v bs
  pa : Pt v a
  pb : Pt v b
  ne : a ≠ b
theorem Ab.symm (g : Ab v bs a b) : Ab v bs b a := ⟨g.h, g.f, g.pb, g.pa, fun e => g.ne e.symm⟩
theorem Ab.third (g : Ab v bs a b) : third bs b a = third bs a b := by
  have t := th_of g.h g.f g.pa g.pb g.ne
  obtain ⟨d, hd, t⟩ := t.blk
  obtain ⟨k, hk, rfl⟩ := List.mem_iff_getElem.1 hd
  exact (third_tri g.h hk t.rot).2
theorem Cy.symm (g : Ab v bs a b) (c : Cy v bs a b x) : Cy v bs b a x := ⟨c.pt, c.nb, c.na, by rw [g.third]; exact c.nc⟩
theorem Cy.step (g : Ab v bs a b) (c : Cy v bs a b x) : Th v bs a x (third bs a x) ∧ Cy v bs a b (third bs a x) := by
  have t := th_of g.h g.f g.pa c.pt (fun e => c.na e.symm)
  have bk := t.back g.h
  refine ⟨t, t.pt, t.nx, fun e => ?_, fun e => ?_⟩
  · rw [e] at bk
    exact c.nc bk.symm
  · have t2 := th_of g.h g.f g.pa g.pb g.ne
    rw [e, t2.back g.h] at bk
    exact c.nb bk.symm
/-- The cycle: by a and by b in turn. -/
def cm (a b : Int) (m : Nat) : Int := if m % 2 = 0 then a else b
noncomputable def uc (bs : List B3) (a b p : Int) : Nat → Int
  | 0 => p
  | m + 1 => third bs (cm a b m) (uc bs a b p m)
theorem uc_cy (g : Ab v bs a b) (c : Cy v bs a b p) : ∀ m, Cy v bs a b (uc bs a b p m)
  | 0 => c
  | m + 1 => by
    have ih := uc_cy g c m
    rw [uc]
    unfold cm
    split
    · exact (ih.step g).2
    · exact ((ih.symm g).step g.symm).2.symm g.symm
theorem uc_th (g : Ab v bs a b) (c : Cy v bs a b p) (m : Nat) : Th v bs (cm a b m) (uc bs a b p m) (uc bs a b p (m + 1)) := by
  have ih := uc_cy g c m
  rw [uc]
  unfold cm
  split
  · exact (ih.step g).1
  · exact ((ih.symm g).step g.symm).1
theorem uc_back (g : Ab v bs a b) (c : Cy v bs a b p) (m : Nat) : third bs (cm a b m) (uc bs a b p (m + 1)) = uc bs a b p m := (uc_th g c m).back g.h
theorem cm_add (m k : Nat) : cm a b (m + 2 * k) = cm a b m := by
  unfold cm
  rw [show (m + 2 * k) % 2 = m % 2 by omega]
theorem uc_even (g : Ab v bs a b) (c : Cy v bs a b p) (k : Nat) : ∀ m, uc bs a b p m = uc bs a b p (m + 2 * k) → uc bs a b p (2 * k) = p
  | 0, e => by rw [Nat.zero_add] at e; exact e.symm
  | m + 1, e => by
    refine uc_even g c k m ?_
    have h1 := uc_back g c m
    have h2 := uc_back g c (m + 2 * k)
    rw [cm_add] at h2
    rw [← h1, ← h2, e]
    congr 2
    omega
theorem nodup_len {α : Type} [DecidableEq α] : ∀ (l1 l2 : List α), l1.Nodup → (∀ x ∈ l1, x ∈ l2) → l1.length ≤ l2.length
  | [], l2, _, _ => Nat.zero_le _
  | a :: l1, l2, hn, hs => by
    obtain ⟨h1, h2⟩ := List.nodup_cons.1 hn
    have ha := hs a (by simp)
    have he := List.length_erase_of_mem ha
    have hp := List.length_pos_of_mem ha
    have := nodup_len l1 (l2.erase a) h2 (fun y hy => (List.mem_erase_of_ne (fun e => by subst e; exact h1 hy)).2 (hs y (by simp [hy])))
    rw [List.length_cons]
    omega
/-- The length of the cycle is 2 N. -/
structure Per (bs : List B3) (a b p : Int) (N : Nat) : Prop where
  pos : 0 < N
  le : N ≤ 15
  ret : uc bs a b p (2 * N) = p
  least : ∀ k, 0 < k → k < N → uc bs a b p (2 * k) ≠ p
theorem per_some (g : Ab v bs a b) (c : Cy v bs a b p) : ∃ N, Per bs a b p N := by
  have hhi := g.h.hi
  have h1 : ∃ k, 0 < k ∧ k ≤ 15 ∧ uc bs a b p (2 * k) = p := by
    apply Classical.byContradiction
    intro hc
    have hn : ((List.range 16).map fun i => uc bs a b p (2 * i)).Nodup := by
      unfold List.Nodup
      rw [List.pairwise_map]
      refine List.Pairwise.imp_of_mem ?_ (List.pairwise_lt_range (n := 16))
      intro i j hi hj hij e
      rw [List.mem_range] at hi hj
      have := uc_even g c (j - i) (2 * i) (by rw [e]; congr 1; omega)
      exact hc ⟨j - i, by omega, by omega, this⟩
    have := nodup_len _ ((List.range 15).map fun i : Nat => (i : Int)) hn (fun z hz => by
      obtain ⟨i, _, rfl⟩ := List.mem_map.1 hz
      have := (uc_cy g c (2 * i)).pt
      unfold Pt at this
      exact List.mem_map.2 ⟨(uc bs a b p (2 * i)).toNat, List.mem_range.2 (by omega), by omega⟩)
    simp at this
  obtain ⟨k, hk0, hk15, hk⟩ := h1
  obtain ⟨N, ⟨h2, h3⟩, h4⟩ := leastN (p := fun k => 0 < k ∧ uc bs a b p (2 * k) = p) k ⟨hk0, hk⟩
  exact ⟨N, h2, Nat.le_trans (h4 k ⟨hk0, hk⟩) hk15, h3, fun j hj hjN e => by have := h4 j ⟨hj, e⟩; omega⟩
end
end Go.Vc
/-
  Plain words: the blocks of a cycle, and those in which two points are exchanged.
-/
namespace Go.Vc
section
variable {v : Int} {bs : List B3} {a b p x y z : Int} {m n N : Nat} {d : B3}
noncomputable def ucE (bs : List B3) (a b p : Int) (m : Nat) : B3 := bk3 (cm a b m) (uc bs a b p m) (uc bs a b p (m + 1))
noncomputable def ucF (bs : List B3) (a b p : Int) (m : Nat) : B3 := bk3 (cm b a m) (uc bs a b p m) (uc bs a b p (m + 1))
noncomputable def outL (bs : List B3) (a b p : Int) (N : Nat) : List B3 := (List.range (2 * N)).map (ucE bs a b p)
noncomputable def inL (bs : List B3) (a b p : Int) (N : Nat) : List B3 := (List.range (2 * N)).map (ucF bs a b p)
noncomputable def cycL (bs : List B3) (a b p : Int) (N : Nat) : List Int := (List.range (2 * N)).map (uc bs a b p)
def cntY (l : List Int) (d : B3) : Nat := ((bl d).filter fun q => decide (q ∈ l)).length
def inY (l : List Int) (a b : Int) (d : B3) : Prop := cntY l d = 2 ∧ (has d a ∨ has d b)
instance (l : List Int) (a b : Int) (d : B3) : Decidable (inY l a b d) := inferInstanceAs (Decidable (_ ∧ _))
end
end Go.Vc
/-
  Plain words: what both CycleTrade return.
-/
namespace Go.Vc
def sw2 (a b t : Int) : Int := if t = a then b else if t = b then a else t
def exB (a b : Int) (d : B3) : B3 := bk3 (sw2 a b d.1) (sw2 a b d.2.1) (sw2 a b d.2.2)
section
variable {v : Int} {bs : List B3} {a b p x y z : Int} {m n N : Nat} {d : B3}
theorem Per.unique {M : Nat} (h1 : Per bs a b p N) (h2 : Per bs a b p M) : N = M := by
  rcases Nat.lt_trichotomy N M with h | h | h
  · exact absurd h1.ret (h2.least N h1.pos h)
  · exact h
  · exact absurd h2.ret (h1.least M h2.pos h)
/-- The arguments fit. -/
def CyOk (v : Int) (bs : List B3) (a b p : Int) : Prop := Pt v a ∧ Pt v b ∧ Pt v p ∧ a ≠ b ∧ p ≠ a ∧ p ≠ b ∧ p ≠ third bs a b
noncomputable instance (v : Int) (bs : List B3) (a b p : Int) : Decidable (CyOk v bs a b p) := Classical.propDecidable _
noncomputable def cyCode (v : Int) (bs : List B3) (a b p : Int) : Int := if STS v bs then if CyOk v bs a b p then if 6 * (bs.length : Int) = v * (v - 1) then 0 else 5 else 2 else 1
/-- The blocks that are taken out and put in. -/
def CYR (v : Int) (bs : List B3) (a b p : Int) (o i : List B3) : Prop := (cyCode v bs a b p = 0 → ∃ N, Per bs a b p N ∧ (o.Perm (outL bs a b p N) ∧ SrtB o) ∧ (i.Perm (inL bs a b p N) ∧ SrtB i)) ∧ (¬ cyCode v bs a b p = 0 → o = [] ∧ i = [])
theorem CYR.unique {o i o' i' : List B3} (h1 : CYR v bs a b p o i) (h2 : CYR v bs a b p o' i') : o = o' ∧ i = i' := by
  by_cases h : cyCode v bs a b p = 0
  · obtain ⟨N, P, ⟨p1, s1⟩, p2, s2⟩ := h1.1 h
    obtain ⟨M, Q, ⟨q1, r1⟩, q2, r2⟩ := h2.1 h
    have e := P.unique Q
    subst e
    exact ⟨srtB_unique s1 r1 (p1.trans q1.symm), srtB_unique s2 r2 (p2.trans q2.symm)⟩
  · obtain ⟨e1, e2⟩ := h1.2 h
    obtain ⟨e3, e4⟩ := h2.2 h
    exact ⟨e1.trans e3.symm, e2.trans e4.symm⟩
theorem cy_ok (h : cyCode v bs a b p = 0) : Ab v bs a b ∧ Cy v bs a b p := by
  unfold cyCode at h
  split at h
  · rename_i hS
    split at h
    · rename_i hc
      split at h
      · rename_i hf
        obtain ⟨h1, h2, h3, h4, h5, h6, h7⟩ := hc
        exact ⟨⟨hS, full_allC hS hf, h1, h2, h4⟩, h3, h5, h6, h7⟩
      · omega
    · omega
  · omega
theorem CYR.len {o i : List B3} (h1 : CYR v bs a b p o i) : o.length ≤ 30 ∧ i.length ≤ 30 := by
  by_cases h : cyCode v bs a b p = 0
  · obtain ⟨N, P, ⟨p1, s1⟩, p2, s2⟩ := h1.1 h
    have := P.le
    rw [p1.length_eq, p2.length_eq]
    unfold outL inL
    simp
    omega
  · obtain ⟨e1, e2⟩ := h1.2 h
    rw [e1, e2]
    simp
end
end Go.Vc
namespace Go.Vc
section
variable {v : Int} {bs : List B3} {a b p : Int} {i N : Nat}
theorem uc_tab (g : Ab v bs a b) (c : Cy v bs a b p) (i : Nat) : (tab bs a (uc bs a b p (2 * i)) = uc bs a b p (2 * i + 1) ∧ tab bs b (uc bs a b p (2 * i + 1)) = uc bs a b p (2 * (i + 1))) ∧ (third bs a (uc bs a b p (2 * i)) = uc bs a b p (2 * i + 1) ∧ third bs b (uc bs a b p (2 * i + 1)) = uc bs a b p (2 * (i + 1))) := by
  have t1 := (uc_th g c (2 * i)).eq g.h
  have t2 := (uc_th g c (2 * i + 1)).eq g.h
  rw [show cm a b (2 * i) = a by unfold cm; rw [if_pos (by omega)]] at t1
  rw [show cm a b (2 * i + 1) = b by unfold cm; rw [if_neg (by omega)]] at t2
  exact ⟨⟨t1.2, t2.2⟩, t1.1, t2.1⟩
theorem uc_pt15 (g : Ab v bs a b) (c : Cy v bs a b p) (m : Nat) : 0 ≤ uc bs a b p m ∧ uc bs a b p m < 15 := by
  have h := (uc_cy g c m).pt
  have := g.h.hi
  unfold Pt at h
  omega
theorem rg_snoc {α : Type} (f : Nat → α) (i : Nat) : (List.range (2 * (i + 1))).map f = (List.range (2 * i)).map f ++ [f (2 * i), f (2 * i + 1)] := by
  rw [show 2 * (i + 1) = 2 * i + 1 + 1 by omega, List.range_succ, List.range_succ, List.map_append, List.map_append]
  simp
theorem per_end (P : Per bs a b p N) (hi : i < N) (e : uc bs a b p (2 * (i + 1)) = p) : N = i + 1 := by
  by_cases h : i + 1 < N
  · exact absurd e (P.least (i + 1) (by omega) h)
  · omega
theorem per_more (P : Per bs a b p N) (hi : i < N) (e : ¬ uc bs a b p (2 * (i + 1)) = p) : i + 1 < N := by
  by_cases h : i + 1 = N
  · exact absurd (by rw [h]; exact P.ret) e
  · omega
end
end Go.Vc
namespace Go.Vc
section
variable {v : Int} {bs : List B3} {a b p : Int} {i N : Nat}
theorem ucE_ev : ucE bs a b p (2 * i) = bk3 a (uc bs a b p (2 * i)) (uc bs a b p (2 * i + 1)) := by unfold ucE cm; rw [if_pos (by omega)]
theorem ucE_od : ucE bs a b p (2 * i + 1) = bk3 b (uc bs a b p (2 * i + 1)) (uc bs a b p (2 * (i + 1))) := by
  unfold ucE cm
  rw [if_neg (by omega)]
  rfl
theorem ucF_ev : ucF bs a b p (2 * i) = bk3 b (uc bs a b p (2 * i)) (uc bs a b p (2 * i + 1)) := by unfold ucF cm; rw [if_pos (by omega)]
theorem ucF_od : ucF bs a b p (2 * i + 1) = bk3 a (uc bs a b p (2 * i + 1)) (uc bs a b p (2 * (i + 1))) := by
  unfold ucF cm
  rw [if_neg (by omega)]
  rfl
theorem cyCode_0 (h : STS v bs) (hc : CyOk v bs a b p) (hf : 6 * (bs.length : Int) = v * (v - 1)) : cyCode v bs a b p = 0 := by
  unfold cyCode
  rw [if_pos h, if_pos hc, if_pos hf]
theorem cyCode_5 (h : STS v bs) (hc : CyOk v bs a b p) (hf : ¬ 6 * (bs.length : Int) = v * (v - 1)) : cyCode v bs a b p = 5 := by
  unfold cyCode
  rw [if_pos h, if_pos hc, if_neg hf]
theorem cyCode_2 (h : STS v bs) (hc : ¬ CyOk v bs a b p) : cyCode v bs a b p = 2 := by
  unfold cyCode
  rw [if_pos h, if_neg hc]
theorem cyCode_1 (h : ¬ STS v bs) : cyCode v bs a b p = 1 := by
  unfold cyCode
  rw [if_neg h]
theorem cyR_no {k : Int} (h : cyCode v bs a b p = k) (hk : k ≠ 0) : CYR v bs a b p [] [] := ⟨fun e => absurd (h.symm.trans e) hk, fun _ => ⟨rfl, rfl⟩⟩
theorem sts_mul' (h : STS v bs) : 0 ≤ v * (v - 1) ∧ v * (v - 1) ≤ 1000000 := by
  have hlo := h.lo
  have hhi := h.hi
  obtain ⟨V, hV⟩ := Int.eq_ofNat_of_zero_le (show 0 ≤ v by omega)
  subst hV
  have := (mul15 V (by omega)).1
  omega
end
end Go.Vc
namespace Go.Vc
section
variable {v : Int} {bs : List B3} {a b p : Int} {k : Nat}
end
end Go.Vc
/-
  The calculus, part 25: numbers that are drawn from a code: words of 64 bits that wrap around, bytes, the source.
-/
namespace Go.Vc
open Go Go.RowKit
theorem wrapU (n : Nat) : IntKind.u64.wrap (n : Int) = ((n % 18446744073709551616 : Nat) : Int) := by
  simp only [IntKind.wrap, IntKind.bits, IntKind.signed, Bool.false_and, Bool.false_eq_true, if_false]
  omega
theorem dec_ne {p q : Prop} [Decidable p] [Decidable q] (h : p ↔ q) (c : (!decide p == decide q) = true) : False := by
  have e : decide p = decide q := decide_eq_decide.2 h
  rw [e] at c
  simp at c
/-- Bytes. -/
def U8C : Cod UInt8 := ⟨1, fun x => [.int .u8 (x.toNat : Int)], by decide, fun _ => rfl, fun _ u hu => by simp at hu; subst hu; rfl⟩
/-- Texts. -/
def StrC : Cod ByteArray := ⟨1, fun x => [.string x], by decide, fun _ => rfl, fun _ u hu => by simp at hu; subst hu; rfl⟩
section
variable {P : Program} {w0 w : World} {H : List Assn} {σ : Sig} {o : Oper} {T T2 : TypeId} {x y : Operand} {m n : Nat}
theorem Pu.mulU (ho : o.op = .binOp .mul T x y T2) (hx : ev σ x = some (.int .u64 (m : Int))) (hy : ev σ y = some (.int .u64 (n : Int))) : Pu P w0 o σ H (.int .u64 ((m * n % 18446744073709551616 : Nat) : Int)) := by
  have := Pu.mulW (P := P) (w0 := w0) (H := H) ho hx hy
  rwa [show (m : Int) * (n : Int) = ((m * n : Nat) : Int) by push_cast; rfl, wrapU] at this
theorem Pu.addU (ho : o.op = .binOp .add T x y T2) (hx : ev σ x = some (.int .u64 (m : Int))) (hy : ev σ y = some (.int .u64 (n : Int))) : Pu P w0 o σ H (.int .u64 (((m + n) % 18446744073709551616 : Nat) : Int)) := by
  have := Pu.add (P := P) (w0 := w0) (H := H) ho hx hy
  rwa [show (m : Int) + (n : Int) = ((m + n : Nat) : Int) by push_cast; rfl, wrapU] at this
theorem Pu.andU (hm : m < 18446744073709551616) (hn : n < 18446744073709551616) (ho : o.op = .binOp .and T x y T2) (hx : ev σ x = some (.int .u64 (m : Int))) (hy : ev σ y = some (.int .u64 (n : Int))) : Pu P w0 o σ H (.int .u64 ((m &&& n : Nat) : Int)) :=
  Pu.bin ho hx hy fun w => by
    have h1 : (BitVec.ofInt IntKind.u64.bits (m : Int) &&& BitVec.ofInt IntKind.u64.bits (n : Int)).toNat = m &&& n := by
      rw [BitVec.toNat_and, ofInt_nat (by show m < 2 ^ 64; omega), ofInt_nat (by show n < 2 ^ 64; omega)]
    have h2 : m &&& n < 18446744073709551616 := Nat.lt_of_le_of_lt Nat.and_le_left hm
    simp only [Go.binOp, Op.intBits, h1, wrap_u64 h2, ne_eq, not_true, if_false]
    rfl
theorem and_le_r {m n : Nat} : m &&& n ≤ n := Nat.and_le_right
end
/-- Two results that lie in memory. -/
theorem X.retCell22 {P : Program} {w0 : World} {H : List Assn} {σ : Sig} {N : Nat} {fn : Func} {t s n m : Nat} {T U : TypeId} {p q : Option Addr} {cs ds : List Value} {R : Value → List Assn} (hr : fn.results = #[.cell t T, .cell s U]) (hT : aggT P T = true) (hz : Sz P T n) (hl : cs.length = n) (hU : aggT P U = true) (hy : Sz P U m) (hm : ds.length = m) (ht : look σ t = some (.pointer p)) (hs' : look σ s = some (.pointer q))
    (hc : ∀ w, St w0 H w → ∃ a, p = some a ∧ ∀ j u, cs[j]? = some u → w.cell? (a.add j) = some u) (hd : ∀ w, St w0 H w → ∃ a, q = some a ∧ ∀ j u, ds[j]? = some u → w.cell? (a.add j) = some u) (hs : ∀ w, St w0 H w → St w0 (R (.tuple #[.agg cs.toArray, .agg ds.toArray])) w) :
    X N w0 (bodyPost P fn (fun e w' => ∃ v, e = .returned v ∧ St w0 (R v) w')) .ret σ H := by
  intro w hw a ha
  refine ⟨ha.defers, .tuple #[.agg cs.toArray, .agg ds.toArray], ?_, _, rfl, hs w hw⟩
  have h1 := ha.look_ t _ ht
  have h2 := ha.look_ s _ hs'
  obtain ⟨p, rfl, hp⟩ := hc w hw
  obtain ⟨q, rfl, hq⟩ := hd w hw
  subst hl
  subst hm
  have hrn := run_loadCells_list (P := P) (w := w) p cs hp
  have hrm := run_loadCells_list (P := P) (w := w) q ds hq
  simp [results, hr, h1, h2, asAddr, loadVar, run_isAgg_t hT, run_sz hz, run_isAgg_t hU, run_sz hy, hrn, hrm]
/-- One of three comes next. -/
theorem D.either3 {P : Program} {w0 : World} {Q : Exit → Act → World → Prop} {σ : Sig} {H : List Assn} {N : Nat} {ops : Array Oper} {Hs : List Assn} (hwf : wfB ops = true) {effs done : List Nat} {e1 e2 e3 : Nat} (hcl : closedL ops done [e1, e2, e3] = true) (h1 : Cand P N w0 ops Q effs done σ Hs H e1) (h2 : Cand P N w0 ops Q effs done σ Hs H e2) (h3 : Cand P N w0 ops Q effs done σ Hs H e3) : D P N w0 ops Q effs done σ Hs H := by
  refine D.effS hwf [e1, e2, e3] e1 (by simp) hcl ?_
  intro e he
  simp only [List.mem_cons, List.not_mem_nil, or_false] at he
  rcases he with rfl | rfl | rfl
  · exact h1
  · exact h2
  · exact h3
/-! ### append(s, ys...) where ys may be nil -/
section
variable {α : Type} {P : Program} {w0 w : World} {Q : Exit → Act → World → Prop} {H H' : List Assn} {σ : Sig} {o : Oper}
theorem Own.nilc {w : World} {T i c : Nat} {C : Cod α} {A : Option Addr} {xs : List α} (hw : St w0 H w) (hp : pull i H = Option.some (Own T C A c xs, H')) (hA : A = none) : xs.length = 0 ∧ c = 0 := by
  obtain ⟨F, ho, hF⟩ := hw.get i hp
  subst hA
  rcases ho.2 with ⟨h1, h2⟩ | ⟨g, cap, cur, hvv, _⟩
  · injection h1 with h3 h4 h5
    exact ⟨h2, h5⟩
  · injection hvv with h3
    cases h3
theorem Ef.appendN {T e sz bytes c c2 m : Nat} {x y : Operand} {z : Value} {C : Cod α} {A A2 : Option Addr} {xs ys : List α} (i : Nat) (ho : o.op = .call { callee := .builtin .append, args := #[x, y], argTypes := #[T, T] }) (hT : P.underlying T = some (.slice e)) (hi : Inf P e sz bytes z) (hs : sz = C.sz) (hzc : z.cells.size = sz)
    (hx : ev σ x = some (.slice A xs.length c)) (hy : ev σ y = some (.slice A2 m c2)) (hp : pull i H = some (Own e C A c xs, H')) (hm : m = ys.length) (hA2 : ∀ w, St w0 H w → A2 = none → ys.length = 0 ∧ c2 = 0) (hr : ∀ w, St w0 H w → Rd C w A2 ys) (hb : (xs.length + ys.length) * bytes ≤ 140737488355328) (hbp : 0 < bytes) :
    Ef P w0 o σ H Q (fun v H'' => ∃ A' c', v = .slice A' (xs ++ ys).length c' ∧ H'' = repl i H (Own e C A' c' (xs ++ ys)) ∧ (A.isSome = true ∨ 0 < ys.length → A'.isSome = true)) := by
  cases A2 with
  | some q => exact Ef.append i ho hT hi hs hzc hx hy hp hm rfl hr hb hbp
  | none =>
    refine Ef.mk fun w hw a ha => ?_
    have h1 := ha x (by simp [ho, Op.operands, Call.operands]) _ hx
    have h2 := ha y (by simp [ho, Op.operands, Call.operands]) _ hy
    obtain ⟨h3, h4⟩ := hA2 w hw rfl
    subst hs
    subst hm
    subst h4
    have hys : ys = [] := List.length_eq_zero_iff.1 h3
    subst hys
    obtain ⟨i0, hi1, hi2, hi3, hi4⟩ := hi.parts
    obtain ⟨F, hown, hF⟩ := hw.get i hp
    have hrun := run_append_owned_none (P := P) (w := w) 0 T o.type e i0 C.sz hT hi1 _ xs.length (xs.flatMap C.enc) hown
    refine ⟨.slice A xs.length c, w, by simp only [List.length_nil] at h2; simp [execOp, ho, resolve, invoke, builtin, h1, h2, hrun], repl i H (Own e C A c (xs ++ [])), ?_, A, c, by rw [List.append_nil], rfl, fun h => by rcases h with h | h; (· exact h); (· simp at h)⟩
    rw [List.append_nil]
    exact (hw.perm (pull_perm hp)).perm (repl_perm hp)
end
/-- The source: the code, how much of it is used, a word. -/
def SrcK (T : TypeId) (cA : Option Addr) (cc : Nat) (code : List UInt8) (s : Nat) : Assn :=
  .exi fun q : Nat × Nat => .sep (.pur (q.1 ≤ code.length ∧ q.2 < 18446744073709551616)) (Blk s [.slice cA code.length cc, .int .i64 (q.1 : Int), .int .u64 (q.2 : Int)] T)
section
variable {P : Program} {N : Nat} {w0 w : World} {Q : Exit → Act → World → Prop} {σ : Sig} {H H' : List Assn} {T : TypeId} {cA : Option Addr} {cc s : Nat} {code : List UInt8}
theorem SrcK.elim (hw : St w0 (SrcK T cA cc code s :: H) w) : ∃ a h : Nat, (a ≤ code.length ∧ h < 18446744073709551616) ∧ St w0 (Blk s [.slice cA code.length cc, .int .i64 (a : Int), .int .u64 (h : Int)] T :: H) w := by
  obtain ⟨q, hw⟩ := hw.exi
  have h := hw.sep.pur
  exact ⟨q.1, q.2, h.1, h.2⟩
theorem SrcK.mk {a h : Nat} (hp : a ≤ code.length ∧ h < 18446744073709551616) (hw : St w0 (Blk s [.slice cA code.length cc, .int .i64 (a : Int), .int .u64 (h : Int)] T :: H) w) : St w0 (SrcK T cA cc code s :: H) w :=
  St.mkExi (a, h) (St.unsep (St.addPur hp hw))
theorem V.srcK {c : Code} (h : ∀ a h : Nat, a ≤ code.length → h < 18446744073709551616 → V P N w0 c Q σ (Blk s [.slice cA code.length cc, .int .i64 (a : Int), .int .u64 (h : Int)] T :: H)) : V P N w0 c Q σ (SrcK T cA cc code s :: H) := by
  intro w hw
  obtain ⟨a, h', h1, h2⟩ := SrcK.elim hw
  exact h a h' h1.1 h1.2 w h2
end
end Go.Vc
/-
  Plain words: systems that are drawn: their blocks are blocks.
-/
namespace Go.Vc
open Go
/-- A list of blocks on 3 to 15 points. -/
def DrS (n : Nat) (v : Int) (bs : List B3) : Prop := (3 ≤ v ∧ v ≤ 15) ∧ (∀ b ∈ bs, good v b) ∧ bs.length ≤ n
theorem DrS.mono {n m : Nat} {v : Int} {bs : List B3} (h : DrS n v bs) (hm : n ≤ m) : DrS m v bs := ⟨h.1, h.2.1, Nat.le_trans h.2.2 hm⟩
theorem DrS.perm {n : Nat} {v : Int} {bs cs : List B3} (h : DrS n v bs) (hp : cs.Perm bs) : DrS n v cs := ⟨h.1, fun b hb => h.2.1 b (hp.mem_iff.1 hb), by rw [hp.length_eq]; exact h.2.2⟩
theorem DrS.g15 {n : Nat} {v : Int} {bs : List B3} (h : DrS n v bs) : ∀ b ∈ bs, good 15 b := fun b hb => (h.2.1 b hb).mono h.1.2
/-- The numbers below n, each once. -/
def OrdP (n : Int) (p : List Int) : Prop := (p.length : Int) = n ∧ p.Nodup ∧ ∀ q ∈ p, 0 ≤ q ∧ q < n
theorem ord_nil : OrdP 0 [] := ⟨rfl, List.nodup_nil, fun q h => by simp at h⟩
theorem ord_ins {p : List Int} {k i : Nat} (h : OrdP (i : Int) p) : OrdP ((i + 1 : Nat) : Int) (p.take k ++ [(i : Int)] ++ p.drop k) := by
  have hp : (p.take k ++ [(i : Int)] ++ p.drop k).Perm ((i : Int) :: p) := by
    rw [List.append_assoc]
    have h1 : (p.take k ++ ([(i : Int)] ++ p.drop k)).Perm ((i : Int) :: (p.take k ++ p.drop k)) := List.perm_middle
    rwa [List.take_append_drop] at h1
  refine ⟨?_, ?_, fun q hq => ?_⟩
  · have h1 := h.1
    have h2 := hp.length_eq
    rw [List.length_cons] at h2
    omega
  · rw [hp.nodup_iff, List.nodup_cons]
    exact ⟨fun hm => by have := (h.2.2 _ hm).2; omega, h.2.1⟩
  · rcases List.mem_cons.1 (hp.mem_iff.1 hq) with rfl | hq
    · omega
    · have := h.2.2 q hq; omega
theorem good_bk3 {v a b c : Int} (ha : 0 ≤ a ∧ a < v) (hb : 0 ≤ b ∧ b < v) (hc : 0 ≤ c ∧ c < v) (h1 : a ≠ b) (h2 : a ≠ c) (h3 : b ≠ c) : good v (bk3 a b c) := by
  unfold good bk3 mi3 lo3 hi3
  simp only
  omega
theorem ord_ne {n : Int} {p : List Int} (h : OrdP n p) {i j : Nat} (hi : i < p.length) (hj : j < p.length) (hij : i ≠ j) : p[i] ≠ p[j] := fun e => hij ((List.getElem_inj h.2.1).1 e)
theorem ord_at {n : Int} {p : List Int} (h : OrdP n p) {i : Nat} (hi : i < p.length) : 0 ≤ p[i] ∧ p[i] < n := h.2.2 _ (List.getElem_mem hi)
theorem good_ren {v : Int} {p : List Int} (h : OrdP v p) {b : B3} (hb : good v b) : good v (renB p b) := by
  have hl := h.1
  unfold good at hb
  unfold renB
  rw [getD_at (by omega), getD_at (by omega), getD_at (by omega)]
  exact good_bk3 (ord_at h _) (ord_at h _) (ord_at h _) (ord_ne h _ _ (by omega)) (ord_ne h _ _ (by omega)) (ord_ne h _ _ (by omega))
theorem DrS.ren {n : Nat} {v : Int} {bs cs : List B3} {p : List Int} (h : DrS n v bs) (ho : OrdP v p) (hp : cs.Perm (bs.map (renB p))) : DrS n v cs := by
  refine ⟨h.1, fun b hb => ?_, by rw [hp.length_eq, List.length_map]; exact h.2.2⟩
  obtain ⟨d, hd, rfl⟩ := List.mem_map.1 (hp.mem_iff.1 hb)
  exact good_ren ho (h.2.1 d hd)
theorem third_good {v : Int} {bs : List B3} (hg : ∀ d ∈ bs, good v d) {a b : Int} (hab : a ≠ b) (h : ¬ third bs a b < 0) : (0 ≤ third bs a b ∧ third bs a b < v) ∧ third bs a b ≠ a ∧ third bs a b ≠ b := by
  unfold third at *
  split at h
  · exact absurd (by decide) h
  · rename_i hn
    rw [if_neg hn]
    unfold num at *
    obtain ⟨i, hi, q1, q2, _⟩ := idxP_at (p := fun c => has c a ∧ has c b) (xs := bs) (fun e => hn (by rw [e]; decide))
    rw [q1] at h ⊢
    rw [blk_get hi] at h ⊢
    have hgi := hg _ (List.getElem_mem hi)
    unfold good at hgi
    unfold has at q2
    omega
theorem DrS.cut {n : Nat} {v : Int} {bs cs : List B3} (h : DrS n v bs) {i : Nat} (hc : cs = bs.take i ++ bs.drop (i + 1)) : DrS n v cs := by
  subst hc
  refine ⟨h.1, fun b hb => ?_, ?_⟩
  · rcases List.mem_append.1 hb with hb | hb
    · exact h.2.1 b (List.mem_of_mem_take hb)
    · exact h.2.1 b (List.mem_of_mem_drop hb)
  · have := h.2.2
    rw [List.length_append, List.length_take, List.length_drop]
    omega
/-- The names of systems. -/
def nmL : List ByteArray := [ByteArray.mk #[115, 105, 110, 103, 108, 101], ByteArray.mk #[102, 97, 110, 111], ByteArray.mk #[97, 102, 102, 105, 110, 101], ByteArray.mk #[99, 121, 99, 108, 105, 99, 49, 51], ByteArray.mk #[99, 121, 99, 108, 105, 99, 49, 53], ByteArray.mk #[112, 114, 111, 106, 101, 99, 116, 105, 118, 101, 49, 53]]
theorem good_snoc {v : Int} {bs : List B3} (h : ∀ b ∈ bs, good v b) {d : B3} (hd : good v d) : ∀ b ∈ bs ++ [d], good v b := fun b hb => by
  rcases List.mem_append.1 hb with hb | hb
  · exact h b hb
  · rw [List.mem_singleton.1 hb]; exact hd
section
variable {P : Program} {w0 w : World} {H : List Assn} {σ : Sig} {o : Oper} {T T2 : TypeId} {x y : Operand} {m n : Nat}
theorem xor_lt {m n : Nat} (h : m < 9223372036854775808) (h' : n < 9223372036854775808) : m ^^^ n < 9223372036854775808 := Nat.xor_lt_two_pow (n := 63) h h'
theorem Pu.xor {k : IntKind} (hk : K64 k) (hm : m < 9223372036854775808) (hn : n < 9223372036854775808) (ho : o.op = .binOp .xor T x y T2) (hx : ev σ x = some (.int k (m : Int))) (hy : ev σ y = some (.int k (n : Int))) : Pu P w0 o σ H (.int k ((m ^^^ n : Nat) : Int)) :=
  Pu.bin ho hx hy fun w => by
    have h1 : (BitVec.ofInt k.bits (m : Int) ^^^ BitVec.ofInt k.bits (n : Int)).toNat = m ^^^ n := by
      rw [BitVec.toNat_xor, ofInt_nat (by rw [hk.bits]; omega), ofInt_nat (by rw [hk.bits]; omega)]
    simp only [Go.binOp, Op.intBits, h1, hk.wrap (xor_lt hm hn), ne_eq, not_true, if_false]
    rfl
end
end Go.Vc
/-
  The calculus, part 26: bytes as a statement's argument.
-/
namespace Go.Vc
open Go Go.RowKit Go.ChangeShapes Go.WideShapes
section
variable {H : Type} {enc : TypeId × Value → H} {P : Program} {w : World} {base : Nat} {spare : Nat → Bool} {held : Bool}
theorem open_bytes {t e : TypeId} {fuel : Nat} {cs : List Value} {x : DataW H × List MemPlace} (ht : P.underlying t = some (.slice e)) (he : P.underlying e = some (.int .u8)) (ce : P.cellsOf e = 1)
    (h : DataW.trod enc P w base spare held fuel t cs = some x) : ∃ (A : Option Addr) (c : Nat) (bs : List UInt8), cs = [.slice A bs.length c] ∧ bs.length ≤ 9223372036854775807 ∧ Rd U8C w A bs := by
  rcases Deep.open_slice ht h with ⟨rfl, _⟩ | ⟨a, len, cap, m, n, D, Pl, rfl, hb, hl, hm, hmm, _, hx⟩
  · exact ⟨none, 0, [], rfl, by simp, Rd.nil _ _ _⟩
  · have hlm : len ≤ m := by rw [hmm]; split <;> omega
    have each : ∀ i, i < len → ∃ b : UInt8, w.cells? base (a.add (i * U8C.sz)) U8C.sz = some (U8C.enc b) := by
      intro j hj
      obtain ⟨cs', h1, h2⟩ := hx j (by omega)
      obtain ⟨n, e0, _, hv⟩ := DataW.trod_int he h2
      subst e0
      simp [Lit.wf, IntKind.min, IntKind.max, IntKind.signed, IntKind.bits] at hv
      rw [ce] at h1
      refine ⟨UInt8.ofNat n.toNat, ?_⟩
      have e : ((UInt8.ofNat n.toNat).toNat : Int) = n := by
        rw [UInt8.toNat_ofNat']
        omega
      have e2 : U8C.enc (UInt8.ofNat n.toNat) = [.int .u8 n] := by
        show [Value.int .u8 ((UInt8.ofNat n.toNat).toNat : Int)] = _
        rw [e]
      rw [e2]
      exact h1
    obtain ⟨bs, hbl, hr⟩ := rd_of_cells each
    subst hbl
    simp only [maxLen] at hm
    exact ⟨some a, cap, bs, rfl, by omega, hr⟩
end
end Go.Vc
/-
  Plain words: how many completions there can be; which systems' completions are asked for.
-/
namespace Go.Vc
/-- A bound of the number of completions by n blocks. -/
def cbF : Nat → Nat
  | 0 => 1
  | n + 1 => min 13 ((3 * n + 2) / 2) * cbF n
section
variable {v m a b k n : Nat}
end
/-! ### Up to most of them -/
/-! ### Codes -/
def told (v : Int) : Prop := v = 3 ∨ v = 7 ∨ v = 9 ∨ v = 13 ∨ v = 15
instance (v : Int) : Decidable (told v) := inferInstanceAs (Decidable (_ ∨ _))
def missN (v : Int) (bs : List B3) : Int := v * (v - 1) / 6 - bs.length
/-- The code of the missing number. -/
noncomputable def mnC (v : Int) (bs : List B3) : Int := if STS v bs then if told v then 0 else 5 else 1
/-- The code of completions. -/
noncomputable def cpC (v : Int) (bs : List B3) : Int := if STS v bs then if told v then if 12 < missN v bs then 3 else 0 else 5 else 1
section
variable {v : Int} {bs : List B3}
/-- The completions of a system, each as the blocks that are put in. -/
noncomputable def cmpl (v : Int) (bs : List B3) : List (List B3) := compM 40 v.toNat (maskB 0 bs)
/-- Each of the first lists is one of the second ones, in order. -/
def RelS (l cs : List (List B3)) : Prop := cs.length = l.length ∧ ∀ i (h1 : i < l.length) (h2 : i < cs.length), (cs[i]).Perm l[i] ∧ SrtB cs[i]
end
end Go.Vc
/-
  Plain words: families of systems of nine points that are apart, each system as the bits of its blocks.
-/
namespace Go.Vc
/-! ### Bits -/
/-- The first bit that is not set. -/
def pivD (D : Nat) : Nat := ((List.range 84).find? fun n => !D.testBit n).getD 84
theorem pivD_spec {D n : Nat} (hn : n < 84) (h1 : D.testBit n = false) : pivD D ≤ n ∧ D.testBit (pivD D) = false ∧ ∀ j, j < pivD D → D.testBit j = true := by
  obtain ⟨m, hm⟩ : ∃ m, (List.range 84).find? (fun n => !D.testBit n) = some m := by
    cases h : (List.range 84).find? (fun n => !D.testBit n) with
    | some m => exact ⟨m, rfl⟩
    | none =>
      rw [List.find?_eq_none] at h
      have := h n (List.mem_range.2 hn)
      rw [h1] at this
      simp at this
  have e : pivD D = m := by unfold pivD; rw [hm]; rfl
  rw [List.find?_range_eq_some] at hm
  rw [e]
  refine ⟨?_, by simpa using hm.1, fun j hj => by simpa using hm.2.2 j hj⟩
  apply Decidable.byContradiction
  intro hc
  have := hm.2.2 n (by omega)
  rw [h1] at this
  simp at this
theorem land_bits {a b : Nat} : a &&& b = 0 ↔ ∀ j, ¬ (a.testBit j = true ∧ b.testBit j = true) := by
  constructor
  · intro h j hj
    have h2 : (a &&& b).testBit j = true := by rw [Nat.testBit_and, hj.1, hj.2]; rfl
    rw [h, Nat.zero_testBit] at h2
    cases h2
  · intro h
    apply Nat.eq_of_testBit_eq
    intro j
    rw [Nat.testBit_and, Nat.zero_testBit]
    have := h j
    cases ha : a.testBit j <;> cases hb : b.testBit j <;> simp_all
/-! ### How many bits -/
def onesR (n D : Nat) : Nat := ((List.range n).filter fun j => D.testBit j).length
theorem ones_or {a b : Nat} (h : a &&& b = 0) (n : Nat) : onesR n (a ||| b) = onesR n a + onesR n b := by
  unfold onesR
  have hb := land_bits.1 h
  induction n with
  | zero => rfl
  | succ n ih =>
    rw [List.range_succ, List.filter_append, List.filter_append, List.filter_append, List.length_append, List.length_append, List.length_append, ih]
    have := hb n
    simp only [List.filter_cons, List.filter_nil, Nat.testBit_or]
    cases ha : a.testBit n <;> cases hbb : b.testBit n <;> simp_all <;> omega
theorem ones_not {D n : Nat} (h : onesR n D < n) : ∃ j, j < n ∧ D.testBit j = false := by
  apply Classical.byContradiction
  intro hc
  have h1 : ∀ j, j < n → D.testBit j = true := by
    intro j hj
    cases hd : D.testBit j with
    | true => rfl
    | false => exact absurd ⟨j, hj, hd⟩ hc
  have h2 : (List.range n).filter (fun j => D.testBit j) = List.range n := List.filter_eq_self.2 fun j hj => h1 j (List.mem_range.1 hj)
  unfold onesR at h
  rw [h2, List.length_range] at h
  omega
/-! ### The families -/
/-- What is asked of the systems: each has one of the first seven bits, in this order, and 12 of 84 bits. -/
structure Nines (ms : List Nat) : Prop where
  len : ms.length = 840
  lt : ∀ i (h : i < ms.length), ms[i] < 2 ^ 84
  piv : ∀ i (h : i < ms.length), ms[i] % 128 = 2 ^ (i / 120)
  ones : ∀ i (h : i < ms.length), onesR 84 ms[i] = 12
  dif : ms.Nodup
/-- Systems that go on: the next one has the first bit that is missing, and is apart. -/
def nextF (D S : Nat) : Prop := S.testBit (pivD D) = true ∧ S &&& D = 0
instance (D S : Nat) : Decidable (nextF D S) := inferInstanceAs (Decidable (_ ∧ _))
def famT (ms : List Nat) : Nat → List Int → Nat → List (List Int)
  | 0, now, D => [now]
  | k + 1, now, D => (List.range ms.length).flatMap fun i => if nextF D (ms.getD i 0) then famT ms k (now ++ [(i : Int)]) (D ||| ms.getD i 0) else []
/-- What is there, when k systems are missing. -/
structure Fam (k D : Nat) : Prop where
  k6 : k ≤ 6
  lt : D < 2 ^ 84
  o7 : onesR 7 D = 7 - k
  o84 : onesR 84 D = 12 * (7 - k)
section
variable {ms : List Nat} {D k i j n : Nat} {now : List Int}
theorem mod_bit {a : Nat} (hj : j < 7) : a.testBit j = (a % 128).testBit j := by
  rw [show (128 : Nat) = 2 ^ 7 from rfl, Nat.testBit_mod_two_pow]
  simp [hj]
theorem Nines.bit (h : Nines ms) (hi : i < ms.length) (hj : j < 7) : ms[i].testBit j = decide (j = i / 120) := by
  rw [mod_bit hj, h.piv i hi, Nat.testBit_two_pow]
  by_cases e : i / 120 = j
  · simp [e]
  · simp [e, Ne.symm e]
theorem ones7_mod {a : Nat} : onesR 7 a = onesR 7 (a % 128) := by
  unfold onesR
  congr 1
  apply List.filter_congr
  intro j hj
  exact mod_bit (List.mem_range.1 hj)
theorem ones7_pow : ∀ c, c < 7 → onesR 7 (2 ^ c) = 1 := by decide
theorem Nines.o7 (h : Nines ms) (hi : i < ms.length) : onesR 7 ms[i] = 1 := by
  rw [ones7_mod, h.piv i hi]
  exact ones7_pow _ (by have := h.len; omega)
theorem Fam.piv (h : Fam k D) (hk : 0 < k) : pivD D < 7 ∧ D.testBit (pivD D) = false ∧ ∀ j, j < pivD D → D.testBit j = true := by
  have h1 := h.o7
  obtain ⟨j, hj, hb⟩ := ones_not (n := 7) (D := D) (by omega)
  have := pivD_spec (by omega : j < 84) hb
  exact ⟨by omega, this.2⟩
theorem Fam.step (hn : Nines ms) (h : Fam (k + 1) D) (hi : i < ms.length) (hx : nextF D ms[i]) : Fam k (D ||| ms[i]) := by
  have hand : D &&& ms[i] = 0 := by rw [Nat.and_comm]; exact hx.2
  have hk := h.k6
  have h7 := h.o7
  have h8 := h.o84
  have h9 := hn.o7 hi
  have h10 := hn.ones i hi
  refine ⟨by omega, Nat.or_lt_two_pow h.lt (hn.lt i hi), ?_, ?_⟩
  · rw [ones_or hand]; omega
  · rw [ones_or hand]; omega
/-! ### How many -/
/-- Of the systems with a bit, those that are apart from a system are 32 at most. -/
def Few32 (ms : List Nat) : Prop := ∀ X ∈ ms, ∀ n, n < 7 → (ms.filter fun S => S.testBit n && (S &&& X == 0)).length ≤ 32
end
end Go.Vc
