/-
  The calculus and plain words, part 4.
-/
import Derived.Test.YtgjfcepnkllklaaGreatKa3
import Derived.Shelf.SlSortCmp.NoneTotal
import Derived.Shelf.SortM.Plain
import Derived.Shelf.SortM.SortNone
import Derived.Laws.OwnMore
set_option linter.unusedVariables false
set_option linter.unusedSimpArgs false
/-
  Plain words: blocks in order, by insertion.
-/
namespace Go.Vc
def leB (a b : B3) : Prop := ¬ B3.lt b a
theorem leB_trans {a b c : B3} (h1 : leB a b) (h2 : leB b c) : leB a c := by unfold leB B3.lt at *; omega
theorem leB_of {a b : B3} (h : B3.lt a b) : leB a b := by unfold leB B3.lt at *; omega
theorem leB_anti {a b : B3} (h1 : leB a b) (h2 : leB b a) : a = b := by
  obtain ⟨a1, a2, a3⟩ := a
  obtain ⟨b1, b2, b3⟩ := b
  unfold leB B3.lt at *
  simp only at *
  have e1 : a1 = b1 := by omega
  have e2 : a2 = b2 := by omega
  have e3 : a3 = b3 := by omega
  rw [e1, e2, e3]
def SrtB (l : List B3) : Prop := l.Pairwise leB
theorem ins_perm {l : List B3} {b : B3} {y : Nat} : (l.take y ++ b :: l.drop y).Perm (l ++ [b]) := by
  refine List.perm_middle.trans ?_
  rw [List.take_append_drop]
  exact (List.perm_append_comm (l₁ := [b])).trans (List.Perm.refl _)
theorem ins_sorted {l : List B3} {b : B3} {y : Nat} (hs : SrtB l) (hy : y ≤ l.length) (h1 : ∀ j (hj : j < l.length), y ≤ j → B3.lt b l[j]) (h2 : ∀ (h0 : 0 < y), ¬ B3.lt b (l[y - 1]'(by omega))) : SrtB (l.take y ++ b :: l.drop y) := by
  have hp := List.pairwise_iff_getElem.1 hs
  unfold SrtB
  rw [List.pairwise_append, List.pairwise_cons]
  have hd : ∀ x ∈ l.drop y, B3.lt b x := by
    intro x hx
    obtain ⟨j, hj, rfl⟩ := List.getElem_of_mem hx
    rw [List.length_drop] at hj
    rw [List.getElem_drop]
    exact h1 (y + j) (by omega) (by omega)
  have ht : ∀ x ∈ l.take y, leB x b := by
    intro x hx
    obtain ⟨j, hj, rfl⟩ := List.getElem_of_mem hx
    rw [List.length_take] at hj
    rw [List.getElem_take]
    have h3 := h2 (by omega)
    by_cases e : j = y - 1
    · subst e; exact h3
    · exact leB_trans (hp j (y - 1) (by omega) (by omega) (by omega)) h3
  refine ⟨hs.sublist (List.take_sublist _ _), ⟨fun x hx => leB_of (hd x hx), hs.sublist (List.drop_sublist _ _)⟩, fun x hx z hz => ?_⟩
  rcases List.mem_cons.1 hz with rfl | hz
  · exact ht x hx
  · exact leB_trans (ht x hx) (leB_of (hd z hz))
theorem srtB_unique : ∀ {l m : List B3}, SrtB l → SrtB m → l.Perm m → l = m := by
  intro l
  induction l with
  | nil => intro m _ _ h; exact (List.Perm.nil_eq h)
  | cons a l ih =>
    intro m h1 h2 h
    cases m with
    | nil => exact absurd h.length_eq (by simp)
    | cons b m =>
      obtain ⟨ha, hl⟩ := List.pairwise_cons.1 h1
      obtain ⟨hb, hm⟩ := List.pairwise_cons.1 h2
      have e : a = b := by
        rcases List.mem_cons.1 (h.mem_iff.1 (List.mem_cons_self ..)) with e | e
        · exact e
        · rcases List.mem_cons.1 (h.mem_iff.2 (List.mem_cons_self ..)) with e' | e'
          · exact e'.symm
          · exact leB_anti (ha b e') (hb a e)
      subst e
      rw [ih hl hm (List.Perm.cons_inv h)]
end Go.Vc
/-
  The calculus, part 18: a search for completions that keeps or counts them.
-/
namespace Go.Vc
open Go Go.RowKit
section
variable {v m a b c n p k : Nat} {U : List Bool}
/-- The pairs that are used, by their numbers. -/
def RelU (v : Nat) (U : List Bool) (m : Nat) : Prop := U.length = 256 ∧ ∀ x y : Nat, x < v → y < v → x ≠ y → U.getD (prI x y) false = usd m x y
/-- What the loops for the first pair have found. -/
def Fnd (v m : Nat) (a b : Int) (p : Nat) : Prop := (a = -1 ∧ b = -1 ∧ p ≤ v ∧ ∀ i j, i < p → i < j → j < v → usd m i j = true) ∨ ∃ x y : Nat, a = x ∧ b = y ∧ IsNext v m x y
variable {most : Nat} {α : Type}
end
section
variable {P : Program} {N : Nat} {w0 w : World} {Q : Exit → Act → World → Prop} {σ : Sig} {H H' : List Assn} {ops : Array Oper} {rest : List Oper}
/-- A search: its cells, the pairs that are used, what it has found; what has been counted, l. -/
def SrchK (T uT fT bT : TypeId) (sb v most : Nat) (keep : Bool) (m : Nat) (l : List (List B3)) : Assn :=
  .exi fun q : ((Option Addr × Nat) × List Bool) × (Option Addr × Nat) × List (Sl × List B3) => .sep (.pur (RelU v q.1.2 m ∧ (conts q.2.2 = if keep then l else []) ∧ ∀ p ∈ q.2.2, p.1.A.isSome = true))
    (.sep (Blk sb [.int .i64 (v : Int), .slice q.1.1.1 q.1.2.length q.1.1.2, .int .i64 (l.length : Int), .int .i64 (most : Int), .bool keep, .slice q.2.1.1 (tops q.2.2).length q.2.1.2] T)
      (.sep (Own uT BoolC q.1.1.1 q.1.1.2 q.1.2) (.sep (Own fT SlC q.2.1.1 q.2.1.2 (tops q.2.2)) (RowsA bT B3C q.2.2))))
variable {T uT fT bT : TypeId} {sb v most m : Nat} {keep : Bool} {l : List (List B3)}
theorem SrchK.elim (hw : St w0 (SrchK T uT fT bT sb v most keep m l :: H) w) : ∃ uA uk U fA fk ps, RelU v U m ∧ conts ps = (if keep then l else []) ∧ (∀ p ∈ ps, p.1.A.isSome = true) ∧
    St w0 (Blk sb [.int .i64 (v : Int), .slice uA U.length uk, .int .i64 (l.length : Int), .int .i64 (most : Int), .bool keep, .slice fA (tops ps).length fk] T :: Own uT BoolC uA uk U :: Own fT SlC fA fk (tops ps) :: RowsA bT B3C ps :: H) w := by
  obtain ⟨q, hw⟩ := hw.exi
  have h1 := hw.sep.pur
  refine ⟨q.1.1.1, q.1.1.2, q.1.2, q.2.1.1, q.2.1.2, q.2.2, h1.1.1, h1.1.2.1, h1.1.2.2, ?_⟩
  have h2 := h1.2.sep
  have h3 := (h2.perm (List.Perm.swap _ _ _)).sep
  have h5 := (h3.perm (List.Perm.swap _ _ _)).sep
  exact (h5.sub (Sub.keep 3 rfl (Sub.keep 2 rfl (Sub.keep 0 rfl (Sub.keep 0 rfl (Sub.refl _))))))
theorem SrchK.mk {uA fA : Option Addr} {uk fk : Nat} {U : List Bool} {ps : List (Sl × List B3)} (hr : RelU v U m) (hc : conts ps = if keep then l else []) (hso : ∀ p ∈ ps, p.1.A.isSome = true)
    (hw : St w0 (Blk sb [.int .i64 (v : Int), .slice uA U.length uk, .int .i64 (l.length : Int), .int .i64 (most : Int), .bool keep, .slice fA (tops ps).length fk] T :: Own uT BoolC uA uk U :: Own fT SlC fA fk (tops ps) :: RowsA bT B3C ps :: H) w) : St w0 (SrchK T uT fT bT sb v most keep m l :: H) w := by
  refine St.mkExi (((uA, uk), U), (fA, fk), ps) (St.unsep (St.addPur ⟨hr, hc, hso⟩ ?_))
  have h1 : St w0 (Own fT SlC fA fk (tops ps) :: RowsA bT B3C ps :: Own uT BoolC uA uk U :: Blk sb [.int .i64 (v : Int), .slice uA U.length uk, .int .i64 (l.length : Int), .int .i64 (most : Int), .bool keep, .slice fA (tops ps).length fk] T :: H) w := hw.sub (Sub.keep 2 rfl (Sub.keep 2 rfl (Sub.keep 1 rfl (Sub.keep 0 rfl (Sub.refl _)))))
  have h2 := (St.unsep h1).perm (List.Perm.swap _ _ _)
  have h3 := (St.unsep h2).perm (List.Perm.swap _ _ _)
  exact St.unsep h3
end
end Go.Vc
/-
  The calculus, part 19: fields of a list's elements.
-/
namespace Go.Vc
open Go Go.RowKit
section
variable {P : Program} {w0 w : World} {σ : Sig} {H H' : List Assn} {o : Oper} {v : Int}
end
end Go.Vc
/-
  Plain words: the first system that is apart; how many blocks are common.
-/
namespace Go.Vc
/-- No block in common. -/
def ApartB (bs q : List B3) : Prop := ∀ b ∈ bs, b ∉ q
instance (bs q : List B3) : Decidable (ApartB bs q) := inferInstanceAs (Decidable (∀ b ∈ bs, b ∉ q))
/-- The first of all systems that is apart. -/
noncomputable def firstA (v : Int) (bs : List B3) : Option (List B3) := (allN v).find? fun q => decide (ApartB bs q)
/-- What both FirstApart return. -/
noncomputable def apR (v : Int) (bs : List B3) : Int × List B3 × Int :=
  if STS v bs then if Few v bs then match firstA v bs with | some q => (v, q, 0) | none => (0, [], 4) else (0, [], 5) else (0, [], 1)
/-- How many of the first i lists have q blocks of bs, for each q. -/
def cntC (bs : List B3) (ls : List (List B3)) (n i : Nat) : List Int := (List.range n).map fun q => (((ls.take i).filter fun y => decide ((bs.filter fun b => decide (b ∈ y)).length = q)).length : Int)
section
variable {bs : List B3} {ls : List (List B3)} {n i : Nat}
end
/-- What both CommonNumbers return. -/
noncomputable def cmR (v : Int) (bs : List B3) : List Int × Int :=
  if STS v bs then if Few v bs then (cntC bs (allN v) (bs.length + 1) (allN v).length, 0) else ([], 5) else ([], 1)
section
variable {w0 w : World} {H : List Assn} {α : Type} {T : TypeId} {C : Cod α}
/-- One row is kept. -/
theorem RowsA.out {ps : List (Sl × List α)} {k : Nat} (hk : k < ps.length) (hw : St w0 (RowsA T C ps :: H) w) : St w0 (Own T C (ps[k]).1.A (ps[k]).1.c (ps[k]).2 :: H) w := by
  have e : ps = ps.take k ++ ps[k] :: ps.drop (k + 1) := by
    rw [← List.drop_eq_getElem_cons hk, List.take_append_drop]
  have hp : ps.Perm (ps[k] :: (ps.take k ++ ps.drop (k + 1))) := by
    conv => lhs; rw [e]
    exact List.perm_middle
  have h1 := RowsA.perm hp hw
  exact ((RowsA.uncons (s := (ps[k]).1) (xs := (ps[k]).2) h1).2).sub (Sub.keep 0 rfl (Sub.drop (Sub.refl _)))
end
end Go.Vc
/-
  The calculus, part 19: two results, the first of which lies in memory; the marks of blocks.
-/
namespace Go.Vc
open Go Go.RowKit
section
variable {P : Program} {N : Nat} {w0 w : World} {Q : Exit → Act → World → Prop} {σ : Sig} {H H' : List Assn}
theorem X.retCell2 {fn : Func} {t s n : Nat} {T : TypeId} {p : Option Addr} {cs : List Value} {u : Value} {R : Value → List Assn} (hr : fn.results = #[.cell t T, .tmp s]) (hT : aggT P T = true) (hz : Sz P T n) (hl : cs.length = n) (ht : look σ t = some (.pointer p)) (hs' : look σ s = some u)
    (hc : ∀ w, St w0 H w → ∃ q, p = some q ∧ ∀ j u, cs[j]? = some u → w.cell? (q.add j) = some u) (hs : ∀ w, St w0 H w → St w0 (R (.tuple #[.agg cs.toArray, u])) w) :
    X N w0 (bodyPost P fn (fun e w' => ∃ v, e = .returned v ∧ St w0 (R v) w')) .ret σ H := by
  intro w hw a ha
  refine ⟨ha.defers, .tuple #[.agg cs.toArray, u], ?_, _, rfl, hs w hw⟩
  have h1 := ha.look_ t _ ht
  have h2 := ha.look_ s _ hs'
  obtain ⟨q, rfl, hq⟩ := hc w hw
  subst hl
  have hrn := run_loadCells_list (P := P) (w := w) q cs hq
  simp [results, hr, h1, h2, asAddr, loadVar, run_isAgg_t hT, run_sz hz, hrn]
end
section
variable {w0 : World} {H : List Assn}
end
/-- Two strings are equal, or not. -/
theorem Pu.eqlStr {P : Program} {w0 : World} {H : List Assn} {σ : Sig} {o : Oper} {T T2 : TypeId} {x y : Operand} {s t : ByteArray} {b : Bool} (hb : (s.toList == t.toList) = b) (ho : o.op = .binOp .eql T x y T2) (hx : ev σ x = some (.string s)) (hy : ev σ y = some (.string t)) : Pu P w0 o σ H (.bool b) := by
  subst hb
  intro w hw a ha
  have h1 := ha x (by simp [ho, Op.operands]) _ hx
  have h2 := ha y (by simp [ho, Op.operands]) _ hy
  have he : (eqGuard .eql T x y (.string s) (.string t)).run P w = .ok () w := by
    unfold eqGuard
    simp
  simp [execOp, ho, h1, h2, he, Go.binOp, Op.stringOp]
/-- The marks of n blocks. -/
def marksB (m : Int) (n : Nat) : List B3 := (List.range n).map fun i : Nat => (m + 3 * (i : Int), m + 3 * (i : Int) + 1, m + 3 * (i : Int) + 2)
def markBAt (xs : List B3) (m : Int) (k : Nat) : List B3 := marksB m k ++ xs.drop k
end Go.Vc
/-
  Plain words: parts that fix a system.
-/
namespace Go.Vc
instance (a b : B3) : Decidable (leB a b) := inferInstanceAs (Decidable (¬ _))
section
variable {v m n : Nat}
theorem usd_put_false {a b c x y : Nat} (ha : a < 16) (hb : b < 16) (hc : c < 16) (hx : x < 16) (hy : y < 16) (h : usd (putM m a b c) x y = false) : usd m x y = false := by
  cases hh : usd m x y with
  | false => rfl
  | true =>
    have := (usd_put (m := m) ha hb hc hx hy).2 (.inl hh)
    rw [this] at h
    cases h
/-- What a completion is. -/
theorem comp_rest : ∀ n v m (q : List B3), v ≤ 15 → q ∈ compM n v m → Rest v m q := by
  intro n
  induction n with
  | zero =>
    intro v m q hv hq
    rcases mem_comp hq with ⟨rfl, _⟩ | ⟨k, a, b, c, r, hk, _⟩
    · exact ⟨fun _ h => by simp at h, fun _ h => by simp at h, List.Pairwise.nil, List.Pairwise.nil⟩
    · omega
  | succ n ih =>
    intro v m q hv hq
    have hs := comp_sorted _ _ _ _ hv hq
    rcases mem_comp hq with ⟨rfl, _⟩ | ⟨k, a, b, c, r, hk, hn, hc, hm, hr, rfl⟩
    · exact ⟨fun _ h => by simp at h, fun _ h => by simp at h, List.Pairwise.nil, List.Pairwise.nil⟩
    · obtain rfl : n = k := by omega
      have hI := next_spec hn
      have hab := hI.ab
      have hbv := hI.bv
      obtain ⟨h1, h2, h3⟩ := may_spec hm
      have h := ih _ _ _ hv hr
      refine ⟨fun d hd => ?_, fun d hd => ?_, hs, List.pairwise_cons.2 ⟨fun d hd => ?_, h.fit⟩⟩
      · rcases List.mem_cons.1 hd with rfl | hd
        · exact ⟨a, b, c, rfl, hab, h1, hc⟩
        · exact h.ok d hd
      · rcases List.mem_cons.1 hd with rfl | hd
        · exact ⟨a, b, c, rfl, hab, h1, hI.left, h2, h3⟩
        · obtain ⟨x, y, z, rfl, hx, hy, u1, u2, u3⟩ := h.opn d hd
          obtain ⟨x', y', z', e, _, _, hz⟩ := h.ok _ hd
          obtain ⟨rfl, rfl, rfl⟩ := b3N_inj e
          exact ⟨x, y, z, rfl, hx, hy, usd_put_false (by omega) (by omega) (by omega) (by omega) (by omega) u1, usd_put_false (by omega) (by omega) (by omega) (by omega) (by omega) u2, usd_put_false (by omega) (by omega) (by omega) (by omega) (by omega) u3⟩
      · obtain ⟨x, y, z, rfl, hx, hy, u1, u2, u3⟩ := h.opn d hd
        obtain ⟨x', y', z', e, _, _, hz⟩ := h.ok _ hd
        obtain ⟨rfl, rfl, rfl⟩ := b3N_inj e
        rw [common_le (b3N_three hab h1)]
        have k : ∀ p q : Nat, p < q → q < v → usd (putM m a b c) p q = false → ¬ (has (b3N a b c) p ∧ has (b3N a b c) q) := fun p q h4 h5 h6 => ((usd_putN hab h1 (by omega) (by omega) (by omega) (by omega)).1 h6).2
        exact ⟨k x y hx (by omega) u1, k x z (by omega) (by omega) u2, k y z hy (by omega) u3⟩
/-- .. and that it leaves no pair. -/
theorem comp_full : ∀ n v m (q : List B3), v ≤ 15 → q ∈ compM n v m → ∀ x y, x < y → y < v → usd (maskB m q) x y = true := by
  intro n
  induction n with
  | zero =>
    intro v m q hv hq
    rcases mem_comp hq with ⟨rfl, h⟩ | ⟨k, a, b, c, r, hk, _⟩
    · exact next_none h
    · omega
  | succ n ih =>
    intro v m q hv hq
    rcases mem_comp hq with ⟨rfl, h⟩ | ⟨k, a, b, c, r, hk, hn, hc, hm, hr, rfl⟩
    · exact next_none h
    · obtain rfl : n = k := by omega
      have h := ih _ _ _ hv hr
      have e : maskB m (b3N a b c :: r) = maskB (putM m a b c) r := by
        show maskB (putB m (b3N a b c)) r = _
        rw [putB_b3N]
      rw [e]
      exact h
/-- A full system, as plain words have it. -/
structure FullS (v : Nat) (T : List B3) : Prop where
  rest : Rest v 0 T
  full : ∀ x y, x < y → y < v → ∃ d ∈ T, has d x ∧ has d y
theorem FullS.of {T : List B3} (hv : v ≤ 15) (h : T ∈ compM n v 0) : FullS v T := by
  have hr := comp_rest _ _ _ _ hv h
  refine ⟨hr, fun x y h1 h2 => ?_⟩
  rcases (usd_mask T 0 hv hr.ok x y h1 h2).1 (comp_full _ _ _ _ hv h x y h1 h2) with h3 | h3
  · rw [usd_zero] at h3; cases h3
  · exact h3
theorem Rest.sub {T Q : List B3} (h : Rest v 0 T) (hs : Q.Sublist T) : Rest v 0 Q := ⟨fun d hd => h.ok d (hs.subset hd), fun d hd => h.opn d (hs.subset hd), h.lt.sublist hs, h.fit.sublist hs⟩
end
end Go.Vc
/-
  The calculus, part 20: Go's own sorting of an owned row.
-/
namespace Go.Vc
open Go Go.RowKit
open Go.Proofs (sortWorldK CmpLays ltOf)
open Go.Sort (flatK HoldsK putRowK get_flatK size_flatK putCells putRow mapBlock onCells PermIn SortedIn SWO)
section
variable {P : Program} {α : Type} {w0 w w' : World} {H : List Assn} {T c g : Nat} {A : Option Addr} {C : Cod α} {xs ys : List α}
theorem own_cases (hw : St w0 (Own T C A c xs :: H) w) : (A = none ∧ c = 0 ∧ xs = []) ∨ ∃ g, A = some ⟨g, 0, none⟩ := by
  obtain ⟨F, ho, hF⟩ := hw.get 0 rfl
  rcases ho.2 with ⟨h1, h2⟩ | ⟨g, cap, cur, hvv, _⟩
  · injection h1 with e1 e2 e3
    exact .inl ⟨e1, e3, List.eq_nil_of_length_eq_zero h2⟩
  · injection hvv with e1
    exact .inr ⟨g, e1⟩
/-- A world that has only grown. -/
theorem Bel.grown (h : Bel w.heap.size w w') : ∃ q os', w' = Go.Sort.grow (w.drewN q) os' := by
  refine ⟨w'.drawn - w.drawn, w'.heap.extract w.heap.size w'.heap.size, ?_⟩
  have hd := h.drawn
  have hs := h.size
  have e : w'.heap = w.heap ++ w'.heap.extract w.heap.size w'.heap.size := by
    apply Array.ext_getElem?
    intro k
    by_cases hk : k < w.heap.size
    · rw [Array.getElem?_append_left hk, h.block k hk]
    · rw [Array.getElem?_append_right (by omega), Array.getElem?_extract]
      by_cases h2 : k < w'.heap.size
      · rw [if_pos (by omega)]
        congr 1
        omega
      · rw [Array.getElem?_eq_none (by omega), if_neg (by omega)]
  cases w'
  cases w
  simp only [Go.Sort.grow, World.drewN] at *
  have h1 := h.os
  have h2 := h.tape
  have h3 := h.output
  simp only at h1 h2 h3 hd
  subst h1 h2 h3
  rw [← e]
  congr 1
  omega
/-- What a comparison hands back. -/
def CmpD (P : Program) (f : Nat) (cb : Array Value) (enc : α → Value) (cf : α → α → Int) (W : World) : Prop :=
  ∀ x y : α, Does P f ([enc x, enc y] ++ cb.toList) W [] (fun v => [.pur (v = .int .i64 (cf x y))])
theorem sorted_pair [Inhabited α] {lt : α → α → Bool} {d : Array α} (h : SortedIn lt 0 d.size d) : d.toList.Pairwise fun x y => lt y x = false := by
  rw [List.pairwise_iff_getElem]
  intro i j hi hj hij
  have h1 := h i j (Nat.zero_le _) hij (by simpa using hj)
  rw [getElem!_pos d i (by simpa using hi), getElem!_pos d j (by simpa using hj)] at h1
  simpa using h1
theorem permIn_perm [Inhabited α] {d d' : Array α} (h : PermIn 0 d.size d d') : d'.toList.Perm d.toList := by
  obtain ⟨h1, _, h3⟩ := h
  have e1 : d.extract 0 d.size = d := by simp
  have e2 : d'.extract 0 d.size = d' := by rw [← h1]; simp
  rwa [e1, e2] at h3
end
end Go.Vc
/-
  The calculus, part 21: Go's own sorting of an owned row of one cell an element, and of an array of numbers.
-/
namespace Go.Vc
open Go Go.RowKit
open Go.Proofs (sortWorld CmpLays1 ltOf)
open Go.Sort (putCells putRow mapBlock onCells PermIn SortedIn SWO Holds)
section
variable {P : Program} {α : Type} {w0 w w' : World} {H : List Assn} {T c g : Nat} {A : Option Addr} {C : Cod α} {xs ys : List α} {enc : α → Value}
theorem flat1 (hC : ∀ x, C.enc x = [enc x]) : ∀ xs : List α, xs.flatMap C.enc = xs.map enc := by
  intro xs
  induction xs with
  | nil => rfl
  | cons x xs ih => rw [List.flatMap_cons, List.map_cons, hC, ih]; rfl
theorem own_holds1 [Inhabited α] (hC : ∀ x, C.enc x = [enc x]) (hz : C.sz = 1) (hw : St w0 (Own T C (some ⟨g, 0, none⟩) c xs :: H) w) : Holds enc w g 0 xs.toArray ∧ g < w.heap.size := by
  obtain ⟨F, ho, hF⟩ := hw.get 0 rfl
  rcases ho.2 with ⟨h1, h2⟩ | ⟨g', cap, cur, hvv, hbase, hh, hle, hmax, hcs, htake⟩
  · injection h1 with e1; cases e1
  · injection hvv with e1 e2 e3
    cases e1
    subst e3
    refine ⟨fun j hj => ?_, (Array.getElem?_eq_some_iff.1 hh).1⟩
    have hj' : j < xs.length := by simpa using hj
    rw [flat1 hC, hz, Nat.mul_one] at htake
    have e : cur[j]? = some (enc xs[j]) := by
      have h1 : (cur.toList.take xs.length)[j]? = cur.toList[j]? := by rw [List.getElem?_take, if_pos (by omega)]
      rw [htake, List.getElem?_map, List.getElem?_eq_getElem hj'] at h1
      rw [← Array.getElem?_toList, ← h1]
      rfl
    constructor
    · rw [getElem!_pos _ j hj]
      simp only [World.cell?, hh, Nat.zero_add, e]
      simp
    · simp [World.frozen?, hh]
theorem putCells1 [Inhabited α] {cur : Array Value} (hn : xs.length ≤ cur.size) : (putCells enc 0 xs.toArray cur).toList.take xs.length = xs.map enc := by
  apply List.ext_getElem
  · simp [putCells]; omega
  · intro j h1 h2
    simp only [List.getElem_take, Array.getElem_toList, putCells, Array.getElem_mapIdx]
    rw [if_pos ⟨Nat.zero_le _, by simpa using h2⟩, Nat.sub_zero, getElem!_pos _ j (by simpa using h2)]
    simp
theorem sort_heap [Inhabited α] {enc : α → Value} {n : Nat} {d : Array α} {os : Array Obj} {k : Nat} (hk : k < w.heap.size) : (Go.Sort.grow (putRow enc (Go.Sort.ahead w n) g 0 d) os).heap[k]? = if g = k then (w.heap[k]?).map (onCells (putCells enc 0 d)) else w.heap[k]? := by
  unfold Go.Sort.grow putRow mapBlock Go.Sort.ahead
  simp only
  rw [Array.getElem?_append_left (by simpa using hk), Array.getElem?_modify]
theorem sort_size [Inhabited α] {enc : α → Value} {n : Nat} {d : Array α} {os : Array Obj} : (Go.Sort.grow (putRow enc (Go.Sort.ahead w n) g 0 d) os).heap.size = w.heap.size + os.size := by
  unfold Go.Sort.grow putRow mapBlock Go.Sort.ahead
  simp
theorem St.sorted1 [Inhabited α] (hC : ∀ x, C.enc x = [enc x]) (hz : C.sz = 1) (hw : St w0 (Own T C (some ⟨g, 0, none⟩) c xs :: H) w) (hl : ys.length = xs.length) (n : Nat) (os : Array Obj) :
    St w0 (Own T C (some ⟨g, 0, none⟩) c ys :: H) (Go.Sort.grow (putRow enc (Go.Sort.ahead w n) g 0 ys.toArray) os) := by
  refine hw.upd ?_
  rintro F ⟨ho, hF⟩ hb
  rcases ho.2 with ⟨h1, h2⟩ | ⟨g', cap, cur, hvv, hbase, hh, hle, hmax, hcs, htake⟩
  · injection h1 with e1; cases e1
  · injection hvv with e1 e2 e3
    cases e1
    subst e3
    have hgs : g < w.heap.size := (Array.getElem?_eq_some_iff.1 hh).1
    rw [hz, Nat.mul_one] at hcs
    refine ⟨⟨rfl, rfl, rfl, by rw [sort_size]; omega, fun k hk hk' => ?_, Nat.le_add_right _ _⟩, F, ⟨⟨?_, .inr ⟨g, c, putCells enc 0 ys.toArray cur, by rw [hl], Nat.zero_le _, ?_, by omega, hmax, ?_, ?_⟩⟩, ?_⟩, ?_⟩
    · rw [sort_heap hk, if_neg (fun e => hk' ((hF k).2 (by subst e; rfl)))]
    · rw [length_flatMap_enc]
    · rw [sort_heap hgs, if_pos rfl, hh]; rfl
    · simp [putCells, hcs, hz]
    · rw [hz, Nat.mul_one, flat1 hC]
      exact putCells1 (by omega)
    · intro k
      rw [hF k]
      simp [Value.ownBlock]
    · intro k hk
      exact ⟨.inl hk, by have := (hb k hk).2; rw [sort_size]; omega⟩
/-- slices.SortFunc at elements of one cell, of which only some can be told apart by the comparison: those with p. -/
theorem sort1_does {ρ : Go.Shelf.Ren} (L : Go.Proofs.SlLaysF.n6 P ρ) (hC : ∀ x, C.enc x = [enc x]) (hz : C.sz = 1) (h1 : ∀ x, (enc x).oneCell' = true) (p : α → Prop) (hp : ∀ x ∈ xs, p x) (cf : {x // p x} → {x // p x} → Int) (hO : SWO (ltOf cf)) {f : Nat} {cb : Array Value} (hok : CallOk P f)
    (hcmp : ∀ zs W, (∀ x ∈ zs, p x) → St w0 (Own T C A c zs :: H) W → CmpD P f cb (fun x : {x // p x} => enc x.1) cf W) (hlen : xs.length < 4611686018427387904) :
    Does P (ρ.f 6) [.slice A xs.length c, .func (.func f) #[] cb] w0 (Own T C A c xs :: H) (fun v => [.exi fun ys : List α => .sep (.pur (v = .tuple #[] ∧ ys.Perm xs ∧ ys.Pairwise fun x y => ∀ hx : p x, ∀ hy : p y, ¬ cf ⟨y, hy⟩ ⟨x, hx⟩ < 0)) (Own T C A c ys)] ++ H) := by
  intro w hw
  have L0 : Go.Proofs.SlLaysF0.n6 P ρ := { L with }
  rcases own_cases hw with ⟨rfl, rfl, rfl⟩ | ⟨g, rfl⟩
  · refine (Go.Proofs.AnyF.slices_SortFunc_none L0 none 0 _ w).mono ?_
    rintro e w' ⟨rfl, rfl⟩
    exact ⟨_, rfl, St.mkExi [] (St.unsep (St.addPur ⟨rfl, List.Perm.refl _, List.Pairwise.nil⟩ hw))⟩
  · cases xs with
    | nil =>
      refine (Go.Proofs.AnyF.slices_SortFunc_none L0 (some ⟨g, 0, none⟩) c _ w).mono ?_
      rintro e w' ⟨rfl, rfl⟩
      exact ⟨_, rfl, St.mkExi [] (St.unsep (St.addPur ⟨rfl, List.Perm.refl _, List.Pairwise.nil⟩ hw))⟩
    | cons x0 xs0 =>
      generalize hxs : x0 :: xs0 = xs at *
      let _ : Inhabited α := ⟨x0⟩
      let _ : Inhabited {x // p x} := ⟨⟨x0, hp x0 (by rw [← hxs]; exact List.mem_cons_self ..)⟩⟩
      obtain ⟨ex, hex⟩ : ∃ ex : List {x // p x}, ex.map (·.1) = xs := ⟨xs.attach.map fun y => ⟨y.1, hp y.1 y.2⟩, by simp⟩
      have hexl : ex.length = xs.length := by rw [← hex]; simp
      obtain ⟨hH, hg⟩ := own_holds1 hC hz hw
      have hH' : Holds (fun x : {x // p x} => enc x.1) w g 0 ex.toArray := by
        intro j hj
        have hj1 : j < ex.length := by simpa using hj
        have hj2 : j < xs.length := by omega
        have h2 := hH j (by simpa using hj2)
        rw [getElem!_pos _ j (by simpa using hj2)] at h2
        rw [getElem!_pos _ j hj]
        have e : (ex[j]).1 = xs[j] := by subst hex; simp
        simpa [e] using h2
      have eg : ∀ args w, (callFunc f args).run P w = .ok (.enter f args) w := fun args w => run_callFunc hok args w
      have key : ∀ (m : Nat) (os : Array Obj) (dk : Array {x // p x}), putRow (fun x : {x // p x} => enc x.1) (Go.Sort.ahead w m) g 0 dk = putRow enc (Go.Sort.ahead w m) g 0 (dk.toList.map (·.1)).toArray := by
        intro m os dk
        unfold putRow
        congr 1
        funext cur
        unfold putCells
        congr 1
        funext k x
        by_cases hk : 0 ≤ k ∧ k < 0 + dk.size
        · rw [if_pos hk, if_pos (by simpa using hk)]
          rw [getElem!_pos _ _ (by simpa using hk.2), getElem!_pos _ _ (by simpa using hk.2)]
          simp
        · rw [if_neg hk, if_neg (by simpa using hk)]
      have hCL : CmpLays1 P f cb (fun x : {x // p x} => enc x.1) cf g 0 ex.toArray.size w := by
        intro m os dk hs x y
        have hs' : (dk.toList.map (·.1)).length = xs.length := by simpa [hexl] using hs
        have h1 := St.sorted1 hC hz hw hs' m os
        have e0 : sortWorld (fun x : {x // p x} => enc x.1) w g 0 m dk os = Go.Sort.grow (putRow enc (Go.Sort.ahead w m) g 0 (dk.toList.map (·.1)).toArray) os := by
          unfold sortWorld
          rw [key m os dk]
        rw [← e0] at h1
        have h2 := hcmp _ _ (fun z hz' => by obtain ⟨u, _, rfl⟩ := List.mem_map.1 hz'; exact u.2) h1 x y _ (St.start _)
        have e : ([enc x.1, enc y.1] ++ cb.toList).toArray = #[enc x.1, enc y.1] ++ cb := by
          apply Array.ext'
          simp
        rw [e] at h2
        refine h2.mono ?_
        rintro e w' ⟨v, rfl, hs3⟩
        exact ⟨by rw [hs3.pur.1], hs3.below.grown⟩
      have h := Go.Proofs.Any.slices_SortFunc L (fun x : {x // p x} => enc x.1) (fun x => h1 x.1) cf hO f cb g 0 c ex.toArray w eg hCL hH' hg (by simpa [hexl] using hlen)
      have e0 : ex.toArray.size = xs.length := by simp [hexl]
      rw [e0] at h
      refine h.mono ?_
      rintro e w' ⟨rfl, d', n, os, hpm, hs, rfl⟩
      rw [← e0] at hpm hs
      have hsz : d'.size = ex.toArray.size := hpm.1
      have hp' := permIn_perm hpm
      rw [← hsz] at hs
      have hs' := sorted_pair hs
      have e1 : sortWorld (fun x : {x // p x} => enc x.1) w g 0 n d' os = Go.Sort.grow (putRow enc (Go.Sort.ahead w n) g 0 (d'.toList.map (·.1)).toArray) os := by
        unfold sortWorld
        rw [key n os d']
      rw [e1]
      have hfin := St.sorted1 (ys := d'.toList.map (·.1)) hC hz hw (by simpa [hexl] using hsz) n os
      have hperm : (d'.toList.map (·.1)).Perm xs := by
        have := hp'.map (·.1)
        rw [show (ex.toArray).toList = ex from rfl, hex] at this
        exact this
      have hsrt : (d'.toList.map (·.1)).Pairwise fun x y => ∀ hx : p x, ∀ hy : p y, ¬ cf ⟨y, hy⟩ ⟨x, hx⟩ < 0 := by
        rw [List.pairwise_map]
        refine hs'.imp fun {a b} h hx hy => ?_
        simpa [ltOf] using h
      generalize d'.toList.map (·.1) = ys at hfin hperm hsrt
      generalize Go.Sort.grow (putRow enc (Go.Sort.ahead w n) g 0 ys.toArray) os = w2 at hfin
      exact ⟨_, rfl, St.mkExi ys (St.unsep (St.addPur ⟨rfl, hperm, hsrt⟩ hfin))⟩
/-- Numbers in order. -/
def sortI (xs : List Int) : List Int := xs.mergeSort fun x y => decide (x ≤ y)
theorem sortI_len (xs : List Int) : (sortI xs).length = xs.length := by unfold sortI; exact List.length_mergeSort _
theorem sortI_perm (xs : List Int) : (sortI xs).Perm xs := List.mergeSort_perm _ _
theorem sortI_sorted (xs : List Int) : (sortI xs).Pairwise (· ≤ ·) := by
  have h := List.pairwise_mergeSort (le := fun x y : Int => decide (x ≤ y)) (by intro a b c; simp; omega) (by intro a b; simp; omega) xs
  exact h.imp (by intro a b h; simpa using h)
theorem sortI_unique {xs ys : List Int} (hp : ys.Perm xs) (hs : ys.Pairwise (· ≤ ·)) : ys = sortI xs :=
  (hp.trans (sortI_perm xs).symm).eq_of_pairwise (fun a b _ _ h1 h2 => by omega) hs (sortI_sorted xs)
/-- slices.Sort. -/
theorem sortI_does {ρ : Go.Shelf.Ren} (L : Go.Proofs.SlLaysM.n5 P ρ) {xs : List Int} (hlen : xs.length < 4611686018427387904) :
    Does P (ρ.f 5) [.slice A xs.length c] w0 (Own T I64 A c xs :: H) (fun v => [.sep (.pur (v = .tuple #[])) (Own T I64 A c (sortI xs))] ++ H) := by
  intro w hw
  rcases own_cases hw with ⟨rfl, rfl, rfl⟩ | ⟨g, rfl⟩
  · refine (Go.Proofs.AnyM.slices_Sort_int_none L none 0 w).mono ?_
    rintro e w' ⟨rfl, rfl⟩
    have e : sortI [] = [] := by simp [sortI]
    rw [e]
    exact ⟨_, rfl, St.unsep (St.addPur rfl hw)⟩
  · obtain ⟨hH, hg⟩ := own_holds1 (enc := Value.int .i64) (fun _ => rfl) rfl hw
    refine (Go.Proofs.AnyM.slices_Sort_int L g 0 c xs w hH hg hlen).mono ?_
    rintro e w' ⟨rfl, n, os, rfl⟩
    exact ⟨_, rfl, St.unsep (St.addPur rfl (St.sorted1 (enc := Value.int .i64) (fun _ => rfl) rfl hw (sortI_len xs) n os))⟩
/-- .. of an array. -/
theorem sortI_blk {ρ : Go.Shelf.Ren} (L : Go.Proofs.SlLaysM.n5 P ρ) {xs : List Int} (hlen : xs.length < 4611686018427387904) :
    Does P (ρ.f 5) [.slice (some ⟨g, 0, none⟩) xs.length c] w0 (Blk g (xs.map (Value.int .i64)) T :: H) (fun v => [.sep (.pur (v = .tuple #[])) (Blk g ((sortI xs).map (Value.int .i64)) T)] ++ H) := by
  intro w hw
  have hh := Blk.heap hw (i := 0) rfl
  have hg : g < w.heap.size := (Array.getElem?_eq_some_iff.1 hh).1
  have hH : Holds (Value.int .i64) w g 0 xs.toArray := by
    intro j hj
    have hj' : j < xs.length := by simpa using hj
    rw [getElem!_pos _ j hj]
    constructor
    · simp [World.cell?, hh, hj']
    · simp [World.frozen?, hh]
  refine (Go.Proofs.AnyM.slices_Sort_int L g 0 c xs w hH hg hlen).mono ?_
  rintro e w' ⟨rfl, n, os, rfl⟩
  refine ⟨_, rfl, St.unsep (St.addPur rfl (hw.upd ?_))⟩
  rintro F ⟨h0, hF⟩ hb
  have hl := sortI_len xs
  refine ⟨⟨rfl, rfl, rfl, by rw [sort_size]; omega, fun k hk hk' => ?_, Nat.le_add_right _ _⟩, F, ⟨?_, hF⟩, ?_⟩
  · rw [sort_heap hk, if_neg (fun e => hk' ((hF k).2 e.symm))]
  · show (Go.Sort.grow _ os).heap[g]? = _
    rw [sort_heap hg, if_pos rfl, hh]
    show some (Obj.cells _ _ _) = _
    congr 2
    have := putCells1 (xs := sortI xs) (enc := Value.int .i64) (cur := (xs.map (Value.int .i64)).toArray) (by simp [hl])
    rw [List.take_of_length_le (by simp [putCells, hl])] at this
    exact Array.ext' (by rw [← this]; rfl)
  · intro k hk
    exact ⟨.inl hk, by have := (hb k hk).2; rw [sort_size]; omega⟩
end
end Go.Vc
/-
  Plain words: three numbers in order; systems that are turned.
-/
namespace Go.Vc
open Go Go.RowKit
theorem three_eq {a b c x y z : Int} (h1 : a = x) (h2 : b = y) (h3 : c = z) : [a, b, c] = [x, y, z] := by rw [h1, h2, h3]
theorem sortI_three (a b c : Int) : sortI [a, b, c] = [lo3 a b c, mi3 a b c, hi3 a b c] := by
  symm
  apply sortI_unique
  · unfold mi3 lo3 hi3
    by_cases h1 : a ≤ b <;> by_cases h2 : b ≤ c <;> by_cases h3 : a ≤ c
    · have e : [min (min a b) c, a + b + c - min (min a b) c - max (max a b) c, max (max a b) c] = [a, b, c] := three_eq (by omega) (by omega) (by omega)
      rw [e]
    · exfalso; omega
    · have e : [min (min a b) c, a + b + c - min (min a b) c - max (max a b) c, max (max a b) c] = [a, c, b] := three_eq (by omega) (by omega) (by omega)
      rw [e]
      exact (List.Perm.swap _ _ _).cons _
    · have e : [min (min a b) c, a + b + c - min (min a b) c - max (max a b) c, max (max a b) c] = [c, a, b] := three_eq (by omega) (by omega) (by omega)
      rw [e]
      exact (List.Perm.swap _ _ _).trans ((List.Perm.swap _ _ _).cons _)
    · have e : [min (min a b) c, a + b + c - min (min a b) c - max (max a b) c, max (max a b) c] = [b, a, c] := three_eq (by omega) (by omega) (by omega)
      rw [e]
      exact List.Perm.swap _ _ _
    · have e : [min (min a b) c, a + b + c - min (min a b) c - max (max a b) c, max (max a b) c] = [b, c, a] := three_eq (by omega) (by omega) (by omega)
      rw [e]
      exact ((List.Perm.swap _ _ _).cons _).trans (List.Perm.swap _ _ _)
    · exfalso; omega
    · have e : [min (min a b) c, a + b + c - min (min a b) c - max (max a b) c, max (max a b) c] = [c, b, a] := three_eq (by omega) (by omega) (by omega)
      rw [e]
      exact (List.Perm.swap _ _ _).trans (((List.Perm.swap _ _ _).cons _).trans (List.Perm.swap _ _ _))
  · simp only [List.pairwise_cons, List.mem_cons, List.not_mem_nil, or_false, forall_eq_or_imp, forall_eq, List.Pairwise.nil, and_true]
    unfold mi3 lo3 hi3
    refine ⟨⟨?_, ?_⟩, ?_, ?_⟩ <;> first | omega | (intro _ h; cases h)
section
variable {P : Program} {w0 w : World} {H : List Assn} {T c g : Nat}
theorem sort3_blk {ρ : Go.Shelf.Ren} (L : Go.Proofs.SlLaysM.n5 P ρ) (x y z : Int) :
    Does P (ρ.f 5) [.slice (some ⟨g, 0, none⟩) 3 c] w0 (Blk g [.int .i64 x, .int .i64 y, .int .i64 z] T :: H) (fun v => [.sep (.pur (v = .tuple #[])) (Blk g [.int .i64 (lo3 x y z), .int .i64 (mi3 x y z), .int .i64 (hi3 x y z)] T)] ++ H) := by
  have h := sortI_blk (w0 := w0) (H := H) (T := T) (c := c) (g := g) L (xs := [x, y, z]) (by simp)
  rw [sortI_three] at h
  exact h
end
/-- The points, turned. -/
def turnL (v k : Int) (n : Nat) : List Int := (List.range n).map fun a : Nat => ((a : Int) + k) % v
/-- The blocks, turned, in some order. -/
def turnB (v k : Int) (bs : List B3) : List B3 := bs.map (renB (turnL v k v.toNat))
/-- What both TurnSystem return. -/
def TSR (v : Int) (bs : List B3) (k : Int) (r : List B3) : Prop := if STS v bs ∧ 0 ≤ k ∧ k ≤ v - 1 then r.Perm (turnB v k bs) ∧ SrtB r else r = []
theorem TSR.unique {v : Int} {bs : List B3} {k : Int} {r s : List B3} (h : TSR v bs k r) (g : TSR v bs k s) : r = s := by
  unfold TSR at *
  split at h
  · rename_i hc
    rw [if_pos hc] at g
    exact srtB_unique h.2 g.2 (h.1.trans g.1.symm)
  · rename_i hc
    rw [if_neg hc] at g
    rw [h, g]
theorem TSR.len {v : Int} {bs : List B3} {k : Int} {r : List B3} (h : TSR v bs k r) : r.length ≤ bs.length := by
  unfold TSR at h
  split at h
  · rw [h.1.length_eq]; simp [turnB]
  · simp [h]
/-- No block is in common with the turned ones. -/
def apT (v : Int) (bs : List B3) (k : Int) : Prop := ∀ b ∈ bs, b ∉ turnB v k bs
instance (v : Int) (bs : List B3) (k : Int) : Decidable (apT v bs k) := inferInstanceAs (Decidable (∀ b ∈ bs, b ∉ turnB v k bs))
/-- The least turn that is apart, and the code: what both MateByTurning return. -/
def MTR (v : Int) (bs : List B3) (r code : Int) : Prop :=
  (¬ STS v bs → r = 0 ∧ code = 1) ∧ (STS v bs → (1 ≤ r ∧ r < v ∧ apT v bs r ∧ (∀ j, 1 ≤ j → j < r → ¬ apT v bs j) ∧ code = 0) ∨ ((∀ j, 1 ≤ j → j < v → ¬ apT v bs j) ∧ r = 0 ∧ code = 4))
theorem MTR.unique {v : Int} {bs : List B3} {r c s d : Int} (h : MTR v bs r c) (g : MTR v bs s d) : r = s ∧ c = d := by
  by_cases hS : STS v bs
  · rcases h.2 hS with ⟨a1, a2, a3, a4, a5⟩ | ⟨a1, a2, a3⟩ <;> rcases g.2 hS with ⟨b1, b2, b3, b4, b5⟩ | ⟨b1, b2, b3⟩
    · have e : r = s := by
        by_cases h1 : r < s
        · exact absurd a3 (b4 r a1 h1)
        · by_cases h2 : s < r
          · exact absurd b3 (a4 s b1 h2)
          · omega
      exact ⟨e, by omega⟩
    · exact absurd a3 (b1 r a1 a2)
    · exact absurd b3 (a1 s b1 b2)
    · omega
  · have := h.1 hS; have := g.1 hS; omega
end Go.Vc
/-
  Plain words: blocks that are turned around; the two systems of a new desk.
-/
namespace Go.Vc
open Go Go.RowKit
def bkT (v : Int) (b : B3) (i : Nat) : B3 := bk3 ((b.1 + i) % v) ((b.2.1 + i) % v) ((b.2.2 + i) % v)
def addT (v : Int) (b : B3) (l : List B3) (i : Nat) : List B3 := if bkT v b i ∈ l then l else l ++ [bkT v b i]
/-- The first n turns of a block, put behind a list, without equal ones. -/
def rowT (v : Int) (l : List B3) (b : B3) (n : Nat) : List B3 := (List.range n).foldl (addT v b) l
def tblT (v : Int) (bs : List B3) : List B3 := bs.foldl (fun l b => rowT v l b v.toNat) []
section
variable {v : Int} {l bs : List B3} {b : B3} {n i : Nat}
theorem rowT_succ : rowT v l b (n + 1) = addT v b (rowT v l b n) n := by
  unfold rowT
  rw [List.range_succ, List.foldl_append]
  rfl
theorem rowT_yes (h : bkT v b n ∈ rowT v l b n) : rowT v l b (n + 1) = rowT v l b n := by
  rw [rowT_succ]
  unfold addT
  rw [if_pos h]
theorem rowT_no (h : ¬ bkT v b n ∈ rowT v l b n) : rowT v l b (n + 1) = rowT v l b n ++ [bkT v b n] := by
  rw [rowT_succ]
  unfold addT
  rw [if_neg h]
theorem rowT_zero : rowT v l b 0 = l := rfl
theorem rowT_len : ∀ n, (rowT v l b n).length ≤ l.length + n := by
  intro n
  induction n with
  | zero => simp [rowT_zero]
  | succ n ih =>
    by_cases h : bkT v b n ∈ rowT v l b n
    · rw [rowT_yes h]; omega
    · rw [rowT_no h, List.length_append]; simp; omega
end
/-- What both make of the Fano plane. -/
def FanoR (r : List B3) : Prop := r.Perm (rowT 7 [] (0, 1, 3) 7) ∧ SrtB r
theorem FanoR.unique {r s : List B3} (h : FanoR r) (g : FanoR s) : r = s := srtB_unique h.2 g.2 (h.1.trans g.1.symm)
theorem FanoR.len {r : List B3} (h : FanoR r) : r.length ≤ 7 := by
  rw [h.1.length_eq]
  exact rowT_len 7
end Go.Vc
/-
  The calculus, part 23: pairs of numbers; the pairs of blocks.
-/
namespace Go.Vc
open Go Go.RowKit
def P2C : Cod (Int × Int) := ⟨2, fun p => [.int .i64 p.1, .int .i64 p.2], by decide, fun _ => rfl, fun _ u hu => by simp at hu; rcases hu with rfl | rfl <;> rfl⟩
def P2v (p : Int × Int) : Value := .agg #[.int .i64 p.1, .int .i64 p.2]
section
variable {P : Program} {w0 w : World} {H : List Assn} {σ : Sig} {o : Oper}
end
/-! ### The pairs of blocks -/
def ltP (p q : Int × Int) : Prop := p.1 < q.1 ∨ (p.1 = q.1 ∧ p.2 < q.2)
instance (p q : Int × Int) : Decidable (ltP p q) := inferInstanceAs (Decidable (_ ∨ _))
def leP (p q : Int × Int) : Prop := ¬ ltP q p
def SrtP (l : List (Int × Int)) : Prop := l.Pairwise leP
def prsB (bs : List B3) : List (Int × Int) := bs.flatMap fun b => [(b.1, b.2.1), (b.1, b.2.2), (b.2.1, b.2.2)]
section
variable {v : Nat} {bs cs : List B3}
end
end Go.Vc
namespace Go.Vc
/-- Which numbers of pairs are in some blocks. -/
def usedK (n : Nat) (bs : List B3) : List Bool := (List.range n).map fun k => decide (∃ p ∈ prsB bs, prI p.1.toNat p.2.toNat = k)
def usedL (bs : List B3) : List Bool := usedK 256 bs
/-- A trade. -/
def TRD (v : Int) (os ns : List B3) : Prop := STS v os ∧ STS v ns ∧ (∀ b ∈ os, b ∉ ns) ∧ (prsB os).Perm (prsB ns)
noncomputable instance (v : Int) (os ns : List B3) : Decidable (TRD v os ns) := Classical.propDecidable _
/-- The first n numbers that are points of blocks. -/
def ptsB (os : List B3) (n : Nat) : List Int := ((List.range n).filter fun p : Nat => decide (∃ b ∈ os, has b (p : Int))).map fun p : Nat => (p : Int)
theorem ptsB_len {os : List B3} {n : Nat} : (ptsB os n).length ≤ n := by
  unfold ptsB
  rw [List.length_map]
  exact Nat.le_trans (List.length_filter_le _ _) (by simp)
/-- What both PointsOfTrade return. -/
def PTR (v : Int) (os ns : List B3) (o : List Int) : Prop := (TRD v os ns → o = ptsB os v.toNat) ∧ (¬ TRD v os ns → o = [])
theorem PTR.unique {v : Int} {os ns : List B3} {a b : List Int} (h : PTR v os ns a) (g : PTR v os ns b) : a = b := by
  by_cases ht : TRD v os ns
  · rw [h.1 ht, g.1 ht]
  · rw [h.2 ht, g.2 ht]
theorem PTR.len {v : Int} {os ns : List B3} {a : List Int} (h : PTR v os ns a) : a.length ≤ 15 := by
  by_cases ht : TRD v os ns
  · rw [h.1 ht]
    have := ptsB_len (os := os) (n := v.toNat)
    have := ht.1.hi
    omega
  · rw [h.2 ht]; simp
end Go.Vc
/-
  Plain words: mitres: three blocks with a point in common, and two blocks that are apart and meet each of the three elsewhere.
-/
namespace Go.Vc
structure Cr (a : Int) (X Y Z P Q : B3) : Prop where
  pa : ¬ has P a
  qa : ¬ has Q a
  dis : ∀ t, has P t → ¬ has Q t
  xp : ∃ t, has X t ∧ has P t
  xq : ∃ t, has X t ∧ has Q t
  yp : ∃ t, has Y t ∧ has P t
  yq : ∃ t, has Y t ∧ has Q t
  zp : ∃ t, has Z t ∧ has P t
  zq : ∃ t, has Z t ∧ has Q t
section
variable {v : Int} {bs : List B3} {a b c d e f g : Int} {x y z : Nat} {r : List Int}
def MitT (bs : List B3) (a : Int) (X Y Z : B3) (xs : List Int) (r : List Int) : Prop := ∃ p q : Nat, ∃ (hp : p < bs.length) (hq : q < bs.length), Cr a X Y Z bs[p] bs[q] ∧ r.Perm (xs ++ [(p : Int), (q : Int)]) ∧ r.Pairwise (· ≤ ·)
/-- Two blocks, one with each of the points. -/
def HitM (bs : List B3) (b d f c e g : Int) (xs r : List Int) : Prop := ∃ p q : Nat, ∃ (hp : p < bs.length) (hq : q < bs.length), (has bs[p] b ∧ has bs[p] d ∧ has bs[p] f) ∧ (has bs[q] c ∧ has bs[q] e ∧ has bs[q] g) ∧ r.Perm (xs ++ [(p : Int), (q : Int)]) ∧ r.Pairwise (· ≤ ·)
/-- Three blocks through a. -/
structure Thr (bs : List B3) (a b c d e f g : Int) (x y z : Nat) : Prop where
  hx : x < bs.length
  hy : y < bs.length
  hz : z < bs.length
  xy : x ≠ y
  xz : x ≠ z
  yz : y ≠ z
  tx : Tri (bs[x]'hx) a b c
  ty : Tri (bs[y]'hy) a d e
  tz : Tri (bs[z]'hz) a f g
theorem far (h : STS v bs) {i j : Nat} (hi : i < bs.length) (hj : j < bs.length) (hne : i ≠ j) (ha : has bs[i] a) (hb : has bs[j] a) (t : Int) (h1 : has bs[i] t) (h2 : has bs[j] t) : t = a := by
  apply Decidable.byContradiction
  intro ht
  exact hne (h.two hi hj (fun e => ht e.symm) ha h1 hb h2)
def Sev (a b c d e f g : Int) : Prop := (a ≠ b ∧ a ≠ c ∧ a ≠ d ∧ a ≠ e ∧ a ≠ f ∧ a ≠ g) ∧ (b ≠ c ∧ b ≠ d ∧ b ≠ e ∧ b ≠ f ∧ b ≠ g) ∧ (c ≠ d ∧ c ≠ e ∧ c ≠ f ∧ c ≠ g) ∧ (d ≠ e ∧ d ≠ f ∧ d ≠ g) ∧ (e ≠ f ∧ e ≠ g) ∧ f ≠ g
theorem Thr.sev (h : STS v bs) (t : Thr bs a b c d e f g x y z) : Sev a b c d e f g := by
  have k1 := far h t.hx t.hy t.xy t.tx.h1 t.ty.h1
  have k2 := far h t.hx t.hz t.xz t.tx.h1 t.tz.h1
  have k3 := far h t.hy t.hz t.yz t.ty.h1 t.tz.h1
  have x1 := t.tx.1
  have x2 := t.tx.2.1
  have x3 := t.tx.2.2.1
  have y1 := t.ty.1
  have y2 := t.ty.2.1
  have y3 := t.ty.2.2.1
  have z1 := t.tz.1
  have z2 := t.tz.2.1
  have z3 := t.tz.2.2.1
  refine ⟨⟨x1, x2, y1, y2, z1, z2⟩, ⟨x3, ?_, ?_, ?_, ?_⟩, ⟨?_, ?_, ?_, ?_⟩, ⟨y3, ?_, ?_⟩, ⟨?_, ?_⟩, z3⟩
  · intro e; subst e; exact x1 (k1 _ t.tx.h2 t.ty.h2).symm
  · intro e; subst e; exact x1 (k1 _ t.tx.h2 t.ty.h3).symm
  · intro e; subst e; exact x1 (k2 _ t.tx.h2 t.tz.h2).symm
  · intro e; subst e; exact x1 (k2 _ t.tx.h2 t.tz.h3).symm
  · intro e; subst e; exact x2 (k1 _ t.tx.h3 t.ty.h2).symm
  · intro e; subst e; exact x2 (k1 _ t.tx.h3 t.ty.h3).symm
  · intro e; subst e; exact x2 (k2 _ t.tx.h3 t.tz.h2).symm
  · intro e; subst e; exact x2 (k2 _ t.tx.h3 t.tz.h3).symm
  · intro e; subst e; exact y1 (k3 _ t.ty.h2 t.tz.h2).symm
  · intro e; subst e; exact y1 (k3 _ t.ty.h2 t.tz.h3).symm
  · intro e; subst e; exact y2 (k3 _ t.ty.h3 t.tz.h2).symm
  · intro e; subst e; exact y2 (k3 _ t.ty.h3 t.tz.h3).symm
/-- A mitre, told by one point of each of the three blocks. -/
theorem hitM_mit {v : Int} (h : STS v bs) (t : Thr bs a b c d e f g x y z) {xs : List Int} (hh : HitM bs b d f c e g xs r) : MitT bs a (bs[x]'t.hx) (bs[y]'t.hy) (bs[z]'t.hz) xs r := by
  obtain ⟨p, q, hp, hq, ⟨p1, p2, p3⟩, ⟨q1, q2, q3⟩, h3, h4⟩ := hh
  obtain ⟨⟨ab, ac, ad, ae, af, ag⟩, ⟨bc, bd, be, bf, bg⟩, ⟨cd, ce, cf, cg⟩, ⟨de, df, dg⟩, ⟨ef, eg⟩, fg⟩ := t.sev h
  have tp := tri_of (h.good _ (List.getElem_mem hp)) p1 p2 p3 bd bf df
  have tq := tri_of (h.good _ (List.getElem_mem hq)) q1 q2 q3 ce cg eg
  refine ⟨p, q, hp, hq, ⟨fun k => ?_, fun k => ?_, fun u k l => ?_, ⟨b, t.tx.h2, p1⟩, ⟨c, t.tx.h3, q1⟩, ⟨d, t.ty.h2, p2⟩, ⟨e, t.ty.h3, q2⟩, ⟨f, t.tz.h2, p3⟩, ⟨g, t.tz.h3, q3⟩⟩, h3, h4⟩
  · rcases (tp.2.2.2 a).1 k with k | k | k
    · exact ab k
    · exact ad k
    · exact af k
  · rcases (tq.2.2.2 a).1 k with k | k | k
    · exact ac k
    · exact ae k
    · exact ag k
  · have h5 := (tp.2.2.2 u).1 k
    have h6 := (tq.2.2.2 u).1 l
    rcases h5 with h5 | h5 | h5 <;> rcases h6 with h6 | h6 | h6 <;> have e := h5.symm.trans h6 <;> first | exact bc e | exact be e | exact bg e | exact cd e.symm | exact de e | exact dg e | exact cf e.symm | exact ef e.symm | exact fg e
theorem Thr.swapy (t : Thr bs a b c d e f g x y z) : Thr bs a b c e d f g x y z := ⟨t.hx, t.hy, t.hz, t.xy, t.xz, t.yz, t.tx, t.ty.swap, t.tz⟩
theorem Thr.swapz (t : Thr bs a b c d e f g x y z) : Thr bs a b c d e g f x y z := ⟨t.hx, t.hy, t.hz, t.xy, t.xz, t.yz, t.tx, t.ty, t.tz.swap⟩
/-- One of both points of a block is in one of two blocks that are apart, the other one in the other. -/
theorem either_pt {X P Q : B3} {a b c : Int} (t : Tri X a b c) (pa : ¬ has P a) (qa : ¬ has Q a) (dis : ∀ t, has P t → ¬ has Q t) (h1 : ∃ t, has X t ∧ has P t) (h2 : ∃ t, has X t ∧ has Q t) : (has P b ∧ has Q c) ∨ (has P c ∧ has Q b) := by
  obtain ⟨u, hu, hp⟩ := h1
  obtain ⟨w, hw, hq⟩ := h2
  rcases (t.2.2.2 u).1 hu with rfl | rfl | rfl
  · exact absurd hp pa
  · rcases (t.2.2.2 w).1 hw with rfl | rfl | rfl
    · exact absurd hq qa
    · exact absurd hq (dis _ hp)
    · exact .inl ⟨hp, hq⟩
  · rcases (t.2.2.2 w).1 hw with rfl | rfl | rfl
    · exact absurd hq qa
    · exact .inr ⟨hp, hq⟩
    · exact absurd hq (dis _ hp)
theorem mitT_iff {v : Int} (h : STS v bs) (t : Thr bs a b c d e f g x y z) {xs : List Int} : MitT bs a (bs[x]'t.hx) (bs[y]'t.hy) (bs[z]'t.hz) xs r ↔ HitM bs b d f c e g xs r ∨ HitM bs b d g c e f xs r ∨ HitM bs b e f c d g xs r ∨ HitM bs b e g c d f xs r := by
  constructor
  · rintro ⟨p, q, hp, hq, cr, h3, h4⟩
    have key : ∀ (p q : Nat) (hp : p < bs.length) (hq : q < bs.length), has bs[p] b ∧ has bs[q] c → Cr a (bs[x]'t.hx) (bs[y]'t.hy) (bs[z]'t.hz) bs[p] bs[q] → r.Perm (xs ++ [(p : Int), (q : Int)]) → HitM bs b d f c e g xs r ∨ HitM bs b d g c e f xs r ∨ HitM bs b e f c d g xs r ∨ HitM bs b e g c d f xs r := by
      intro p q hp hq h1 cr h3
      rcases either_pt t.ty cr.pa cr.qa cr.dis cr.yp cr.yq with h5 | h5
      · rcases either_pt t.tz cr.pa cr.qa cr.dis cr.zp cr.zq with h6 | h6
        · exact .inl ⟨p, q, hp, hq, ⟨h1.1, h5.1, h6.1⟩, ⟨h1.2, h5.2, h6.2⟩, h3, h4⟩
        · exact .inr (.inl ⟨p, q, hp, hq, ⟨h1.1, h5.1, h6.1⟩, ⟨h1.2, h5.2, h6.2⟩, h3, h4⟩)
      · rcases either_pt t.tz cr.pa cr.qa cr.dis cr.zp cr.zq with h6 | h6
        · exact .inr (.inr (.inl ⟨p, q, hp, hq, ⟨h1.1, h5.1, h6.1⟩, ⟨h1.2, h5.2, h6.2⟩, h3, h4⟩))
        · exact .inr (.inr (.inr ⟨p, q, hp, hq, ⟨h1.1, h5.1, h6.1⟩, ⟨h1.2, h5.2, h6.2⟩, h3, h4⟩))
    rcases either_pt t.tx cr.pa cr.qa cr.dis cr.xp cr.xq with h1 | h1
    · exact key p q hp hq h1 cr h3
    · exact key q p hq hp ⟨h1.2, h1.1⟩ ⟨cr.qa, cr.pa, fun t k l => cr.dis t l k, cr.xq, cr.xp, cr.yq, cr.yp, cr.zq, cr.zp⟩ (h3.trans (List.Perm.append_left _ (List.Perm.swap _ _ _)))
  · rintro (hh | hh | hh | hh)
    · exact hitM_mit h t hh
    · exact hitM_mit h t.swapz hh
    · exact hitM_mit h t.swapy hh
    · exact hitM_mit h t.swapy.swapz hh
/-- The way is told by the blocks. -/
theorem hitM_way {v : Int} (h : STS v bs) (t : Thr bs a b c d e f g x y z) {xs : List Int} {d1 e1 f1 g1 d2 e2 f2 g2 : Int} (k1 : (d1 = d ∧ e1 = e) ∨ (d1 = e ∧ e1 = d)) (k2 : (d2 = d ∧ e2 = e) ∨ (d2 = e ∧ e2 = d)) (l1 : (f1 = f ∧ g1 = g) ∨ (f1 = g ∧ g1 = f)) (l2 : (f2 = f ∧ g2 = g) ∨ (f2 = g ∧ g2 = f))
    (h1 : HitM bs b d1 f1 c e1 g1 xs r) (h2 : HitM bs b d2 f2 c e2 g2 xs r) : d1 = d2 ∧ f1 = f2 := by
  obtain ⟨p, q, hp, hq, ⟨p1, p2, p3⟩, ⟨q1, q2, q3⟩, h3, h4⟩ := h1
  obtain ⟨p', q', hp', hq', ⟨p1', p2', p3'⟩, ⟨q1', q2', q3'⟩, h3', h4'⟩ := h2
  obtain ⟨⟨ab, ac, ad, ae, af, ag⟩, ⟨bc, bd, be, bf, bg⟩, ⟨cd, ce, cf, cg⟩, ⟨de, df, dg⟩, ⟨ef, eg⟩, fg⟩ := t.sev h
  have n1 : ∀ {d1 e1 : Int}, (d1 = d ∧ e1 = e) ∨ (d1 = e ∧ e1 = d) → b ≠ d1 ∧ c ≠ d1 := fun k => by rcases k with ⟨rfl, _⟩ | ⟨rfl, _⟩; (· exact ⟨bd, cd⟩); (· exact ⟨be, ce⟩)
  have n2 : ∀ {f1 g1 : Int}, (f1 = f ∧ g1 = g) ∨ (f1 = g ∧ g1 = f) → b ≠ f1 ∧ c ≠ f1 := fun k => by rcases k with ⟨rfl, _⟩ | ⟨rfl, _⟩; (· exact ⟨bf, cf⟩); (· exact ⟨bg, cg⟩)
  have n3 : ∀ {d1 e1 f1 g1 : Int}, (d1 = d ∧ e1 = e) ∨ (d1 = e ∧ e1 = d) → (f1 = f ∧ g1 = g) ∨ (f1 = g ∧ g1 = f) → d1 ≠ f1 := fun k l => by
    rcases k with ⟨rfl, _⟩ | ⟨rfl, _⟩ <;> rcases l with ⟨rfl, _⟩ | ⟨rfl, _⟩
    · exact df
    · exact dg
    · exact ef
    · exact eg
  have hperm := (List.perm_append_left_iff xs).1 (h3.symm.trans h3')
  have hm : (p : Int) ∈ [(p' : Int), (q' : Int)] := hperm.mem_iff.1 (by simp)
  have tp := tri_of (h.good _ (List.getElem_mem hp)) p1 p2 p3 (n1 k1).1 (n2 l1).1 (n3 k1 l1)
  have e1 : p = p' := by
    simp only [List.mem_cons, List.not_mem_nil, or_false] at hm
    rcases hm with e | e
    · exact Int.ofNat.inj e
    · have e : p = q' := Int.ofNat.inj e
      subst e
      rcases (tp.2.2.2 c).1 q1' with k | k | k
      · exact absurd k.symm bc
      · exact absurd k (n1 k1).2
      · exact absurd k (n2 l1).2
  subst e1
  constructor
  · rcases (tp.2.2.2 d2).1 p2' with k | k | k
    · exact absurd k.symm (n1 k2).1
    · exact k.symm
    · exact absurd k (n3 k2 l1)
  · rcases (tp.2.2.2 f2).1 p3' with k | k | k
    · exact absurd k.symm (n2 l2).1
    · exact absurd k.symm (n3 k1 l2)
    · exact k.symm
/-- The three blocks through the point are told by the mitre. -/
theorem mitT_three {v : Int} (h : STS v bs) {X Y Z X' Y' Z' : B3} {x y z x' y' z' : Nat} (lx : x < bs.length) (ly : y < bs.length) (lz : z < bs.length) (lx' : x' < bs.length) (ly' : y' < bs.length) (lz' : z' < bs.length) (gx : has bs[x] a) (gy : has bs[y] a) (gz : has bs[z] a) (gx' : has bs[x'] a) (gy' : has bs[y'] a) (gz' : has bs[z'] a)
    (hxy : x < y) (hyz : y < z) (hxy' : x' < y') (hyz' : y' < z') (h1 : MitT bs a X Y Z [(x : Int), (y : Int), (z : Int)] r) (h2 : MitT bs a X' Y' Z' [(x' : Int), (y' : Int), (z' : Int)] r) : x = x' ∧ y = y' ∧ z = z' := by
  obtain ⟨p, q, hp, hq, cr, h3, _⟩ := h1
  obtain ⟨p', q', hp', hq', cr', h3', _⟩ := h2
  have hm : ∀ n : Nat, n < bs.length → (n : Int) ∈ [(x : Int), (y : Int), (z : Int)] ++ [(p : Int), (q : Int)] → has (bs.getD n (0, 0, 0)) a → n = x' ∨ n = y' ∨ n = z' := fun n hn k1 k2 => by
    have := (h3.symm.trans h3').mem_iff.1 k1
    simp only [List.cons_append, List.nil_append, List.mem_cons, List.not_mem_nil, or_false] at this
    rcases this with e | e | e | e | e
    · omega
    · omega
    · omega
    · have e : n = p' := by omega
      subst e
      exact absurd (by simpa [List.getD, hn] using k2) cr'.pa
    · have e : n = q' := by omega
      subst e
      exact absurd (by simpa [List.getD, hn] using k2) cr'.qa
  have m1 := hm x lx (by simp) (by simpa [List.getD, lx] using gx)
  have m2 := hm y ly (by simp) (by simpa [List.getD, ly] using gy)
  have m3 := hm z lz (by simp) (by simpa [List.getD, lz] using gz)
  omega
end
end Go.Vc
/-
  Plain words: the lists of mitres.
-/
namespace Go.Vc
def fmR {α : Type} (f : Nat → List α) (n : Nat) : List α := (List.range n).flatMap f
theorem fmR_zero {α : Type} (f : Nat → List α) : fmR f 0 = [] := rfl
theorem fmR_succ {α : Type} (f : Nat → List α) (n : Nat) : fmR f (n + 1) = fmR f n ++ f n := by
  unfold fmR
  rw [List.range_succ, List.flatMap_append]
  simp
theorem mem_fmR {α : Type} {f : Nat → List α} {n : Nat} {r : α} : r ∈ fmR f n ↔ ∃ i, i < n ∧ r ∈ f i := by
  unfold fmR
  simp [List.mem_flatMap]
theorem fmR_nodup {α : Type} {f : Nat → List α} : ∀ {n : Nat}, (∀ i, i < n → (f i).Nodup) → (∀ i j r, i < n → j < n → r ∈ f i → r ∈ f j → i = j) → (fmR f n).Nodup
  | 0, _, _ => List.nodup_nil
  | n + 1, h1, h2 => by
    rw [fmR_succ, List.nodup_append]
    refine ⟨fmR_nodup (fun i hi => h1 i (by omega)) (fun i j r hi hj => h2 i j r (by omega) (by omega)), h1 n (by omega), fun x hx y hy e => ?_⟩
    subst e
    obtain ⟨i, hi, hm⟩ := mem_fmR.1 hx
    have := h2 i n x (by omega) (by omega) hm hy
    omega
theorem bk3_of {v : Int} {B : B3} (hg : good v B) {x y z : Int} (t : Tri B x y z) : bk3 x y z = B := by
  have h1 := t.h1
  have h2 := t.h2
  have h3 := t.h3
  have n1 := t.1
  have n2 := t.2.1
  have n3 := t.2.2.1
  obtain ⟨p, q, r⟩ := B
  unfold good at hg
  unfold has at h1 h2 h3
  unfold bk3 mi3 lo3 hi3
  simp only at *
  rw [Prod.mk.injEq, Prod.mk.injEq]
  omega
theorem bk3_has {B : B3} {x y z : Int} (e : bk3 x y z = B) : has B x ∧ has B y ∧ has B z := by
  subst e
  unfold has bk3 mi3 lo3 hi3
  simp only
  omega
abbrev W4 := Int × Int × Int × Int
noncomputable def ent (bs : List B3) (x y z b c : Int) (w : W4) : List (List Int) :=
  if idxP (fun t => bk3 b w.1 w.2.2.1 = t) bs < 0 ∨ idxP (fun t => bk3 c w.2.1 w.2.2.2 = t) bs < 0 then [] else [sortI [x, y, z, idxP (fun t => bk3 b w.1 w.2.2.1 = t) bs, idxP (fun t => bk3 c w.2.1 w.2.2.2 = t) bs]]
def wayL (d e f g : Int) : List W4 := [(d, e, f, g), (d, e, g, f), (e, d, f, g), (e, d, g, f)]
noncomputable def f3 (bs : List B3) (a x y z : Int) : List (List Int) := (wayL (oth1 (blk bs y) a) (oth2 (blk bs y) a) (oth1 (blk bs z) a) (oth2 (blk bs z) a)).flatMap (ent bs x y z (oth1 (blk bs x) a) (oth2 (blk bs x) a))
noncomputable def mt3 (bs : List B3) (a : Int) (l : List Int) (i j k : Nat) : List (List Int) := f3 bs a (l.getD i 0) (l.getD (i + 1 + j) 0) (l.getD (i + j + 2 + k) 0)
noncomputable def mt2 (bs : List B3) (a : Int) (l : List Int) (i j : Nat) : List (List Int) := fmR (mt3 bs a l i j) (l.length - (i + j + 2))
noncomputable def mt1 (bs : List B3) (a : Int) (l : List Int) (i : Nat) : List (List Int) := fmR (mt2 bs a l i) (l.length - (i + 1))
noncomputable def mitI (bs : List B3) (a : Int) : List (List Int) := fmR (mt1 bs a (numsAt (fun c => has c a) bs bs.length)) (numsAt (fun c => has c a) bs bs.length).length
section
variable {v : Int} {bs : List B3} {a b c d e f g : Int} {x y z : Nat} {r : List Int}
theorem ent_mem (h : STS v bs) {w0 w1 w2 w3 X Y Z : Int} (n1 : b ≠ w0) (n2 : b ≠ w2) (n3 : w0 ≠ w2) (m1 : c ≠ w1) (m2 : c ≠ w3) (m3 : w1 ≠ w3) : r ∈ ent bs X Y Z b c (w0, w1, w2, w3) ↔ HitM bs b w0 w2 c w1 w3 [X, Y, Z] r := by
  unfold ent
  dsimp only
  constructor
  · intro hr
    split at hr
    · simp at hr
    · rename_i hn
      rw [List.mem_singleton] at hr
      obtain ⟨p, hp, p1, p2, _⟩ := idxP_at (p := fun t => bk3 b w0 w2 = t) (xs := bs) (by omega)
      obtain ⟨q, hq, q1, q2, _⟩ := idxP_at (p := fun t => bk3 c w1 w3 = t) (xs := bs) (by omega)
      refine ⟨p, q, hp, hq, bk3_has p2, bk3_has q2, ?_, ?_⟩
      · rw [hr, p1, q1]; exact sortI_perm _
      · rw [hr]; exact sortI_sorted _
  · rintro ⟨p, q, hp, hq, ⟨p1, p2, p3⟩, ⟨q1, q2, q3⟩, h3, h4⟩
    have gp := h.good _ (List.getElem_mem hp)
    have gq := h.good _ (List.getElem_mem hq)
    have ep := bk3_of gp (tri_of gp p1 p2 p3 n1 n2 n3)
    have eq := bk3_of gq (tri_of gq q1 q2 q3 m1 m2 m3)
    have ip : idxP (fun t => bk3 b w0 w2 = t) bs = (p : Int) := idxP_found hp ep (fun j hj hlt hh => by
      have := bk3_has hh
      have := h.two hj hp n1 this.1 this.2.1 p1 p2
      omega)
    have iq : idxP (fun t => bk3 c w1 w3 = t) bs = (q : Int) := idxP_found hq eq (fun j hj hlt hh => by
      have := bk3_has hh
      have := h.two hj hq m1 this.1 this.2.1 q1 q2
      omega)
    rw [ip, iq, if_neg (by omega), List.mem_singleton]
    exact sortI_unique h3 h4
theorem thr_of (h : STS v bs) (hx : x < bs.length) (hy : y < bs.length) (hz : z < bs.length) (xy : x ≠ y) (xz : x ≠ z) (yz : y ≠ z) (gx : has bs[x] a) (gy : has bs[y] a) (gz : has bs[z] a) : Thr bs a (oth1 bs[x] a) (oth2 bs[x] a) (oth1 bs[y] a) (oth2 bs[y] a) (oth1 bs[z] a) (oth2 bs[z] a) x y z :=
  ⟨hx, hy, hz, xy, xz, yz, tri_oth (h.good _ (List.getElem_mem hx)) gx, tri_oth (h.good _ (List.getElem_mem hy)) gy, tri_oth (h.good _ (List.getElem_mem hz)) gz⟩
theorem ways_mem (h : STS v bs) (t : Thr bs a b c d e f g x y z) {X Y Z : Int} : r ∈ (wayL d e f g).flatMap (ent bs X Y Z b c) ↔ MitT bs a (bs[x]'t.hx) (bs[y]'t.hy) (bs[z]'t.hz) [X, Y, Z] r := by
  obtain ⟨⟨ab, ac, ad, ae, af, ag⟩, ⟨bc, bd, be, bf, bg⟩, ⟨cd, ce, cf, cg⟩, ⟨de, df, dg⟩, ⟨ef, eg⟩, fg⟩ := t.sev h
  rw [mitT_iff h t]
  simp only [wayL, List.flatMap_cons, List.flatMap_nil, List.append_nil, List.mem_append]
  rw [ent_mem h bd bf df ce cg eg, ent_mem h bd bg dg ce cf ef, ent_mem h be bf ef cd cg dg, ent_mem h be bg eg cd cf df]
theorem ways_nodup (h : STS v bs) (t : Thr bs a b c d e f g x y z) {X Y Z : Int} : ((wayL d e f g).flatMap (ent bs X Y Z b c)).Nodup := by
  obtain ⟨⟨ab, ac, ad, ae, af, ag⟩, ⟨bc, bd, be, bf, bg⟩, ⟨cd, ce, cf, cg⟩, ⟨de, df, dg⟩, ⟨ef, eg⟩, fg⟩ := t.sev h
  unfold List.Nodup
  rw [List.pairwise_flatMap]
  constructor
  · intro w _
    unfold ent
    split <;> simp
  · have A : ∀ {s}, s ∈ ent bs X Y Z b c (d, e, f, g) → HitM bs b d f c e g [X, Y, Z] s := (ent_mem h bd bf df ce cg eg).1
    have B : ∀ {s}, s ∈ ent bs X Y Z b c (d, e, g, f) → HitM bs b d g c e f [X, Y, Z] s := (ent_mem h bd bg dg ce cf ef).1
    have C : ∀ {s}, s ∈ ent bs X Y Z b c (e, d, f, g) → HitM bs b e f c d g [X, Y, Z] s := (ent_mem h be bf ef cd cg dg).1
    have D : ∀ {s}, s ∈ ent bs X Y Z b c (e, d, g, f) → HitM bs b e g c d f [X, Y, Z] s := (ent_mem h be bg eg cd cf df).1
    have o1 : (d = d ∧ e = e) ∨ (d = e ∧ e = d) := .inl ⟨rfl, rfl⟩
    have o2 : (e = d ∧ d = e) ∨ (e = e ∧ d = d) := .inr ⟨rfl, rfl⟩
    have p1 : (f = f ∧ g = g) ∨ (f = g ∧ g = f) := .inl ⟨rfl, rfl⟩
    have p2 : (g = f ∧ f = g) ∨ (g = g ∧ f = f) := .inr ⟨rfl, rfl⟩
    unfold wayL
    rw [List.pairwise_cons, List.pairwise_cons, List.pairwise_cons]
    refine ⟨fun w hw s hs u hu q => ?_, fun w hw s hs u hu q => ?_, fun w hw s hs u hu q => ?_, List.pairwise_singleton _ _⟩
    · subst q
      simp only [List.mem_cons, List.not_mem_nil, or_false] at hw
      rcases hw with rfl | rfl | rfl
      · exact fg (hitM_way h t o1 o1 p1 p2 (A hs) (B hu)).2
      · exact de (hitM_way h t o1 o2 p1 p1 (A hs) (C hu)).1
      · exact de (hitM_way h t o1 o2 p1 p2 (A hs) (D hu)).1
    · subst q
      simp only [List.mem_cons, List.not_mem_nil, or_false] at hw
      rcases hw with rfl | rfl
      · exact de (hitM_way h t o1 o2 p2 p1 (B hs) (C hu)).1
      · exact de (hitM_way h t o1 o2 p2 p2 (B hs) (D hu)).1
    · subst q
      simp only [List.mem_cons, List.not_mem_nil, or_false] at hw
      subst hw
      exact fg (hitM_way h t o2 o2 p1 p2 (C hs) (D hu)).2
/-! ### The numbers of the blocks with a point -/
def atL (bs : List B3) (a : Int) : List Int := numsAt (fun c => has c a) bs bs.length
theorem atL_get {i : Nat} (hi : i < (atL bs a).length) : ∃ x : Nat, ∃ hx : x < bs.length, (atL bs a).getD i 0 = (x : Int) ∧ has bs[x] a := by
  have h1 : (atL bs a)[i] ∈ atL bs a := List.getElem_mem hi
  have e : (atL bs a).getD i 0 = (atL bs a)[i] := getD_at hi
  rw [e]
  generalize (atL bs a)[i] = q at h1
  unfold atL numsAt at h1
  obtain ⟨x, hx, rfl⟩ := List.mem_map.1 h1
  rw [List.mem_filter, List.mem_range] at hx
  obtain ⟨hx, hp⟩ := hx
  refine ⟨x, hx, rfl, ?_⟩
  have := of_decide_eq_true hp
  simpa [List.getD, hx] using this
theorem atL_lt {i j : Nat} (hij : i < j) (hj : j < (atL bs a).length) : (atL bs a).getD i 0 < (atL bs a).getD j 0 := by
  rw [getD_at (by omega), getD_at hj]
  have hp : (atL bs a).Pairwise (· < ·) := by
    unfold atL numsAt
    rw [List.pairwise_map]
    exact (List.pairwise_lt_range.filter _).imp (fun h => by omega)
  exact List.pairwise_iff_getElem.1 hp i j (by omega) hj hij
theorem atL_all {x : Nat} (hx : x < bs.length) (hp : has bs[x] a) : ∃ i, i < (atL bs a).length ∧ (atL bs a).getD i 0 = (x : Int) := by
  have hm : (x : Int) ∈ atL bs a := by
    unfold atL numsAt
    refine List.mem_map.2 ⟨x, List.mem_filter.2 ⟨List.mem_range.2 hx, decide_eq_true ?_⟩, rfl⟩
    simpa [List.getD, hx] using hp
  obtain ⟨i, hi, e⟩ := List.mem_iff_getElem.1 hm
  exact ⟨i, hi, by rw [getD_at hi]; exact e⟩
theorem atL_mono {i j : Nat} (hi : i < (atL bs a).length) (hj : j < (atL bs a).length) (h : (atL bs a).getD i 0 < (atL bs a).getD j 0) : i < j := by
  rcases Nat.lt_trichotomy i j with h1 | h1 | h1
  · exact h1
  · subst h1; omega
  · have := atL_lt h1 hi; omega
theorem atL_len : (atL bs a).length ≤ bs.length := numsAt_len
/-- The mitres with a centre. -/
def Mit (bs : List B3) (a : Int) (r : List Int) : Prop := ∃ (x y z : Nat) (hx : x < bs.length) (hy : y < bs.length) (hz : z < bs.length), x < y ∧ y < z ∧ has bs[x] a ∧ has bs[y] a ∧ has bs[z] a ∧ MitT bs a bs[x] bs[y] bs[z] [(x : Int), (y : Int), (z : Int)] r
/-- Three numbers of the list, ascending. -/
theorem mt3_three (h : STS v bs) {i j k : Nat} (hij : i < j) (hjk : j < k) (hk : k < (atL bs a).length) : ∃ (x y z : Nat) (hx : x < bs.length) (hy : y < bs.length) (hz : z < bs.length), (atL bs a).getD i 0 = (x : Int) ∧ (atL bs a).getD j 0 = (y : Int) ∧ (atL bs a).getD k 0 = (z : Int) ∧ x < y ∧ y < z ∧ has bs[x] a ∧ has bs[y] a ∧ has bs[z] a := by
  obtain ⟨x, hx, ex, gx⟩ := atL_get (bs := bs) (a := a) (i := i) (by omega)
  obtain ⟨y, hy, ey, gy⟩ := atL_get (bs := bs) (a := a) (i := j) (by omega)
  obtain ⟨z, hz, ez, gz⟩ := atL_get (bs := bs) (a := a) (i := k) (by omega)
  have h1 := atL_lt (bs := bs) (a := a) hij (by omega)
  have h2 := atL_lt (bs := bs) (a := a) hjk (by omega)
  exact ⟨x, y, z, hx, hy, hz, ex, ey, ez, by omega, by omega, gx, gy, gz⟩
theorem f3_mem (h : STS v bs) (hx : x < bs.length) (hy : y < bs.length) (hz : z < bs.length) (xy : x < y) (yz : y < z) (gx : has bs[x] a) (gy : has bs[y] a) (gz : has bs[z] a) : r ∈ f3 bs a x y z ↔ MitT bs a bs[x] bs[y] bs[z] [(x : Int), (y : Int), (z : Int)] r := by
  unfold f3
  rw [blk_get hx, blk_get hy, blk_get hz]
  exact ways_mem h (thr_of h hx hy hz (by omega) (by omega) (by omega) gx gy gz)
theorem f3_nodup (h : STS v bs) (hx : x < bs.length) (hy : y < bs.length) (hz : z < bs.length) (xy : x < y) (yz : y < z) (gx : has bs[x] a) (gy : has bs[y] a) (gz : has bs[z] a) : (f3 bs a x y z).Nodup := by
  unfold f3
  rw [blk_get hx, blk_get hy, blk_get hz]
  exact ways_nodup h (thr_of h hx hy hz (by omega) (by omega) (by omega) gx gy gz)
theorem mitI_mem (h : STS v bs) : r ∈ mitI bs a ↔ Mit bs a r := by
  show r ∈ fmR (mt1 bs a (atL bs a)) (atL bs a).length ↔ _
  constructor
  · intro hr
    obtain ⟨i, hi, hr⟩ := mem_fmR.1 hr
    obtain ⟨j, hj, hr⟩ := mem_fmR.1 hr
    obtain ⟨k, hk, hr⟩ := mem_fmR.1 hr
    obtain ⟨x, y, z, hx, hy, hz, ex, ey, ez, xy, yz, gx, gy, gz⟩ := mt3_three (a := a) h (i := i) (j := i + 1 + j) (k := i + j + 2 + k) (by omega) (by omega) (by omega)
    unfold mt3 at hr
    rw [ex, ey, ez, f3_mem h hx hy hz xy yz gx gy gz] at hr
    exact ⟨x, y, z, hx, hy, hz, xy, yz, gx, gy, gz, hr⟩
  · rintro ⟨x, y, z, hx, hy, hz, xy, yz, gx, gy, gz, hr⟩
    obtain ⟨i, hi, ei⟩ := atL_all hx gx
    obtain ⟨j, hj, ej⟩ := atL_all hy gy
    obtain ⟨k, hk, ek⟩ := atL_all hz gz
    have hij := atL_mono hi hj (by omega)
    have hjk := atL_mono hj hk (by omega)
    refine mem_fmR.2 ⟨i, hi, mem_fmR.2 ⟨j - (i + 1), by omega, mem_fmR.2 ⟨k - (j + 1), by omega, ?_⟩⟩⟩
    unfold mt3
    rw [show i + 1 + (j - (i + 1)) = j by omega, show i + (j - (i + 1)) + 2 + (k - (j + 1)) = k by omega, ei, ej, ek]
    exact (f3_mem h hx hy hz xy yz gx gy gz).2 hr
theorem mt3_inj (h : STS v bs) {i j k i' j' k' : Nat} (hk : i + j + 2 + k < (atL bs a).length) (hk' : i' + j' + 2 + k' < (atL bs a).length) (h1 : r ∈ mt3 bs a (atL bs a) i j k) (h2 : r ∈ mt3 bs a (atL bs a) i' j' k') : i = i' ∧ j = j' ∧ k = k' := by
  obtain ⟨x, y, z, hx, hy, hz, ex, ey, ez, xy, yz, gx, gy, gz⟩ := mt3_three (a := a) h (i := i) (j := i + 1 + j) (k := i + j + 2 + k) (by omega) (by omega) (by omega)
  obtain ⟨x', y', z', hx', hy', hz', ex', ey', ez', xy', yz', gx', gy', gz'⟩ := mt3_three (a := a) h (i := i') (j := i' + 1 + j') (k := i' + j' + 2 + k') (by omega) (by omega) (by omega)
  unfold mt3 at h1 h2
  rw [ex, ey, ez, f3_mem h hx hy hz xy yz gx gy gz] at h1
  rw [ex', ey', ez', f3_mem h hx' hy' hz' xy' yz' gx' gy' gz'] at h2
  obtain ⟨e1, e2, e3⟩ := mitT_three h hx hy hz hx' hy' hz' gx gy gz gx' gy' gz' xy yz xy' yz' h1 h2
  have key : ∀ {m n : Nat}, m < (atL bs a).length → n < (atL bs a).length → (atL bs a).getD m 0 = (atL bs a).getD n 0 → m = n := fun {m n} hm hn e => by
    rcases Nat.lt_trichotomy m n with h1 | h1 | h1
    · have := atL_lt h1 hn; omega
    · exact h1
    · have := atL_lt h1 hm; omega
  have q1 := key (m := i) (n := i') (by omega) (by omega) (by omega)
  have q2 := key (m := i + 1 + j) (n := i' + 1 + j') (by omega) (by omega) (by omega)
  have q3 := key hk hk' (by omega)
  omega
theorem mitI_nodup (h : STS v bs) : (mitI bs a).Nodup := by
  show (fmR (mt1 bs a (atL bs a)) (atL bs a).length).Nodup
  refine fmR_nodup (fun i hi => fmR_nodup (fun j hj => fmR_nodup (fun k hk => ?_) ?_) ?_) ?_
  · obtain ⟨x, y, z, hx, hy, hz, ex, ey, ez, xy, yz, gx, gy, gz⟩ := mt3_three (a := a) h (i := i) (j := i + 1 + j) (k := i + j + 2 + k) (by omega) (by omega) (by omega)
    unfold mt3
    rw [ex, ey, ez]
    exact f3_nodup h hx hy hz xy yz gx gy gz
  · intro k k' r hk hk' h1 h2
    exact (mt3_inj h (by omega) (by omega) h1 h2).2.2
  · intro j j' r hj hj' h1 h2
    obtain ⟨k, hk, h1⟩ := mem_fmR.1 h1
    obtain ⟨k', hk', h2⟩ := mem_fmR.1 h2
    exact (mt3_inj h (by omega) (by omega) h1 h2).2.1
  · intro i i' r hi hi' h1 h2
    obtain ⟨j, hj, h1⟩ := mem_fmR.1 h1
    obtain ⟨j', hj', h2⟩ := mem_fmR.1 h2
    obtain ⟨k, hk, h1⟩ := mem_fmR.1 h1
    obtain ⟨k', hk', h2⟩ := mem_fmR.1 h2
    exact (mt3_inj h (by omega) (by omega) h1 h2).1
end
end Go.Vc
/-
  Plain words: the mitres that the reference finds; what is returned.
-/
namespace Go.Vc
noncomputable def sE (bs : List B3) (X Y Z b c d e f g : Int) : List (List Int) := if third bs b d = f ∧ third bs c e = g then [sortI [X, Y, Z, num bs b d, num bs c e]] else []
def sw (k : Bool) (x y : Int) : Int := if k then y else x
noncomputable def s4 (bs : List B3) (X Y Z b c d e f g : Int) (t : Nat) : List (List Int) := sE bs X Y Z b c (sw (t % 2 == 1) d e) (sw (t % 2 == 1) e d) (sw (t / 2 == 1) f g) (sw (t / 2 == 1) g f)
noncomputable def s3 (bs : List B3) (a X Y Z : Int) (t : Nat) : List (List Int) := s4 bs X Y Z (oth1 (blk bs X) a) (oth2 (blk bs X) a) (oth1 (blk bs Y) a) (oth2 (blk bs Y) a) (oth1 (blk bs Z) a) (oth2 (blk bs Z) a) t
noncomputable def ms3 (bs : List B3) (a : Int) (l : List Int) (i j k : Nat) : List (List Int) := fmR (s3 bs a (l.getD i 0) (l.getD j 0) (l.getD k 0)) 4
noncomputable def ms2 (bs : List B3) (a : Int) (l : List Int) (i j : Nat) : List (List Int) := fmR (ms3 bs a l i j) j
noncomputable def ms1 (bs : List B3) (a : Int) (l : List Int) (i : Nat) : List (List Int) := fmR (ms2 bs a l i) i
section
variable {v : Int} {bs : List B3} {a b c d e f g : Int} {x y z : Nat} {r : List Int}
theorem sE_mem (h : STS v bs) {X Y Z : Int} (n1 : b ≠ d) (n2 : b ≠ f) (n3 : d ≠ f) (m1 : c ≠ e) (m2 : c ≠ g) (m3 : e ≠ g) (hf : 0 ≤ f) (hg : 0 ≤ g) : r ∈ sE bs X Y Z b c d e f g ↔ HitM bs b d f c e g [X, Y, Z] r := by
  unfold sE
  constructor
  · intro hr
    split at hr
    · rename_i hh
      obtain ⟨h1, h2⟩ := hh
      rw [List.mem_singleton] at hr
      obtain ⟨p, hp, p1, p2⟩ := third_some h n1 (by omega)
      obtain ⟨q, hq, q1, q2⟩ := third_some h m1 (by omega)
      rw [h1] at p2
      rw [h2] at q2
      refine ⟨p, q, hp, hq, ⟨p2.h1, p2.h2, p2.h3⟩, ⟨q2.h1, q2.h2, q2.h3⟩, ?_, ?_⟩
      · rw [hr, p1, q1]; exact sortI_perm _
      · rw [hr]; exact sortI_sorted _
    · simp at hr
  · rintro ⟨p, q, hp, hq, ⟨p1, p2, p3⟩, ⟨q1, q2, q3⟩, h3, h4⟩
    obtain ⟨ep, tp⟩ := third_tri h hp (tri_of (h.good _ (List.getElem_mem hp)) p1 p2 p3 n1 n2 n3)
    obtain ⟨eq, tq⟩ := third_tri h hq (tri_of (h.good _ (List.getElem_mem hq)) q1 q2 q3 m1 m2 m3)
    rw [if_pos ⟨tp, tq⟩, List.mem_singleton, ep, eq]
    exact sortI_unique h3 h4
theorem s4_mem (h : STS v bs) (t : Thr bs a b c d e f g x y z) {X Y Z : Int} : r ∈ fmR (s4 bs X Y Z b c d e f g) 4 ↔ MitT bs a (bs[x]'t.hx) (bs[y]'t.hy) (bs[z]'t.hz) [X, Y, Z] r := by
  obtain ⟨⟨ab, ac, ad, ae, af, ag⟩, ⟨bc, bd, be, bf, bg⟩, ⟨cd, ce, cf, cg⟩, ⟨de, df, dg⟩, ⟨ef, eg⟩, fg⟩ := t.sev h
  have gz := h.good _ (List.getElem_mem t.hz)
  have p1 : 0 ≤ f := by have := t.tz.h2; unfold good at gz; unfold has at this; omega
  have p2 : 0 ≤ g := by have := t.tz.h3; unfold good at gz; unfold has at this; omega
  have e4 : fmR (s4 bs X Y Z b c d e f g) 4 = sE bs X Y Z b c d e f g ++ sE bs X Y Z b c e d f g ++ sE bs X Y Z b c d e g f ++ sE bs X Y Z b c e d g f := by
    rw [fmR_succ, fmR_succ, fmR_succ, fmR_succ, fmR_zero, List.nil_append]
    rfl
  rw [mitT_iff h t, e4]
  simp only [List.mem_append]
  rw [sE_mem h bd bf df ce cg eg p1 p2, sE_mem h bd bg dg ce cf ef p2 p1, sE_mem h be bf ef cd cg dg p1 p2, sE_mem h be bg eg cd cf df p2 p1]
  constructor
  · rintro (((k | k) | k) | k)
    · exact .inl k
    · exact .inr (.inr (.inl k))
    · exact .inr (.inl k)
    · exact .inr (.inr (.inr k))
  · rintro (k | k | k | k)
    · exact .inl (.inl (.inl k))
    · exact .inl (.inr k)
    · exact .inl (.inl (.inr k))
    · exact .inr k
theorem mitT_rev {X Y Z : B3} {p q s : Int} (h : MitT bs a X Y Z [p, q, s] r) : MitT bs a Z Y X [s, q, p] r := by
  obtain ⟨m, n, hm, hn, cr, h3, h4⟩ := h
  refine ⟨m, n, hm, hn, ⟨cr.pa, cr.qa, cr.dis, cr.zp, cr.zq, cr.yp, cr.yq, cr.xp, cr.xq⟩, h3.trans (List.Perm.append_right _ ?_), h4⟩
  have := List.reverse_perm [s, q, p]
  simpa using this
theorem ms_mem (h : STS v bs) : r ∈ fmR (ms1 bs a (atL bs a)) (atL bs a).length ↔ Mit bs a r := by
  constructor
  · intro hr
    obtain ⟨i, hi, hr⟩ := mem_fmR.1 hr
    obtain ⟨j, hj, hr⟩ := mem_fmR.1 hr
    obtain ⟨k, hk, hr⟩ := mem_fmR.1 hr
    obtain ⟨x, y, z, hx, hy, hz, ex, ey, ez, xy, yz, gx, gy, gz⟩ := mt3_three (a := a) h hk hj hi
    unfold ms3 s3 at hr
    rw [ex, ey, ez, blk_get hx, blk_get hy, blk_get hz] at hr
    have := (s4_mem h (thr_of h hz hy hx (by omega) (by omega) (by omega) gz gy gx)).1 hr
    exact ⟨x, y, z, hx, hy, hz, xy, yz, gx, gy, gz, mitT_rev this⟩
  · rintro ⟨x, y, z, hx, hy, hz, xy, yz, gx, gy, gz, hr⟩
    obtain ⟨i, hi, ei⟩ := atL_all hx gx
    obtain ⟨j, hj, ej⟩ := atL_all hy gy
    obtain ⟨k, hk, ek⟩ := atL_all hz gz
    have hij := atL_mono hi hj (by omega)
    have hjk := atL_mono hj hk (by omega)
    refine mem_fmR.2 ⟨k, hk, mem_fmR.2 ⟨j, hjk, mem_fmR.2 ⟨i, hij, ?_⟩⟩⟩
    unfold ms3 s3
    rw [ei, ej, ek, blk_get hx, blk_get hy, blk_get hz]
    exact (s4_mem h (thr_of h hz hy hx (by omega) (by omega) (by omega) gz gy gx)).2 (mitT_rev hr)
/-- The number of the mitres with a centre. -/
def MCn (bs : List B3) (a : Int) (n : Nat) : Prop := ∃ ls : List (List Int), ls.Nodup ∧ (∀ r, r ∈ ls ↔ Mit bs a r) ∧ n = ls.length
theorem MCn.unique {m n : Nat} (h1 : MCn bs a m) (h2 : MCn bs a n) : m = n := by
  obtain ⟨l1, n1, e1, rfl⟩ := h1
  obtain ⟨l2, n2, e2, rfl⟩ := h2
  exact ((List.perm_ext_iff_of_nodup n1 n2).2 (fun r => (e1 r).trans (e2 r).symm)).length_eq
theorem SrtL.nodup {l : List (List Int)} (h : SrtL l) : l.Nodup := List.Pairwise.imp (fun {a b} h e => by subst e; exact ltL_irrefl _ h) h
def MCR (v : Int) (bs : List B3) (o : List Int) : Prop := (STS v bs → o.length = v.toNat ∧ ∀ k, k < v.toNat → ∃ n : Nat, o.getD k 0 = (n : Int) ∧ MCn bs (k : Int) n) ∧ (¬ STS v bs → o = [])
theorem MCR.unique {o p : List Int} (h1 : MCR v bs o) (h2 : MCR v bs p) : o = p := by
  by_cases h : STS v bs
  · obtain ⟨l1, k1⟩ := h1.1 h
    obtain ⟨l2, k2⟩ := h2.1 h
    apply List.ext_getElem (by omega)
    intro i g1 g2
    obtain ⟨m, e1, q1⟩ := k1 i (by omega)
    obtain ⟨n, e2, q2⟩ := k2 i (by omega)
    rw [getD_at g1] at e1
    rw [getD_at g2] at e2
    rw [e1, e2, q1.unique q2]
  · rw [h1.2 h, h2.2 h]
theorem MCR.len {o : List Int} (h1 : MCR v bs o) : o.length ≤ 15 := by
  by_cases h : STS v bs
  · have := (h1.1 h).1
    have := h.hi
    omega
  · rw [h1.2 h]; simp
end
end Go.Vc
namespace Go.Vc
section
variable {v : Int} {bs : List B3} {a b c d e f g X Y Z : Int} {q own : List Int}
theorem sE_yes (h1 : third bs b d = f) (h2 : third bs c e = g) (hp : own.Perm [X, Y, Z, num bs b d, num bs c e]) (hs : own.Pairwise (· ≤ ·)) : q ∈ sE bs X Y Z b c d e f g ↔ q = own := by
  unfold sE
  rw [if_pos ⟨h1, h2⟩, List.mem_singleton, sortI_unique hp hs]
theorem sE_no (h : ¬ (third bs b d = f ∧ third bs c e = g)) : q ∈ sE bs X Y Z b c d e f g ↔ False := by
  unfold sE
  rw [if_neg h]
  simp
theorem blk_at {k : Int} (h : k.toNat < bs.length) : blk bs k = bs[k.toNat] := by simp [blk, List.getD, h]
theorem s3_as {t : Nat} {B1 B2 B4 : B3} (e1 : blk bs X = B1) (e2 : blk bs Y = B2) (e3 : blk bs Z = B4) {d' e' f' g' : Int} (hd : d' = if t % 2 = 1 then oth2 B2 a else oth1 B2 a) (he : e' = if t % 2 = 1 then oth1 B2 a else oth2 B2 a) (hf : f' = if t / 2 = 1 then oth2 B4 a else oth1 B4 a) (hg : g' = if t / 2 = 1 then oth1 B4 a else oth2 B4 a) :
    s3 bs a X Y Z t = sE bs X Y Z (oth1 B1 a) (oth2 B1 a) d' e' f' g' := by
  subst hd he hf hg
  unfold s3 s4 sw
  rw [e1, e2, e3]
  simp only [beq_iff_eq]
/-- One turn of the reference. -/
theorem put_turn {t : Nat} {B1 B2 B4 : B3} {d' e' f' g' : Int} {A : Prop} (e1 : blk bs X = B1) (e2 : blk bs Y = B2) (e3 : blk bs Z = B4) (hd : d' = if t % 2 = 1 then oth2 B2 a else oth1 B2 a) (he : e' = if t % 2 = 1 then oth1 B2 a else oth2 B2 a) (hf : f' = if t / 2 = 1 then oth2 B4 a else oth1 B4 a) (hg : g' = if t / 2 = 1 then oth1 B4 a else oth2 B4 a)
    (h1 : third bs (oth1 B1 a) d' = f') (h2 : third bs (oth2 B1 a) e' = g') (hp : own.Perm [X, Y, Z, num bs (oth1 B1 a) d', num bs (oth2 B1 a) e']) (hs : own.Pairwise (· ≤ ·)) : (A ∨ q ∈ fmR (s3 bs a X Y Z) (t + 1)) ↔ ((A ∨ q ∈ fmR (s3 bs a X Y Z) t) ∨ q = own) := by
  rw [fmR_succ, List.mem_append, s3_as e1 e2 e3 hd he hf hg, sE_yes h1 h2 hp hs, or_assoc]
theorem no_turn {t : Nat} {B1 B2 B4 : B3} {d' e' f' g' : Int} {A : Prop} (e1 : blk bs X = B1) (e2 : blk bs Y = B2) (e3 : blk bs Z = B4) (hd : d' = if t % 2 = 1 then oth2 B2 a else oth1 B2 a) (he : e' = if t % 2 = 1 then oth1 B2 a else oth2 B2 a) (hf : f' = if t / 2 = 1 then oth2 B4 a else oth1 B4 a) (hg : g' = if t / 2 = 1 then oth1 B4 a else oth2 B4 a)
    (h1 : ¬ (third bs (oth1 B1 a) d' = f' ∧ third bs (oth2 B1 a) e' = g')) : (A ∨ q ∈ fmR (s3 bs a X Y Z) (t + 1)) ↔ (A ∨ q ∈ fmR (s3 bs a X Y Z) t) := by
  rw [fmR_succ, List.mem_append, s3_as e1 e2 e3 hd he hf hg, sE_no h1, or_false]
end
end Go.Vc
/-
  The calculus, part 24: four numbers.
-/
namespace Go.Vc
open Go Go.RowKit
def P4C : Cod W4 := ⟨4, fun p => [.int .i64 p.1, .int .i64 p.2.1, .int .i64 p.2.2.1, .int .i64 p.2.2.2], by decide, fun _ => rfl, fun _ u hu => by simp at hu; rcases hu with rfl | rfl | rfl | rfl <;> rfl⟩
def P4v (p : W4) : Value := .agg #[.int .i64 p.1, .int .i64 p.2.1, .int .i64 p.2.2.1, .int .i64 p.2.2.2]
theorem ent_yes {bs : List B3} {X Y Z b c : Int} {u : W4} (h1 : ¬ idxP (fun t => bk3 b u.1 u.2.2.1 = t) bs < 0) (h2 : ¬ idxP (fun t => bk3 c u.2.1 u.2.2.2 = t) bs < 0) : ent bs X Y Z b c u = [sortI [X, Y, Z, idxP (fun t => bk3 b u.1 u.2.2.1 = t) bs, idxP (fun t => bk3 c u.2.1 u.2.2.2 = t) bs]] := by
  unfold ent
  rw [if_neg (by omega)]
theorem ent_no {bs : List B3} {X Y Z b c : Int} {u : W4} (h1 : idxP (fun t => bk3 b u.1 u.2.2.1 = t) bs < 0 ∨ idxP (fun t => bk3 c u.2.1 u.2.2.2 = t) bs < 0) : ent bs X Y Z b c u = [] := by
  unfold ent
  rw [if_pos h1]
theorem way_snoc {ws : List W4} {k : Nat} (hk : k < ws.length) (f : W4 → List (List Int)) : (ws.take (k + 1)).flatMap f = (ws.take k).flatMap f ++ f ws[k] := by
  rw [take_snoc hk, List.flatMap_append]
  simp
theorem snoc_heapN {α : Type} {T T2 c d n : Nat} {C : Cod α} {D : Cod Sl} {w0 w : World} {H : List Assn} {A B : Option Addr} {ps : List (Sl × List α)} {xs : List α} (hn : n = xs.length) (hw : St w0 (Own T2 D A c (tops ps ++ [⟨B, n, d⟩]) :: RowsA T C ps :: Own T C B d xs :: H) w) :
    St w0 (Own T2 D A c (tops (ps ++ [(⟨B, n, d⟩, xs)])) :: RowsA T C (ps ++ [(⟨B, n, d⟩, xs)]) :: H) w := by
  subst hn
  exact snoc_heap hw
theorem mcr_set {bs : List B3} {z : List Int} {a n : Nat} (ha : a < z.length) (hk : ∀ k, k < a → ∃ n : Nat, z.getD k 0 = (n : Int) ∧ MCn bs (k : Int) n) (hn : MCn bs (a : Int) n) : ∀ k, k < a + 1 → ∃ m : Nat, (z.set a (n : Int)).getD k 0 = (m : Int) ∧ MCn bs (k : Int) m := by
  intro k h
  by_cases e : k = a
  · subst e
    exact ⟨n, by simp [List.getD, ha], hn⟩
  · obtain ⟨m, h1, h2⟩ := hk k (by omega)
    exact ⟨m, by rw [← h1]; simp [List.getD, List.getElem?_set_ne (show a ≠ k by omega)], h2⟩
theorem mcr_app {bs : List B3} {z : List Int} {a n : Nat} (ha : z.length = a) (hk : ∀ k, k < a → ∃ n : Nat, z.getD k 0 = (n : Int) ∧ MCn bs (k : Int) n) (hn : MCn bs (a : Int) n) : ∀ k, k < a + 1 → ∃ m : Nat, (z ++ [(n : Int)]).getD k 0 = (m : Int) ∧ MCn bs (k : Int) m := by
  subst ha
  intro k h
  by_cases e : k = z.length
  · subst e
    exact ⟨n, by simp [List.getD], hn⟩
  · obtain ⟨m, h1, h2⟩ := hk k (by omega)
    exact ⟨m, by rw [← h1]; simp [List.getD, List.getElem?_append_left (show k < z.length by omega)], h2⟩
theorem mcn_I {v : Int} {bs : List B3} {a : Int} {ps : List (Sl × List Int)} (h : STS v bs) (e : conts ps = conts [] ++ mitI bs a) : MCn bs a (tops ps).length := ⟨mitI bs a, mitI_nodup h, fun r => mitI_mem h, by rw [tops_len, ← conts_len, e]; simp [conts]⟩
theorem mcn_S {bs : List B3} {a : Int} {ps : List (Sl × List Int)} (h : IsList (Mit bs a) (conts ps)) : MCn bs a (tops ps).length := ⟨conts ps, h.1.nodup, h.2, by rw [tops_len, conts_len]⟩
theorem Ld.dropK {α : Type} {C : Cod α} {w0 : World} {H : List Assn} {A : Option Addr} {xs : List α} {c k s : Nat} (h : ∀ w, St w0 H w → Rd C w A xs) (hs : s = C.sz) (hc : xs.length ≤ c) : ∀ w, St w0 H w → Rd C w (if c = k then A else A.map (·.add (k * s))) (xs.drop k) := fun w hw => (h w hw).drop hs hc
end Go.Vc
/-
  The calculus, part 25: lists of lists in order; each once.
-/
namespace Go.Vc
open Go Go.RowKit
open Go.Proofs (ltOf)
open Go.Sort (SWO)
section
variable {P : Program} {w0 w : World} {H : List Assn} {T T2 c : Nat} {A : Option Addr} {ps : List (Sl × List Int)}
def RowC : Cod (Sl × List Int) := ⟨1, fun p => SlC.enc p.1, by decide, fun p => SlC.len p.1, fun p u hu => SlC.one p.1 u hu⟩
theorem own_tops : Own T SlC A c (tops ps) = Own T RowC A c ps := by
  have h1 : (tops ps).length = ps.length := tops_len ps
  have h2 : (tops ps).flatMap SlC.enc = ps.flatMap RowC.enc := by unfold tops; rw [List.flatMap_map]; rfl
  unfold Own
  simp only [h1, h2]
  rfl
/-- slices.SortFunc at lists of numbers. -/
theorem sortRows_does {ρ : Go.Shelf.Ren} (L : Go.Proofs.SlLaysF.n6 P ρ) (cf : List Int → List Int → Int) (hO : SWO (ltOf cf)) {f : Nat} {cb : Array Value} (hok : CallOk P f)
    (hcmp : ∀ W (x y : Sl × List Int), x ∈ ps → y ∈ ps → St w0 (RowsA T2 I64 ps :: H) W → Rd I64 W x.1.A x.2 → Rd I64 W y.1.A y.2 → x.2.length ≤ 9223372036854775807 → y.2.length ≤ 9223372036854775807 → Does P f ([.slice x.1.A x.2.length x.1.c, .slice y.1.A y.2.length y.1.c] ++ cb.toList) W [] (fun v => [.pur (v = .int .i64 (cf x.2 y.2))])) (hlen : ps.length < 4611686018427387904) :
    Does P (ρ.f 6) [.slice A (tops ps).length c, .func (.func f) #[] cb] w0 (Own T SlC A c (tops ps) :: RowsA T2 I64 ps :: H) (fun v => [.exi fun qs : List (Sl × List Int) => .sep (.pur (v = .tuple #[] ∧ qs.Perm ps ∧ (conts qs).Pairwise fun x y => ¬ cf y x < 0)) (.sep (Own T SlC A c (tops qs)) (RowsA T2 I64 qs))] ++ H) := by
  rw [own_tops, tops_len]
  have hO' : SWO (ltOf fun x y : {x // x ∈ ps} => cf x.1.2 y.1.2) := by
    obtain ⟨h1, h2, h3⟩ := hO
    exact ⟨fun x => h1 _, fun x y z => h2 _ _ _, fun x y z => h3 _ _ _⟩
  have h := sort1_does (C := RowC) (T := T) (A := A) (c := c) (w0 := w0) (H := RowsA T2 I64 ps :: H) (xs := ps) (enc := fun p : Sl × List Int => .slice p.1.A p.1.n p.1.c) L (fun x => rfl) rfl (fun x => rfl) (fun x => x ∈ ps) (fun x hx => hx) (fun x y => cf x.1.2 y.1.2) hO' hok (cb := cb) (fun zs W hz hw x y => by
    have k1 := RowsA.rd (i := 1) hw rfl x.2
    have k2 := RowsA.rd (i := 1) hw rfl y.2
    have hw2 := hw.sub (Sub.drop (Sub.refl _))
    have := hcmp W x.1 y.1 x.2 y.2 hw2 k1.2 k2.2 k1.1.2 k2.1.2
    rw [← k1.1.1, ← k2.1.1] at this
    exact this) hlen
  refine h.mono fun v w hs => ?_
  obtain ⟨ys, hs⟩ := St.exi hs
  have hs := hs.sep
  obtain ⟨⟨h1, h2, h3⟩, hs⟩ := hs.pur
  refine St.mkExi ys (St.unsep (St.addPur ⟨h1, h2, ?_⟩ (St.unsep ?_)))
  · unfold conts
    rw [List.pairwise_map]
    refine List.Pairwise.imp_of_mem ?_ h3
    intro a b ha hb hab
    exact hab (h2.mem_iff.1 ha) (h2.mem_iff.1 hb)
  · rw [own_tops]
    have := hs.perm (List.Perm.swap _ _ _)
    have := RowsA.perm h2.symm this
    exact this.perm (List.Perm.swap _ _ _)
end
instance decLtL (x y : List Int) : Decidable (ltL x y) := inferInstanceAs (Decidable (cmpL x y < 0))
theorem swoL : SWO (ltOf cmpL) := by
  have e : ∀ x y : List Int, ltOf cmpL x y = decide (ltL x y) := fun x y => rfl
  refine ⟨fun x => ?_, fun x y z h1 h2 => ?_, fun x y z h1 h2 => ?_⟩
  · rw [e]; exact decide_eq_false (ltL_irrefl x)
  · rw [e] at *
    simp only [decide_eq_true_eq] at *
    exact ltL_trans h1 h2
  · rw [e] at *
    simp only [decide_eq_false_iff_not] at *
    intro h3
    by_cases h4 : ltL y x
    · exact h2 (ltL_trans h4 h3)
    · have := ltL_tri h1 h4
      subst this
      exact h2 h3
/-! ### Each once -/
abbrev SL := Sl × List Int
def d0 : SL := (⟨none, 0, 0⟩, [])
def keepA (l : List SL) (j : Nat) : Prop := j = 0 ∨ (l.getD j d0).2 ≠ (l.getD (j - 1) d0).2
instance (l : List SL) (j : Nat) : Decidable (keepA l j) := inferInstanceAs (Decidable (_ ∨ _))
def kpt (l : List SL) (i : Nat) : List SL := ((List.range i).filter fun j => decide (keepA l j)).map fun j => l.getD j d0
section
variable {l : List SL} {i j k : Nat}
theorem kpt_yes (hi : i < l.length) (h : keepA l i) : kpt l (i + 1) = kpt l i ++ [l[i]] := by
  unfold kpt
  rw [List.range_succ, List.filter_append, List.map_append]
  simp [decide_eq_true h, List.getD, hi]
theorem kpt_no (h : ¬ keepA l i) : kpt l (i + 1) = kpt l i := by
  unfold kpt
  rw [List.range_succ, List.filter_append, List.map_append]
  simp [decide_eq_false h]
theorem kpt_le : (kpt l i).length ≤ i := by
  unfold kpt
  rw [List.length_map]
  exact Nat.le_trans (List.length_filter_le _ _) (by simp)
theorem kpt_all (h : ∀ j, j < i → keepA l j) (hi : i ≤ l.length) : kpt l i = l.take i := by
  induction i with
  | zero => simp [kpt]
  | succ i ih => rw [kpt_yes (by omega) (h i (by omega)), ih (fun j hj => h j (by omega)) (by omega), take_snoc (by omega)]
theorem kpt_sub (hi : i ≤ l.length) : (kpt l i).Sublist l := by
  have : ∀ i, i ≤ l.length → (kpt l i).Sublist (l.take i) := by
    intro i
    induction i with
    | zero => intro _; simp [kpt]
    | succ i ih =>
      intro hi
      rw [take_snoc (by omega)]
      by_cases h : keepA l i
      · rw [kpt_yes (by omega) h]; exact (ih (by omega)).append_right _
      · rw [kpt_no h]; exact (ih (by omega)).trans (List.sublist_append_left _ _)
  exact (this i hi).trans (List.take_sublist _ _)
/-- What the row holds while its elements are moved. -/
def mvt (l : List SL) (i : Nat) : List Sl := tops (kpt l i) ++ (tops l).drop (kpt l i).length
theorem mvt_len (hi : i ≤ l.length) : (mvt l i).length = l.length := by
  have := kpt_le (l := l) (i := i)
  unfold mvt
  rw [List.length_append, List.length_drop, tops_len, tops_len]
  omega
theorem mvt_get (hi : i ≤ l.length) (hk : (kpt l i).length ≤ k) (hkl : k < l.length) (h2 : k < (mvt l i).length) : (mvt l i)[k] = (l[k]).1 := by
  apply Option.some.inj
  rw [← List.getElem?_eq_getElem h2]
  unfold mvt
  rw [List.getElem?_append_right (by rw [tops_len]; exact hk), List.getElem?_drop, tops_len, show (kpt l i).length + (k - (kpt l i).length) = k by omega]
  unfold tops
  rw [List.getElem?_map, List.getElem?_eq_getElem hkl]
  rfl
theorem mvt_yes (hi : i < l.length) (h : keepA l i) : (mvt l i).set (kpt l i).length (l[i]).1 = mvt l (i + 1) := by
  have h1 := kpt_le (l := l) (i := i)
  have hl : (tops (kpt l i)).length = (kpt l i).length := tops_len _
  unfold mvt
  rw [kpt_yes hi h, List.set_append_right _ _ (by omega), hl, Nat.sub_self, List.length_append, List.length_singleton, drop_cons (show (kpt l i).length < (tops l).length by rw [tops_len]; omega), List.set_cons_zero]
  unfold tops
  simp
theorem mvt_no (h : ¬ keepA l i) : mvt l i = mvt l (i + 1) := by
  unfold mvt
  rw [kpt_no h]
theorem mvt_start (h : ∀ j, j < i → keepA l j) (hi : i ≤ l.length) : mvt l i = tops l ∧ (kpt l i).length = i := by
  have e := kpt_all h hi
  have h2 : (kpt l i).length = i := by rw [e, List.length_take]; omega
  refine ⟨?_, h2⟩
  unfold mvt
  rw [h2, e]
  unfold tops
  rw [← List.map_drop, ← List.map_append, List.take_append_drop]
theorem mvt_take : (mvt l i).take (kpt l i).length = tops (kpt l i) := by
  unfold mvt
  rw [List.take_append_of_le_length (by rw [tops_len]; exact Nat.le_refl _), List.take_of_length_le (by rw [tops_len]; exact Nat.le_refl _)]
theorem keepA_at {j : Nat} (hj : 0 < j) (h : j < l.length) : keepA l j ↔ (l[j]).2 ≠ (l[j - 1]).2 := by
  unfold keepA
  have q1 : l.getD j d0 = l[j] := by simp [List.getD, h]
  have q2 : l.getD (j - 1) d0 = l[j - 1] := by simp [List.getD, show j - 1 < l.length by omega]
  rw [q1, q2]
  exact ⟨fun h => h.elim (fun e => by omega) id, .inr⟩
theorem sl_of {s : Sl} {n : Nat} (h : s.n = n) : (⟨s.A, n, s.c⟩ : Sl) = s := by subst h; rfl
theorem mvt_v {k0 k2 K : Nat} (hn : LenOk l) (hi : i ≤ l.length) (hK : K = k0 + k2) (hk : (kpt l i).length ≤ K) (hkl : K < l.length) (h2 : k2 < ((mvt l i).drop k0).length) : (((mvt l i).drop k0)[k2]).v = .slice (l[K]).1.A (l[K]).2.length (l[K]).1.c := by
  subst hK
  rw [List.getElem_drop, mvt_get hi hk hkl]
  unfold Sl.v
  rw [(hn _ (List.getElem_mem hkl)).1]
/-- A list in order, each once. -/
theorem kpt_srt (hs : (conts l).Pairwise fun x y => ¬ ltL y x) : ∀ i, i ≤ l.length → SrtL (conts (kpt l i)) ∧ ∀ r, r ∈ conts (kpt l i) ↔ r ∈ (conts l).take i := by
  have hle : ∀ j k (hj : j < l.length) (hk : k < l.length), j ≤ k → ¬ ltL (l[k]).2 (l[j]).2 := fun j k hj hk hjk => by
    by_cases e : j = k
    · subst e; exact ltL_irrefl _
    · have := List.pairwise_iff_getElem.1 hs j k (by rw [conts_len]; omega) (by rw [conts_len]; omega) (by omega)
      simpa [conts] using this
  intro i
  induction i with
  | zero => intro _; exact ⟨by simp [kpt, conts, SrtL], fun r => by simp [kpt, conts]⟩
  | succ i ih =>
    intro hi
    obtain ⟨h1, h2⟩ := ih (by omega)
    have hc : (conts l)[i]'(by rw [conts_len]; omega) = (l[i]).2 := by simp [conts]
    by_cases h : keepA l i
    · rw [kpt_yes (by omega) h]
      have e : conts (kpt l i ++ [l[i]]) = conts (kpt l i) ++ [(l[i]).2] := by simp [conts]
      rw [e]
      constructor
      · unfold SrtL
        rw [List.pairwise_append]
        refine ⟨h1, List.pairwise_singleton _ _, fun x hx y hy => ?_⟩
        rw [List.mem_singleton] at hy
        subst hy
        obtain ⟨j, hj, rfl⟩ := List.mem_iff_getElem.1 ((h2 x).1 hx)
        rw [List.length_take, conts_len] at hj
        have hjl : j < l.length := by omega
        have ex : ((conts l).take i)[j]'(by rw [List.length_take, conts_len]; omega) = (l[j]).2 := by simp [conts]
        rw [ex]
        have g1 := hle j i hjl (by omega) (by omega)
        have g2 := hle j (i - 1) hjl (by omega) (by omega)
        have g3 := hle (i - 1) i (by omega) (by omega) (by omega)
        apply Classical.byContradiction
        intro g4
        have e1 := ltL_tri g4 g1
        rcases h with h | h
        · omega
        · have q1 : l.getD i d0 = l[i] := by simp [List.getD, show i < l.length by omega]
          have q2 : l.getD (i - 1) d0 = l[i - 1] := by simp [List.getD, show i - 1 < l.length by omega]
          rw [q1, q2] at h
          rw [e1] at g2
          exact h (ltL_tri g3 g2)
      · intro r
        rw [List.mem_append, h2, take_snoc (by rw [conts_len]; omega), List.mem_append, hc]
    · rw [kpt_no h]
      refine ⟨h1, fun r => ?_⟩
      rw [h2, take_snoc (by rw [conts_len]; omega), List.mem_append, hc, List.mem_singleton]
      refine ⟨.inl, fun h3 => h3.elim id fun e => ?_⟩
      subst e
      unfold keepA at h
      have h0 : i ≠ 0 := fun e => h (.inl e)
      have h5 : (l.getD i d0).2 = (l.getD (i - 1) d0).2 := Decidable.byContradiction fun e => h (.inr e)
      have q1 : l.getD i d0 = l[i] := by simp [List.getD, show i < l.length by omega]
      have q2 : l.getD (i - 1) d0 = l[i - 1] := by simp [List.getD, show i - 1 < l.length by omega]
      rw [q1, q2] at h5
      rw [h5]
      refine List.mem_iff_getElem.2 ⟨i - 1, by rw [List.length_take, conts_len]; omega, by simp [conts]⟩
theorem kpt_final (hs : (conts l).Pairwise fun x y => ¬ ltL y x) : SrtL (conts (kpt l l.length)) ∧ ∀ r, r ∈ conts (kpt l l.length) ↔ r ∈ conts l := by
  have h := kpt_srt hs l.length (Nat.le_refl _)
  rwa [List.take_of_length_le (by rw [conts_len]; exact Nat.le_refl _)] at h
end
end Go.Vc
/-
  Plain words: the list of all mitres.
-/
namespace Go.Vc
section
variable {v : Int} {bs : List B3} {a : Int} {q : List Int} {out ys : List SL}
noncomputable def mitF (bs : List B3) (k : Nat) : List (List Int) := mitI bs (k : Int)
def MitA (v : Int) (bs : List B3) (q : List Int) : Prop := ∃ k : Nat, k < v.toNat ∧ Mit bs (k : Int) q
theorem Mit.len (h : Mit bs a q) : q.length = 5 := by
  obtain ⟨x, y, z, _, _, _, _, _, _, _, _, p, r, _, _, _, hp, _⟩ := h
  rw [hp.length_eq]
  rfl
theorem MitA.len (h : MitA v bs q) : q.length ≤ 5 := by
  obtain ⟨k, _, h⟩ := h
  rw [h.len]
  exact Nat.le_refl _
theorem mitA_mem (h : STS v bs) (e : conts out = fmR (mitF bs) v.toNat) : q ∈ conts out ↔ MitA v bs q := by
  rw [e, mem_fmR]
  exact ⟨fun ⟨k, hk, hq⟩ => ⟨k, hk, (mitI_mem h).1 hq⟩, fun ⟨k, hk, hq⟩ => ⟨k, hk, (mitI_mem h).2 hq⟩⟩
theorem mitA_small (h : STS v bs) (e : conts out = fmR (mitF bs) v.toNat) : ∀ q ∈ conts out, q.length ≤ 1000 := fun q hq => by
  have := ((mitA_mem h e).1 hq).len
  omega
theorem mitA_sorted (h : STS v bs) (e : conts out = fmR (mitF bs) v.toNat) (hp : ys.Perm out) (hs : (conts ys).Pairwise fun x y => ¬ ltL y x) : IsList (MitA v bs) (conts (kpt ys ys.length)) := by
  have hf := kpt_final hs
  refine ⟨hf.1, fun r => ?_⟩
  rw [hf.2, ← mitA_mem h e]
  exact (hp.map (·.2)).mem_iff
theorem mit_step {n : Nat} : ((∃ k : Nat, k < n ∧ Mit bs (k : Int) q) ∨ Mit bs (n : Int) q) ↔ ∃ k : Nat, k < n + 1 ∧ Mit bs (k : Int) q := by
  constructor
  · rintro (⟨k, hk, h⟩ | h)
    · exact ⟨k, by omega, h⟩
    · exact ⟨n, by omega, h⟩
  · rintro ⟨k, hk, h⟩
    by_cases e : k = n
    · subst e; exact .inr h
    · exact .inl ⟨k, by omega, h⟩
/-- The number of all mitres. -/
def CntM (v : Int) (bs : List B3) (n : Int) : Prop := (STS v bs → ∃ l, IsList (MitA v bs) l ∧ n = (l.length : Int)) ∧ (¬ STS v bs → n = 0)
theorem CntM.unique {m n : Int} (h1 : CntM v bs m) (h2 : CntM v bs n) : m = n := by
  by_cases h : STS v bs
  · obtain ⟨l1, k1, rfl⟩ := h1.1 h
    obtain ⟨l2, k2, rfl⟩ := h2.1 h
    rw [k1.unique k2]
  · rw [h1.2 h, h2.2 h]
end
section
variable {α : Type} {T : TypeId} {C : Cod α} {w0 w : World} {H : List Assn}
theorem RowsA.takeOne {ps : List (Sl × List α)} {k : Nat} (hk : k < ps.length) (hw : St w0 (RowsA T C (ps.drop k) :: H) w) : St w0 (Own T C (ps[k]).1.A (ps[k]).1.c (ps[k]).2 :: RowsA T C (ps.drop (k + 1)) :: H) w := by
  rw [drop_cons hk] at hw
  exact (RowsA.uncons (s := (ps[k]).1) (xs := (ps[k]).2) hw).2
end
end Go.Vc
/-
  Plain words: systems with few points, by their numbers.
-/
namespace Go.Vc
/-- How many systems there are. -/
def numN (v : Int) : Nat := if v = 3 then 1 else if v = 7 then 30 else if v = 9 then 840 else 0
/-- What both SystemAt return. -/
noncomputable def atR (v i : Int) : Int × List B3 × Int := if few9 v ∧ 0 ≤ i ∧ i < numN v then (v, (allN v).getD i.toNat [], 0) else (0, [], 2)
/-! ### Common numbers -/
theorem sum_ind (k n : Nat) : ((List.range n).map fun q => if k = q then (1 : Int) else 0).sum = if k < n then 1 else 0 := by
  induction n with
  | zero => rfl
  | succ n ih =>
    rw [List.range_succ, List.map_append, List.sum_append, ih]
    simp only [List.map_cons, List.map_nil, List.sum_cons, List.sum_nil]
    (repeat' split) <;> omega
theorem sum_add {α : Type} (f g : α → Int) : ∀ l : List α, (l.map fun q => f q + g q).sum = (l.map f).sum + (l.map g).sum := by
  intro l
  induction l with
  | nil => rfl
  | cons x l ih => simp only [List.map_cons, List.sum_cons, ih]; omega
section
variable {v : Int} {bs : List B3}
end
/-! ### Apart -/
/-- What both AreApart return. -/
noncomputable def aaC (v : Int) (bs : List B3) (u : Int) (cs : List B3) : Int := if STS v bs ∧ STS u cs then if v = u then 0 else 5 else 1
end Go.Vc
/-
  The calculus, part 25: numbers that are drawn from a code: words of 64 bits that wrap around, bytes, the source.
-/
namespace Go.Vc
open Go Go.RowKit
theorem wrapU (n : Nat) : IntKind.u64.wrap (n : Int) = ((n % 18446744073709551616 : Nat) : Int) := by
  simp only [IntKind.wrap, IntKind.bits, IntKind.signed, Bool.false_and, Bool.false_eq_true, if_false]
  omega
/-- Bytes. -/
def U8C : Cod UInt8 := ⟨1, fun x => [.int .u8 (x.toNat : Int)], by decide, fun _ => rfl, fun _ u hu => by simp at hu; subst hu; rfl⟩
/-- Texts. -/
def StrC : Cod ByteArray := ⟨1, fun x => [.string x], by decide, fun _ => rfl, fun _ u hu => by simp at hu; subst hu; rfl⟩
section
variable {P : Program} {w0 w : World} {H : List Assn} {σ : Sig} {o : Oper} {T T2 : TypeId} {x y : Operand} {m n : Nat}
theorem Pu.mulU (ho : o.op = .binOp .mul T x y T2) (hx : ev σ x = some (.int .u64 (m : Int))) (hy : ev σ y = some (.int .u64 (n : Int))) : Pu P w0 o σ H (.int .u64 ((m * n % 18446744073709551616 : Nat) : Int)) := by
  have := Pu.mulW (P := P) (w0 := w0) (H := H) ho hx hy
  rwa [show (m : Int) * (n : Int) = ((m * n : Nat) : Int) by push_cast; rfl, wrapU] at this
theorem Pu.addU (ho : o.op = .binOp .add T x y T2) (hx : ev σ x = some (.int .u64 (m : Int))) (hy : ev σ y = some (.int .u64 (n : Int))) : Pu P w0 o σ H (.int .u64 (((m + n) % 18446744073709551616 : Nat) : Int)) := by
  have := Pu.add (P := P) (w0 := w0) (H := H) ho hx hy
  rwa [show (m : Int) + (n : Int) = ((m + n : Nat) : Int) by push_cast; rfl, wrapU] at this
theorem Pu.andU (hm : m < 18446744073709551616) (hn : n < 18446744073709551616) (ho : o.op = .binOp .and T x y T2) (hx : ev σ x = some (.int .u64 (m : Int))) (hy : ev σ y = some (.int .u64 (n : Int))) : Pu P w0 o σ H (.int .u64 ((m &&& n : Nat) : Int)) :=
  Pu.bin ho hx hy fun w => by
    have h1 : (BitVec.ofInt IntKind.u64.bits (m : Int) &&& BitVec.ofInt IntKind.u64.bits (n : Int)).toNat = m &&& n := by
      rw [BitVec.toNat_and, ofInt_nat (by show m < 2 ^ 64; omega), ofInt_nat (by show n < 2 ^ 64; omega)]
    have h2 : m &&& n < 18446744073709551616 := Nat.lt_of_le_of_lt Nat.and_le_left hm
    simp only [Go.binOp, Op.intBits, h1, wrap_u64 h2, ne_eq, not_true, if_false]
    rfl
theorem and_le_r {m n : Nat} : m &&& n ≤ n := Nat.and_le_right
end
/-- One of three comes next. -/
theorem D.either3 {P : Program} {w0 : World} {Q : Exit → Act → World → Prop} {σ : Sig} {H : List Assn} {N : Nat} {ops : Array Oper} {Hs : List Assn} (hwf : wfB ops = true) {effs done : List Nat} {e1 e2 e3 : Nat} (hcl : closedL ops done [e1, e2, e3] = true) (h1 : Cand P N w0 ops Q effs done σ Hs H e1) (h2 : Cand P N w0 ops Q effs done σ Hs H e2) (h3 : Cand P N w0 ops Q effs done σ Hs H e3) : D P N w0 ops Q effs done σ Hs H := by
  refine D.effS hwf [e1, e2, e3] e1 (by simp) hcl ?_
  intro e he
  simp only [List.mem_cons, List.not_mem_nil, or_false] at he
  rcases he with rfl | rfl | rfl
  · exact h1
  · exact h2
  · exact h3
/-! ### append(s, ys...) where ys may be nil -/
section
variable {α : Type} {P : Program} {w0 w : World} {Q : Exit → Act → World → Prop} {H H' : List Assn} {σ : Sig} {o : Oper}
theorem Own.nilc {w : World} {T i c : Nat} {C : Cod α} {A : Option Addr} {xs : List α} (hw : St w0 H w) (hp : pull i H = Option.some (Own T C A c xs, H')) (hA : A = none) : xs.length = 0 ∧ c = 0 := by
  obtain ⟨F, ho, hF⟩ := hw.get i hp
  subst hA
  rcases ho.2 with ⟨h1, h2⟩ | ⟨g, cap, cur, hvv, _⟩
  · injection h1 with h3 h4 h5
    exact ⟨h2, h5⟩
  · injection hvv with h3
    cases h3
theorem Ef.appendN {T e sz bytes c c2 m : Nat} {x y : Operand} {z : Value} {C : Cod α} {A A2 : Option Addr} {xs ys : List α} (i : Nat) (ho : o.op = .call { callee := .builtin .append, args := #[x, y], argTypes := #[T, T] }) (hT : P.underlying T = some (.slice e)) (hi : Inf P e sz bytes z) (hs : sz = C.sz) (hzc : z.cells.size = sz)
    (hx : ev σ x = some (.slice A xs.length c)) (hy : ev σ y = some (.slice A2 m c2)) (hp : pull i H = some (Own e C A c xs, H')) (hm : m = ys.length) (hA2 : ∀ w, St w0 H w → A2 = none → ys.length = 0 ∧ c2 = 0) (hr : ∀ w, St w0 H w → Rd C w A2 ys) (hb : (xs.length + ys.length) * bytes ≤ 140737488355328) (hbp : 0 < bytes) :
    Ef P w0 o σ H Q (fun v H'' => ∃ A' c', v = .slice A' (xs ++ ys).length c' ∧ H'' = repl i H (Own e C A' c' (xs ++ ys)) ∧ (A.isSome = true ∨ 0 < ys.length → A'.isSome = true)) := by
  cases A2 with
  | some q => exact Ef.append i ho hT hi hs hzc hx hy hp hm rfl hr hb hbp
  | none =>
    refine Ef.mk fun w hw a ha => ?_
    have h1 := ha x (by simp [ho, Op.operands, Call.operands]) _ hx
    have h2 := ha y (by simp [ho, Op.operands, Call.operands]) _ hy
    obtain ⟨h3, h4⟩ := hA2 w hw rfl
    subst hs
    subst hm
    subst h4
    have hys : ys = [] := List.length_eq_zero_iff.1 h3
    subst hys
    obtain ⟨i0, hi1, hi2, hi3, hi4⟩ := hi.parts
    obtain ⟨F, hown, hF⟩ := hw.get i hp
    have hrun := run_append_owned_none (P := P) (w := w) 0 T o.type e i0 C.sz hT hi1 _ xs.length (xs.flatMap C.enc) hown
    refine ⟨.slice A xs.length c, w, by simp only [List.length_nil] at h2; simp [execOp, ho, resolve, invoke, builtin, h1, h2, hrun], repl i H (Own e C A c (xs ++ [])), ?_, A, c, by rw [List.append_nil], rfl, fun h => by rcases h with h | h; (· exact h); (· simp at h)⟩
    rw [List.append_nil]
    exact (hw.perm (pull_perm hp)).perm (repl_perm hp)
end
/-- The source: the code, how much of it is used, a word. -/
def SrcK (T : TypeId) (cA : Option Addr) (cc : Nat) (code : List UInt8) (s : Nat) : Assn :=
  .exi fun q : Nat × Nat => .sep (.pur (q.1 ≤ code.length ∧ q.2 < 18446744073709551616)) (Blk s [.slice cA code.length cc, .int .i64 (q.1 : Int), .int .u64 (q.2 : Int)] T)
section
variable {P : Program} {N : Nat} {w0 w : World} {Q : Exit → Act → World → Prop} {σ : Sig} {H H' : List Assn} {T : TypeId} {cA : Option Addr} {cc s : Nat} {code : List UInt8}
theorem SrcK.elim (hw : St w0 (SrcK T cA cc code s :: H) w) : ∃ a h : Nat, (a ≤ code.length ∧ h < 18446744073709551616) ∧ St w0 (Blk s [.slice cA code.length cc, .int .i64 (a : Int), .int .u64 (h : Int)] T :: H) w := by
  obtain ⟨q, hw⟩ := hw.exi
  have h := hw.sep.pur
  exact ⟨q.1, q.2, h.1, h.2⟩
theorem SrcK.mk {a h : Nat} (hp : a ≤ code.length ∧ h < 18446744073709551616) (hw : St w0 (Blk s [.slice cA code.length cc, .int .i64 (a : Int), .int .u64 (h : Int)] T :: H) w) : St w0 (SrcK T cA cc code s :: H) w :=
  St.mkExi (a, h) (St.unsep (St.addPur hp hw))
theorem V.srcK {c : Code} (h : ∀ a h : Nat, a ≤ code.length → h < 18446744073709551616 → V P N w0 c Q σ (Blk s [.slice cA code.length cc, .int .i64 (a : Int), .int .u64 (h : Int)] T :: H)) : V P N w0 c Q σ (SrcK T cA cc code s :: H) := by
  intro w hw
  obtain ⟨a, h', h1, h2⟩ := SrcK.elim hw
  exact h a h' h1.1 h1.2 w h2
end
end Go.Vc
/-
  Plain words: systems that are drawn: their blocks are blocks.
-/
namespace Go.Vc
open Go
/-- A list of blocks on 3 to 15 points. -/
def DrS (n : Nat) (v : Int) (bs : List B3) : Prop := (3 ≤ v ∧ v ≤ 15) ∧ (∀ b ∈ bs, good v b) ∧ bs.length ≤ n
theorem DrS.mono {n m : Nat} {v : Int} {bs : List B3} (h : DrS n v bs) (hm : n ≤ m) : DrS m v bs := ⟨h.1, h.2.1, Nat.le_trans h.2.2 hm⟩
theorem DrS.perm {n : Nat} {v : Int} {bs cs : List B3} (h : DrS n v bs) (hp : cs.Perm bs) : DrS n v cs := ⟨h.1, fun b hb => h.2.1 b (hp.mem_iff.1 hb), by rw [hp.length_eq]; exact h.2.2⟩
theorem DrS.g15 {n : Nat} {v : Int} {bs : List B3} (h : DrS n v bs) : ∀ b ∈ bs, good 15 b := fun b hb => (h.2.1 b hb).mono h.1.2
/-- The numbers below n, each once. -/
def OrdP (n : Int) (p : List Int) : Prop := (p.length : Int) = n ∧ p.Nodup ∧ ∀ q ∈ p, 0 ≤ q ∧ q < n
theorem ord_nil : OrdP 0 [] := ⟨rfl, List.nodup_nil, fun q h => by simp at h⟩
theorem ord_ins {p : List Int} {k i : Nat} (h : OrdP (i : Int) p) : OrdP ((i + 1 : Nat) : Int) (p.take k ++ [(i : Int)] ++ p.drop k) := by
  have hp : (p.take k ++ [(i : Int)] ++ p.drop k).Perm ((i : Int) :: p) := by
    rw [List.append_assoc]
    have h1 : (p.take k ++ ([(i : Int)] ++ p.drop k)).Perm ((i : Int) :: (p.take k ++ p.drop k)) := List.perm_middle
    rwa [List.take_append_drop] at h1
  refine ⟨?_, ?_, fun q hq => ?_⟩
  · have h1 := h.1
    have h2 := hp.length_eq
    rw [List.length_cons] at h2
    omega
  · rw [hp.nodup_iff, List.nodup_cons]
    exact ⟨fun hm => by have := (h.2.2 _ hm).2; omega, h.2.1⟩
  · rcases List.mem_cons.1 (hp.mem_iff.1 hq) with rfl | hq
    · omega
    · have := h.2.2 q hq; omega
theorem good_bk3 {v a b c : Int} (ha : 0 ≤ a ∧ a < v) (hb : 0 ≤ b ∧ b < v) (hc : 0 ≤ c ∧ c < v) (h1 : a ≠ b) (h2 : a ≠ c) (h3 : b ≠ c) : good v (bk3 a b c) := by
  unfold good bk3 mi3 lo3 hi3
  simp only
  omega
theorem ord_ne {n : Int} {p : List Int} (h : OrdP n p) {i j : Nat} (hi : i < p.length) (hj : j < p.length) (hij : i ≠ j) : p[i] ≠ p[j] := fun e => hij ((List.getElem_inj h.2.1).1 e)
theorem ord_at {n : Int} {p : List Int} (h : OrdP n p) {i : Nat} (hi : i < p.length) : 0 ≤ p[i] ∧ p[i] < n := h.2.2 _ (List.getElem_mem hi)
theorem good_ren {v : Int} {p : List Int} (h : OrdP v p) {b : B3} (hb : good v b) : good v (renB p b) := by
  have hl := h.1
  unfold good at hb
  unfold renB
  rw [getD_at (by omega), getD_at (by omega), getD_at (by omega)]
  exact good_bk3 (ord_at h _) (ord_at h _) (ord_at h _) (ord_ne h _ _ (by omega)) (ord_ne h _ _ (by omega)) (ord_ne h _ _ (by omega))
theorem DrS.ren {n : Nat} {v : Int} {bs cs : List B3} {p : List Int} (h : DrS n v bs) (ho : OrdP v p) (hp : cs.Perm (bs.map (renB p))) : DrS n v cs := by
  refine ⟨h.1, fun b hb => ?_, by rw [hp.length_eq, List.length_map]; exact h.2.2⟩
  obtain ⟨d, hd, rfl⟩ := List.mem_map.1 (hp.mem_iff.1 hb)
  exact good_ren ho (h.2.1 d hd)
theorem third_good {v : Int} {bs : List B3} (hg : ∀ d ∈ bs, good v d) {a b : Int} (hab : a ≠ b) (h : ¬ third bs a b < 0) : (0 ≤ third bs a b ∧ third bs a b < v) ∧ third bs a b ≠ a ∧ third bs a b ≠ b := by
  unfold third at *
  split at h
  · exact absurd (by decide) h
  · rename_i hn
    rw [if_neg hn]
    unfold num at *
    obtain ⟨i, hi, q1, q2, _⟩ := idxP_at (p := fun c => has c a ∧ has c b) (xs := bs) (fun e => hn (by rw [e]; decide))
    rw [q1] at h ⊢
    rw [blk_get hi] at h ⊢
    have hgi := hg _ (List.getElem_mem hi)
    unfold good at hgi
    unfold has at q2
    omega
theorem DrS.cut {n : Nat} {v : Int} {bs cs : List B3} (h : DrS n v bs) {i : Nat} (hc : cs = bs.take i ++ bs.drop (i + 1)) : DrS n v cs := by
  subst hc
  refine ⟨h.1, fun b hb => ?_, ?_⟩
  · rcases List.mem_append.1 hb with hb | hb
    · exact h.2.1 b (List.mem_of_mem_take hb)
    · exact h.2.1 b (List.mem_of_mem_drop hb)
  · have := h.2.2
    rw [List.length_append, List.length_take, List.length_drop]
    omega
/-- The names of systems. -/
def nmL : List ByteArray := [ByteArray.mk #[115, 105, 110, 103, 108, 101], ByteArray.mk #[102, 97, 110, 111], ByteArray.mk #[97, 102, 102, 105, 110, 101], ByteArray.mk #[99, 121, 99, 108, 105, 99, 49, 51], ByteArray.mk #[99, 121, 99, 108, 105, 99, 49, 53], ByteArray.mk #[112, 114, 111, 106, 101, 99, 116, 105, 118, 101, 49, 53]]
theorem good_snoc {v : Int} {bs : List B3} (h : ∀ b ∈ bs, good v b) {d : B3} (hd : good v d) : ∀ b ∈ bs ++ [d], good v b := fun b hb => by
  rcases List.mem_append.1 hb with hb | hb
  · exact h b hb
  · rw [List.mem_singleton.1 hb]; exact hd
section
variable {P : Program} {w0 w : World} {H : List Assn} {σ : Sig} {o : Oper} {T T2 : TypeId} {x y : Operand} {m n : Nat}
theorem xor_lt {m n : Nat} (h : m < 9223372036854775808) (h' : n < 9223372036854775808) : m ^^^ n < 9223372036854775808 := Nat.xor_lt_two_pow (n := 63) h h'
theorem Pu.xor {k : IntKind} (hk : K64 k) (hm : m < 9223372036854775808) (hn : n < 9223372036854775808) (ho : o.op = .binOp .xor T x y T2) (hx : ev σ x = some (.int k (m : Int))) (hy : ev σ y = some (.int k (n : Int))) : Pu P w0 o σ H (.int k ((m ^^^ n : Nat) : Int)) :=
  Pu.bin ho hx hy fun w => by
    have h1 : (BitVec.ofInt k.bits (m : Int) ^^^ BitVec.ofInt k.bits (n : Int)).toNat = m ^^^ n := by
      rw [BitVec.toNat_xor, ofInt_nat (by rw [hk.bits]; omega), ofInt_nat (by rw [hk.bits]; omega)]
    simp only [Go.binOp, Op.intBits, h1, hk.wrap (xor_lt hm hn), ne_eq, not_true, if_false]
    rfl
end
end Go.Vc
