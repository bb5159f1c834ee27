/-
  The calculus and plain words, part 5.
-/
import Derived.Test.YtgfpljeppfaolaaGreatKa4
import Derived.Shelf.SlSortCmp.NoneTotal
import Derived.Shelf.SortM.Plain
import Derived.Shelf.SortM.SortNone
import Derived.Laws.OwnMore
set_option linter.unusedVariables false
set_option linter.unusedSimpArgs false
namespace Go.Vc
noncomputable def allN (v : Int) : List (List B3) := compM 40 v.toNat 0
theorem sts_mul {v : Int} {bs : List B3} (h : STS v bs) : 0 ≤ v * (v - 1) ∧ v * (v - 1) ≤ 1000000 := by
  have h1 := h.lo
  have h2 := h.hi
  refine ⟨Int.mul_nonneg (by omega) (by omega), ?_⟩
  have := Int.mul_le_mul h2 (show v - 1 ≤ 15 by omega) (by omega) (by omega)
  omega
end Go.Vc

namespace Go.Vc
open Go Go.RowKit
section
variable {P : Program} {w0 w : World} {Q : Exit → Act → World → Prop} {σ : Sig} {H : List Assn} {o : Oper} {ts : Array TypeId}
theorem run_min2 (a b : Int) : (Builtin.min2 (.int .i64 a) (.int .i64 b)).run P w = .ok (.int .i64 (if b < a then b else a)) w := by
  unfold Builtin.min2
  by_cases h : b < a <;> simp [h]
theorem run_max2 (a b : Int) : (Builtin.max2 (.int .i64 a) (.int .i64 b)).run P w = .ok (.int .i64 (if a < b then b else a)) w := by
  unfold Builtin.max2
  by_cases h : a < b <;> simp [h]
theorem Pu.min2 {x y : Operand} {a b r : Int} (hr : r = if b < a then b else a) (ho : o.op = .call { callee := .builtin .min, args := #[x, y], argTypes := ts }) (hx : ev σ x = some (.int .i64 a)) (hy : ev σ y = some (.int .i64 b)) : Pu P w0 o σ H (.int .i64 r) := by
  subst hr
  intro w hw c ha
  have h1 := ha x (by simp [ho, Op.operands, Call.operands]) _ hx
  have h2 := ha y (by simp [ho, Op.operands, Call.operands]) _ hy
  simp [execOp, ho, h1, h2, resolve, invoke, builtin, Builtin.min_, run_min2]
theorem Pu.max2 {x y : Operand} {a b r : Int} (hr : r = if a < b then b else a) (ho : o.op = .call { callee := .builtin .max, args := #[x, y], argTypes := ts }) (hx : ev σ x = some (.int .i64 a)) (hy : ev σ y = some (.int .i64 b)) : Pu P w0 o σ H (.int .i64 r) := by
  subst hr
  intro w hw c ha
  have h1 := ha x (by simp [ho, Op.operands, Call.operands]) _ hx
  have h2 := ha y (by simp [ho, Op.operands, Call.operands]) _ hy
  simp [execOp, ho, h1, h2, resolve, invoke, builtin, Builtin.max_, run_max2]
theorem Pu.min3 {x y z : Operand} {a b d r : Int} (hr : r = if d < (if b < a then b else a) then d else (if b < a then b else a)) (ho : o.op = .call { callee := .builtin .min, args := #[x, y, z], argTypes := ts }) (hx : ev σ x = some (.int .i64 a)) (hy : ev σ y = some (.int .i64 b)) (hz : ev σ z = some (.int .i64 d)) : Pu P w0 o σ H (.int .i64 r) := by
  subst hr
  intro w hw c ha
  have h1 := ha x (by simp [ho, Op.operands, Call.operands]) _ hx
  have h2 := ha y (by simp [ho, Op.operands, Call.operands]) _ hy
  have h3 := ha z (by simp [ho, Op.operands, Call.operands]) _ hz
  simp [execOp, ho, h1, h2, h3, resolve, invoke, builtin, Builtin.min_, run_min2]
theorem Pu.max3 {x y z : Operand} {a b d r : Int} (hr : r = if (if a < b then b else a) < d then d else (if a < b then b else a)) (ho : o.op = .call { callee := .builtin .max, args := #[x, y, z], argTypes := ts }) (hx : ev σ x = some (.int .i64 a)) (hy : ev σ y = some (.int .i64 b)) (hz : ev σ z = some (.int .i64 d)) : Pu P w0 o σ H (.int .i64 r) := by
  subst hr
  intro w hw c ha
  have h1 := ha x (by simp [ho, Op.operands, Call.operands]) _ hx
  have h2 := ha y (by simp [ho, Op.operands, Call.operands]) _ hy
  have h3 := ha z (by simp [ho, Op.operands, Call.operands]) _ hz
  simp [execOp, ho, h1, h2, h3, resolve, invoke, builtin, Builtin.max_, run_max2]
end
end Go.Vc

namespace Go.Vc
def leB (a b : B3) : Prop := ¬ B3.lt b a
theorem leB_trans {a b c : B3} (h1 : leB a b) (h2 : leB b c) : leB a c := by unfold leB B3.lt at *; omega
theorem leB_of {a b : B3} (h : B3.lt a b) : leB a b := by unfold leB B3.lt at *; omega
theorem leB_anti {a b : B3} (h1 : leB a b) (h2 : leB b a) : a = b := by
  obtain ⟨a1, a2, a3⟩ := a
  obtain ⟨b1, b2, b3⟩ := b
  unfold leB B3.lt at *
  simp only at *
  have e1 : a1 = b1 := by omega
  have e2 : a2 = b2 := by omega
  have e3 : a3 = b3 := by omega
  rw [e1, e2, e3]
def SrtB (l : List B3) : Prop := l.Pairwise leB
theorem ins_perm {l : List B3} {b : B3} {y : Nat} : (l.take y ++ b :: l.drop y).Perm (l ++ [b]) := by
  refine List.perm_middle.trans ?_
  rw [List.take_append_drop]
  exact (List.perm_append_comm (l₁ := [b])).trans (List.Perm.refl _)
theorem ins_sorted {l : List B3} {b : B3} {y : Nat} (hs : SrtB l) (hy : y ≤ l.length) (h1 : ∀ j (hj : j < l.length), y ≤ j → B3.lt b l[j]) (h2 : ∀ (h0 : 0 < y), ¬ B3.lt b (l[y - 1]'(by omega))) : SrtB (l.take y ++ b :: l.drop y) := by
  have hp := List.pairwise_iff_getElem.1 hs
  unfold SrtB
  rw [List.pairwise_append, List.pairwise_cons]
  have hd : ∀ x ∈ l.drop y, B3.lt b x := by
    intro x hx
    obtain ⟨j, hj, rfl⟩ := List.getElem_of_mem hx
    rw [List.length_drop] at hj
    rw [List.getElem_drop]
    exact h1 (y + j) (by omega) (by omega)
  have ht : ∀ x ∈ l.take y, leB x b := by
    intro x hx
    obtain ⟨j, hj, rfl⟩ := List.getElem_of_mem hx
    rw [List.length_take] at hj
    rw [List.getElem_take]
    have h3 := h2 (by omega)
    by_cases e : j = y - 1
    · subst e; exact h3
    · exact leB_trans (hp j (y - 1) (by omega) (by omega) (by omega)) h3
  refine ⟨hs.sublist (List.take_sublist _ _), ⟨fun x hx => leB_of (hd x hx), hs.sublist (List.drop_sublist _ _)⟩, fun x hx z hz => ?_⟩
  rcases List.mem_cons.1 hz with rfl | hz
  · exact ht x hx
  · exact leB_trans (ht x hx) (leB_of (hd z hz))
theorem srtB_unique : ∀ {l m : List B3}, SrtB l → SrtB m → l.Perm m → l = m := by
  intro l
  induction l with
  | nil => intro m _ _ h; exact (List.Perm.nil_eq h)
  | cons a l ih =>
    intro m h1 h2 h
    cases m with
    | nil => exact absurd h.length_eq (by simp)
    | cons b m =>
      obtain ⟨ha, hl⟩ := List.pairwise_cons.1 h1
      obtain ⟨hb, hm⟩ := List.pairwise_cons.1 h2
      have e : a = b := by
        rcases List.mem_cons.1 (h.mem_iff.1 (List.mem_cons_self ..)) with e | e
        · exact e
        · rcases List.mem_cons.1 (h.mem_iff.2 (List.mem_cons_self ..)) with e' | e'
          · exact e'.symm
          · exact leB_anti (ha b e') (hb a e)
      subst e
      rw [ih hl hm (List.Perm.cons_inv h)]
theorem srtB_lt {l : List B3} (h : l.Pairwise B3.lt) : SrtB l := h.imp leB_of
end Go.Vc

namespace Go.Vc
open Go Go.RowKit
section
variable {v m a b c n p k : Nat} {U : List Bool}
def RelU (v : Nat) (U : List Bool) (m : Nat) : Prop := U.length = 256 ∧ ∀ x y : Nat, x < v → y < v → x ≠ y → U.getD (prI x y) false = usd m x y
theorem prI_lt (ha : a < 16) (hb : b < 16) : prI a b < 256 := by unfold prI; omega
variable {most : Nat} {α : Type}
end
section
variable {P : Program} {N : Nat} {w0 w : World} {Q : Exit → Act → World → Prop} {σ : Sig} {H H' : List Assn} {ops : Array Oper} {rest : List Oper}
def SrchK (T uT fT bT : TypeId) (sb v most : Nat) (keep : Bool) (m : Nat) (l : List (List B3)) : Assn :=
  .exi fun q : ((Option Addr × Nat) × List Bool) × (Option Addr × Nat) × List (Sl × List B3) => .sep (.pur (RelU v q.1.2 m ∧ (conts q.2.2 = if keep then l else []) ∧ ∀ p ∈ q.2.2, p.1.A.isSome = true))
    (.sep (Blk sb [.int .i64 (v : Int), .slice q.1.1.1 q.1.2.length q.1.1.2, .int .i64 (l.length : Int), .int .i64 (most : Int), .bool keep, .slice q.2.1.1 (tops q.2.2).length q.2.1.2] T)
      (.sep (Own uT BoolC q.1.1.1 q.1.1.2 q.1.2) (.sep (Own fT SlC q.2.1.1 q.2.1.2 (tops q.2.2)) (RowsA bT B3C q.2.2))))
theorem inB_pts {v : Nat} {d : B3} (hd : inB v d) (hv : v ≤ 15) : (0 ≤ d.1 ∧ d.1 < 16) ∧ (0 ≤ d.2.1 ∧ d.2.1 < 16) ∧ (0 ≤ d.2.2 ∧ d.2.2 < 16) := by
  obtain ⟨x, y, z, rfl, h1, h2, h3⟩ := hd
  unfold b3N
  simp only
  omega
variable {T uT fT bT : TypeId} {sb v most m : Nat} {keep : Bool} {l : List (List B3)}
theorem SrchK.mk {uA fA : Option Addr} {uk fk : Nat} {U : List Bool} {ps : List (Sl × List B3)} (hr : RelU v U m) (hc : conts ps = if keep then l else []) (hso : ∀ p ∈ ps, p.1.A.isSome = true)
    (hw : St w0 (Blk sb [.int .i64 (v : Int), .slice uA U.length uk, .int .i64 (l.length : Int), .int .i64 (most : Int), .bool keep, .slice fA (tops ps).length fk] T :: Own uT BoolC uA uk U :: Own fT SlC fA fk (tops ps) :: RowsA bT B3C ps :: H) w) : St w0 (SrchK T uT fT bT sb v most keep m l :: H) w := by
  refine St.mkExi (((uA, uk), U), (fA, fk), ps) (St.unsep (St.addPur ⟨hr, hc, hso⟩ ?_))
  have h1 : St w0 (Own fT SlC fA fk (tops ps) :: RowsA bT B3C ps :: Own uT BoolC uA uk U :: Blk sb [.int .i64 (v : Int), .slice uA U.length uk, .int .i64 (l.length : Int), .int .i64 (most : Int), .bool keep, .slice fA (tops ps).length fk] T :: H) w := hw.sub (Sub.keep 2 rfl (Sub.keep 2 rfl (Sub.keep 1 rfl (Sub.keep 0 rfl (Sub.refl _)))))
  have h2 := (St.unsep h1).perm (List.Perm.swap _ _ _)
  have h3 := (St.unsep h2).perm (List.Perm.swap _ _ _)
  exact St.unsep h3
end
end Go.Vc

namespace Go.Vc
open Go Go.RowKit
section
variable {P : Program} {w0 w : World} {σ : Sig} {H H' : List Assn} {o : Oper} {v : Int}
theorem Pu.fieldAddr' {T : TypeId} {x : Operand} {f off : Nat} {p : Option Addr} {fs : Array Field} {fd : Field} {n : Nat} (ho : o.op = .fieldAddr T x f) (hT : P.underlying T = some (.struct fs)) (hf : fs[f]? = some fd) (hs : Sz P fd.type (n + 1)) (hx : ev σ x = some (.pointer p)) (hr : fd.offset = off) (hp : ∀ w, St w0 H w → p.isSome = true) :
    Pu P w0 o σ H (.pointer (p.map (·.add off))) := by
  intro w hw a ha
  subst hr
  have h1 := ha x (by simp [ho, Op.operands]) _ hx
  obtain ⟨q, rfl⟩ := Option.isSome_iff_exists.1 (hp w hw)
  simp [execOp, ho, h1, Instr.fieldAt, run_underlying hT, hf, Instr.sureAddr, fieldPlace, run_sz hs]
end
end Go.Vc

namespace Go.Vc
def ApartB (bs q : List B3) : Prop := ∀ b ∈ bs, b ∉ q
instance (bs q : List B3) : Decidable (ApartB bs q) := inferInstanceAs (Decidable (∀ b ∈ bs, b ∉ q))
theorem apart_I {bs q : List B3} : (bs.filter fun b => decide (b ∈ q)).length = 0 ↔ ApartB bs q := by
  rw [List.length_eq_zero_iff, List.filter_eq_nil_iff]
  unfold ApartB
  simp
section
variable {bs : List B3} {ls : List (List B3)} {n i : Nat}
end
section
variable {w0 w : World} {H : List Assn} {α : Type} {T : TypeId} {C : Cod α}
theorem RowsA.out {ps : List (Sl × List α)} {k : Nat} (hk : k < ps.length) (hw : St w0 (RowsA T C ps :: H) w) : St w0 (Own T C (ps[k]).1.A (ps[k]).1.c (ps[k]).2 :: H) w := by
  have e : ps = ps.take k ++ ps[k] :: ps.drop (k + 1) := by
    rw [← List.drop_eq_getElem_cons hk, List.take_append_drop]
  have hp : ps.Perm (ps[k] :: (ps.take k ++ ps.drop (k + 1))) := by
    conv => lhs; rw [e]
    exact List.perm_middle
  have h1 := RowsA.perm hp hw
  exact ((RowsA.uncons (s := (ps[k]).1) (xs := (ps[k]).2) h1).2).sub (Sub.keep 0 rfl (Sub.drop (Sub.refl _)))
end
end Go.Vc

namespace Go.Vc
open Go Go.RowKit
section
variable {P : Program} {N : Nat} {w0 w : World} {Q : Exit → Act → World → Prop} {σ : Sig} {H H' : List Assn}
theorem X.retCell2 {fn : Func} {t s n : Nat} {T : TypeId} {p : Option Addr} {cs : List Value} {u : Value} {R : Value → List Assn} (hr : fn.results = #[.cell t T, .tmp s]) (hT : aggT P T = true) (hz : Sz P T n) (hl : cs.length = n) (ht : look σ t = some (.pointer p)) (hs' : look σ s = some u)
    (hc : ∀ w, St w0 H w → ∃ q, p = some q ∧ ∀ j u, cs[j]? = some u → w.cell? (q.add j) = some u) (hs : ∀ w, St w0 H w → St w0 (R (.tuple #[.agg cs.toArray, u])) w) :
    X N w0 (bodyPost P fn (fun e w' => ∃ v, e = .returned v ∧ St w0 (R v) w')) .ret σ H := by
  intro w hw a ha
  refine ⟨ha.defers, .tuple #[.agg cs.toArray, u], ?_, _, rfl, hs w hw⟩
  have h1 := ha.look_ t _ ht
  have h2 := ha.look_ s _ hs'
  obtain ⟨q, rfl, hq⟩ := hc w hw
  subst hl
  have hrn := run_loadCells_list (P := P) (w := w) q cs hq
  simp [results, hr, h1, h2, asAddr, loadVar, run_isAgg_t hT, run_sz hz, hrn]
end
section
variable {w0 : World} {H : List Assn}
theorem Ld.part {A : Option Addr} {xs : List B3} {k s j : Nat} {u : Value} (hr : ∀ w, St w0 H w → Rd B3C w A xs) (hk : k < xs.length) (hs : s = 3) (hu : (B3.cs xs[k])[j]? = some u) : ∀ w, St w0 H w → ∃ q, (A.map (·.add (k * s))).map (·.add j) = some q ∧ w.cell? q = some u := by
  intro w hw
  obtain ⟨q, h1, h2⟩ := Ld.rds hr hk (s := s) hs w hw
  exact ⟨q.add j, by rw [h1]; rfl, h2 j u hu⟩
end
theorem Pu.eqlStr {P : Program} {w0 : World} {H : List Assn} {σ : Sig} {o : Oper} {T T2 : TypeId} {x y : Operand} {s t : ByteArray} {b : Bool} (hb : (s.toList == t.toList) = b) (ho : o.op = .binOp .eql T x y T2) (hx : ev σ x = some (.string s)) (hy : ev σ y = some (.string t)) : Pu P w0 o σ H (.bool b) := by
  subst hb
  intro w hw a ha
  have h1 := ha x (by simp [ho, Op.operands]) _ hx
  have h2 := ha y (by simp [ho, Op.operands]) _ hy
  have he : (eqGuard .eql T x y (.string s) (.string t)).run P w = .ok () w := by
    unfold eqGuard
    simp
  simp [execOp, ho, h1, h2, he, Go.binOp, Op.stringOp]
def marksB (m : Int) (n : Nat) : List B3 := (List.range n).map fun i : Nat => (m + 3 * (i : Int), m + 3 * (i : Int) + 1, m + 3 * (i : Int) + 2)
theorem marksB_len (m : Int) (n : Nat) : (marksB m n).length = n := by simp [marksB]
end Go.Vc

namespace Go.Vc
instance (a b : B3) : Decidable (leB a b) := inferInstanceAs (Decidable (¬ _))
section
variable {v m n : Nat}
theorem usd_put_false {a b c x y : Nat} (ha : a < 16) (hb : b < 16) (hc : c < 16) (hx : x < 16) (hy : y < 16) (h : usd (putM m a b c) x y = false) : usd m x y = false := by
  cases hh : usd m x y with
  | false => rfl
  | true =>
    have := (usd_put (m := m) ha hb hc hx hy).2 (.inl hh)
    rw [this] at h
    cases h
theorem comp_rest : ∀ n v m (q : List B3), v ≤ 15 → q ∈ compM n v m → Rest v m q := by
  intro n
  induction n with
  | zero =>
    intro v m q hv hq
    rcases mem_comp hq with ⟨rfl, _⟩ | ⟨k, a, b, c, r, hk, _⟩
    · exact ⟨fun _ h => by simp at h, fun _ h => by simp at h, List.Pairwise.nil, List.Pairwise.nil⟩
    · omega
  | succ n ih =>
    intro v m q hv hq
    have hs := comp_sorted _ _ _ _ hv hq
    rcases mem_comp hq with ⟨rfl, _⟩ | ⟨k, a, b, c, r, hk, hn, hc, hm, hr, rfl⟩
    · exact ⟨fun _ h => by simp at h, fun _ h => by simp at h, List.Pairwise.nil, List.Pairwise.nil⟩
    · obtain rfl : n = k := by omega
      have hI := next_spec hn
      have hab := hI.ab
      have hbv := hI.bv
      obtain ⟨h1, h2, h3⟩ := may_spec hm
      have h := ih _ _ _ hv hr
      refine ⟨fun d hd => ?_, fun d hd => ?_, hs, List.pairwise_cons.2 ⟨fun d hd => ?_, h.fit⟩⟩
      · rcases List.mem_cons.1 hd with rfl | hd
        · exact ⟨a, b, c, rfl, hab, h1, hc⟩
        · exact h.ok d hd
      · rcases List.mem_cons.1 hd with rfl | hd
        · exact ⟨a, b, c, rfl, hab, h1, hI.left, h2, h3⟩
        · obtain ⟨x, y, z, rfl, hx, hy, u1, u2, u3⟩ := h.opn d hd
          obtain ⟨x', y', z', e, _, _, hz⟩ := h.ok _ hd
          obtain ⟨rfl, rfl, rfl⟩ := b3N_inj e
          exact ⟨x, y, z, rfl, hx, hy, usd_put_false (by omega) (by omega) (by omega) (by omega) (by omega) u1, usd_put_false (by omega) (by omega) (by omega) (by omega) (by omega) u2, usd_put_false (by omega) (by omega) (by omega) (by omega) (by omega) u3⟩
      · obtain ⟨x, y, z, rfl, hx, hy, u1, u2, u3⟩ := h.opn d hd
        obtain ⟨x', y', z', e, _, _, hz⟩ := h.ok _ hd
        obtain ⟨rfl, rfl, rfl⟩ := b3N_inj e
        rw [common_le (b3N_three hab h1)]
        have k : ∀ p q : Nat, p < q → q < v → usd (putM m a b c) p q = false → ¬ (has (b3N a b c) p ∧ has (b3N a b c) q) := fun p q h4 h5 h6 => ((usd_putN hab h1 (by omega) (by omega) (by omega) (by omega)).1 h6).2
        exact ⟨k x y hx (by omega) u1, k x z (by omega) (by omega) u2, k y z hy (by omega) u3⟩
theorem comp_full : ∀ n v m (q : List B3), v ≤ 15 → q ∈ compM n v m → ∀ x y, x < y → y < v → usd (maskB m q) x y = true := by
  intro n
  induction n with
  | zero =>
    intro v m q hv hq
    rcases mem_comp hq with ⟨rfl, h⟩ | ⟨k, a, b, c, r, hk, _⟩
    · exact next_none h
    · omega
  | succ n ih =>
    intro v m q hv hq
    rcases mem_comp hq with ⟨rfl, h⟩ | ⟨k, a, b, c, r, hk, hn, hc, hm, hr, rfl⟩
    · exact next_none h
    · obtain rfl : n = k := by omega
      have h := ih _ _ _ hv hr
      have e : maskB m (b3N a b c :: r) = maskB (putM m a b c) r := by
        show maskB (putB m (b3N a b c)) r = _
        rw [putB_b3N]
      rw [e]
      exact h
structure FullS (v : Nat) (T : List B3) : Prop where
  rest : Rest v 0 T
  full : ∀ x y, x < y → y < v → ∃ d ∈ T, has d x ∧ has d y
theorem FullS.of {T : List B3} (hv : v ≤ 15) (h : T ∈ compM n v 0) : FullS v T := by
  have hr := comp_rest _ _ _ _ hv h
  refine ⟨hr, fun x y h1 h2 => ?_⟩
  rcases (usd_mask T 0 hv hr.ok x y h1 h2).1 (comp_full _ _ _ _ hv h x y h1 h2) with h3 | h3
  · rw [usd_zero] at h3; cases h3
  · exact h3
theorem Rest.sub {T Q : List B3} (h : Rest v 0 T) (hs : Q.Sublist T) : Rest v 0 Q := ⟨fun d hd => h.ok d (hs.subset hd), fun d hd => h.opn d (hs.subset hd), h.lt.sublist hs, h.fit.sublist hs⟩
end
end Go.Vc

namespace Go.Vc
def LeastP (n : Nat) (p : Nat → Prop) (o : List Int) : Prop :=
  ∃ t, t < 2 ^ n ∧ p t ∧ o = pts t ∧ ∀ q, q < 2 ^ n → p q → ones t ≤ ones q ∧ (ones q = ones t → ¬ ltL (pts q) (pts t))
def FixP (bs : List B3) (all : List (List B3)) (s : Nat) : Prop := ∀ U ∈ all, (∀ q, s.testBit q = true → bs.getD q (0, 0, 0) ∈ U) → U = bs
theorem ptsAt_sorted (m : Nat) : ∀ v, (ptsAt m v).Pairwise (· < ·) := by
  intro v
  induction v with
  | zero => exact List.Pairwise.nil
  | succ v ih =>
    simp only [ptsAt]
    split
    · refine List.pairwise_append.2 ⟨ih, by simp, fun a ha b hb => ?_⟩
      have := (ptsAt_mem m v).1 ha
      simp only [List.mem_singleton] at hb
      omega
    · exact ih
end Go.Vc

namespace Go.Vc
def LFR (v : Int) (bs : List B3) (o : List Int) : Prop := if STS v bs ∧ 6 * (bs.length : Int) = v * (v - 1) ∧ ¬ 9 < v then LeastP bs.length (FixP bs (allN v)) o else o = []
theorem LFR.len {v : Int} {bs : List B3} {a : List Int} (h : LFR v bs a) : a.length ≤ 15 := by
  unfold LFR at h
  split at h
  · obtain ⟨t, _, _, rfl, _⟩ := h
    exact pts_len t
  · simp [h]
end Go.Vc
namespace Go.Vc
end Go.Vc

namespace Go.Vc
open Go Go.RowKit
open Go.Proofs (sortWorldK CmpLays ltOf)
open Go.Sort (flatK HoldsK putRowK get_flatK size_flatK putCells putRow mapBlock onCells PermIn SortedIn SWO)
section
variable {P : Program} {α : Type} {w0 w w' : World} {H : List Assn} {T c g : Nat} {A : Option Addr} {C : Cod α} {xs ys : List α}
theorem flatK_flat [Inhabited α] (C : Cod α) (xs : List α) : flatK C.enc C.sz xs.toArray = (xs.flatMap C.enc).toArray := by
  have hl := length_flatMap_enc C xs
  apply Array.ext
  · rw [size_flatK]; simp only [List.size_toArray]; omega
  · intro i h1 h2
    have hlt : i < xs.length * C.sz := by simpa [size_flatK] using h1
    have hp := C.pos
    have hq : i / C.sz < xs.length := Nat.div_lt_of_lt_mul (by rw [Nat.mul_comm]; exact hlt)
    have hme : i / C.sz * C.sz + i % C.sz = i := by rw [Nat.mul_comm]; exact Nat.div_add_mod i C.sz
    have hg := getElem?_flatMap_enc C xs (i / C.sz) (i % C.sz) hq (Nat.mod_lt _ hp)
    rw [hme] at hg
    have e1 := get_flatK C.enc C.sz xs.toArray i (by simpa using hlt)
    rw [getElem!_pos _ i h1] at e1
    rw [e1]
    have e2 : xs.toArray[i / C.sz]! = xs[i / C.sz] := by rw [getElem!_pos _ _ (by simpa using hq)]; simp
    rw [e2]
    have h3 : i % C.sz < (C.enc xs[i / C.sz]).length := by rw [C.len]; exact Nat.mod_lt _ hp
    rw [getElem!_pos (C.enc xs[i / C.sz]) _ h3]
    have h4 : (xs.flatMap C.enc)[i]? = some (C.enc xs[i / C.sz])[i % C.sz] := by rw [hg, List.getElem?_eq_getElem h3]
    have h5 : i < (xs.flatMap C.enc).length := by rw [hl]; exact hlt
    rw [List.getElem?_eq_getElem h5] at h4
    simpa using (Option.some.inj h4).symm
theorem own_cases (hw : St w0 (Own T C A c xs :: H) w) : (A = none ∧ c = 0 ∧ xs = []) ∨ ∃ g, A = some ⟨g, 0, none⟩ := by
  obtain ⟨F, ho, hF⟩ := hw.get 0 rfl
  rcases ho.2 with ⟨h1, h2⟩ | ⟨g, cap, cur, hvv, _⟩
  · injection h1 with e1 e2 e3
    exact .inl ⟨e1, e3, List.eq_nil_of_length_eq_zero h2⟩
  · injection hvv with e1
    exact .inr ⟨g, e1⟩
theorem own_holdsK [Inhabited α] (hw : St w0 (Own T C (some ⟨g, 0, none⟩) c xs :: H) w) : HoldsK C.enc C.sz w g 0 xs.toArray ∧ g < w.heap.size := by
  obtain ⟨F, ho, hF⟩ := hw.get 0 rfl
  rcases ho.2 with ⟨h1, h2⟩ | ⟨g', cap, cur, hvv, hbase, hh, hle, hmax, hcs, htake⟩
  · injection h1 with e1; cases e1
  · injection hvv with e1 e2 e3
    cases e1
    subst e3
    refine ⟨fun j hj => ?_, (Array.getElem?_eq_some_iff.1 hh).1⟩
    rw [flatK_flat] at hj ⊢
    have hl := length_flatMap_enc C xs
    have hj' : j < (xs.flatMap C.enc).length := by simpa using hj
    have e : cur[j]? = some (xs.flatMap C.enc)[j] := by
      have h1 : (cur.toList.take (xs.length * C.sz))[j]? = cur.toList[j]? := by rw [List.getElem?_take, if_pos (by omega)]
      rw [htake, List.getElem?_eq_getElem hj'] at h1
      rw [← Array.getElem?_toList, ← h1]
    constructor
    · rw [getElem!_pos _ j (by simpa using hj')]
      simp only [World.cell?, hh, Nat.zero_add, e, id]
      simp
    · simp [World.frozen?, hh]
theorem putCells_toList [Inhabited α] {cur : Array Value} (hn : xs.length * C.sz ≤ cur.size) : (putCells id 0 (flatK C.enc C.sz xs.toArray) cur).toList.take (xs.length * C.sz) = xs.flatMap C.enc := by
  have hl := length_flatMap_enc C xs
  rw [flatK_flat]
  apply List.ext_getElem
  · simp [putCells, hl]; omega
  · intro j h1 h2
    simp only [List.getElem_take, Array.getElem_toList, putCells, Array.getElem_mapIdx]
    rw [if_pos ⟨Nat.zero_le _, by simpa using h2⟩, Nat.sub_zero, getElem!_pos _ j (by simpa using h2)]
    simp
theorem St.sortedK [Inhabited α] (hw : St w0 (Own T C (some ⟨g, 0, none⟩) c xs :: H) w) (hl : ys.length = xs.length) (n : Nat) (os : Array Obj) :
    St w0 (Own T C (some ⟨g, 0, none⟩) c ys :: H) (sortWorldK C.enc C.sz w g 0 n ys.toArray os) := by
  refine hw.upd ?_
  rintro F ⟨ho, hF⟩ hb
  rcases ho.2 with ⟨h1, h2⟩ | ⟨g', cap, cur, hvv, hbase, hh, hle, hmax, hcs, htake⟩
  · injection h1 with e1; cases e1
  · injection hvv with e1 e2 e3
    cases e1
    subst e3
    have hgs : g < w.heap.size := (Array.getElem?_eq_some_iff.1 hh).1
    have hn : xs.length * C.sz ≤ cur.size := by rw [hcs]; exact Nat.mul_le_mul_right _ hle
    have heap : ∀ k, k < w.heap.size → (sortWorldK C.enc C.sz w g 0 n ys.toArray os).heap[k]? = if g = k then (w.heap[k]?).map (onCells (putCells id 0 (flatK C.enc C.sz ys.toArray))) else w.heap[k]? := by
      intro k hk
      unfold sortWorldK Go.Sort.grow putRowK putRow mapBlock Go.Sort.ahead
      simp only
      rw [Array.getElem?_append_left (by simpa using hk), Array.getElem?_modify]
    have hsize : (sortWorldK C.enc C.sz w g 0 n ys.toArray os).heap.size = w.heap.size + os.size := by
      unfold sortWorldK Go.Sort.grow putRowK putRow mapBlock Go.Sort.ahead
      simp
    refine ⟨⟨rfl, rfl, rfl, by omega, fun k hk hk' => ?_, Nat.le_add_right _ _⟩, F, ⟨⟨?_, .inr ⟨g, c, putCells id 0 (flatK C.enc C.sz ys.toArray) cur, by rw [hl], Nat.zero_le _, ?_, by omega, hmax, ?_, ?_⟩⟩, ?_⟩, ?_⟩
    · rw [heap k hk, if_neg (fun e => hk' ((hF k).2 (by subst e; rfl)))]
    · rw [length_flatMap_enc]
    · rw [heap g hgs, if_pos rfl, hh]; rfl
    · simp [putCells, hcs]
    · exact putCells_toList (by rw [hl]; exact hn)
    · intro k
      rw [hF k]
      simp [Value.ownBlock]
    · intro k hk
      exact ⟨.inl hk, by have := (hb k hk).2; omega⟩
theorem Bel.grown (h : Bel w.heap.size w w') : ∃ q os', w' = Go.Sort.grow (w.drewN q) os' := by
  refine ⟨w'.drawn - w.drawn, w'.heap.extract w.heap.size w'.heap.size, ?_⟩
  have hd := h.drawn
  have hs := h.size
  have e : w'.heap = w.heap ++ w'.heap.extract w.heap.size w'.heap.size := by
    apply Array.ext_getElem?
    intro k
    by_cases hk : k < w.heap.size
    · rw [Array.getElem?_append_left hk, h.block k hk]
    · rw [Array.getElem?_append_right (by omega), Array.getElem?_extract]
      by_cases h2 : k < w'.heap.size
      · rw [if_pos (by omega)]
        congr 1
        omega
      · rw [Array.getElem?_eq_none (by omega), if_neg (by omega)]
  cases w'
  cases w
  simp only [Go.Sort.grow, World.drewN] at *
  have h1 := h.os
  have h2 := h.tape
  have h3 := h.output
  simp only at h1 h2 h3 hd
  subst h1 h2 h3
  rw [← e]
  congr 1
  omega
def CmpD (P : Program) (f : Nat) (cb : Array Value) (enc : α → Value) (cf : α → α → Int) (W : World) : Prop :=
  ∀ x y : α, Does P f ([enc x, enc y] ++ cb.toList) W [] (fun v => [.pur (v = .int .i64 (cf x y))])
theorem sorted_pair [Inhabited α] {lt : α → α → Bool} {d : Array α} (h : SortedIn lt 0 d.size d) : d.toList.Pairwise fun x y => lt y x = false := by
  rw [List.pairwise_iff_getElem]
  intro i j hi hj hij
  have h1 := h i j (Nat.zero_le _) hij (by simpa using hj)
  rw [getElem!_pos d i (by simpa using hi), getElem!_pos d j (by simpa using hj)] at h1
  simpa using h1
theorem permIn_perm [Inhabited α] {d d' : Array α} (h : PermIn 0 d.size d d') : d'.toList.Perm d.toList := by
  obtain ⟨h1, _, h3⟩ := h
  have e1 : d.extract 0 d.size = d := by simp
  have e2 : d'.extract 0 d.size = d' := by rw [← h1]; simp
  rwa [e1, e2] at h3
theorem sortK_does [Inhabited α] {ρ : Go.Shelf.Ren} (L : Go.Proofs.SlLaysF0.n6 P ρ) (aE : ∀ w, (isAgg (ρ.t 24)).run P w = .ok true w) (zE : ∀ w, (Go.sizeOf (ρ.t 24)).run P w = .ok C.sz w) (cf : α → α → Int) (hO : SWO (ltOf cf)) {f : Nat} {cb : Array Value} (hok : CallOk P f)
    (hcmp : ∀ zs W, St w0 (Own T C A c zs :: H) W → CmpD P f cb (fun x => .agg (C.enc x).toArray) cf W) (hlen : xs.length < 4611686018427387904) :
    Does P (ρ.f 6) [.slice A xs.length c, .func (.func f) #[] cb] w0 (Own T C A c xs :: H) (fun v => [.exi fun ys : List α => .sep (.pur (v = .tuple #[] ∧ ys.Perm xs ∧ ys.Pairwise fun x y => ¬ cf y x < 0)) (Own T C A c ys)] ++ H) := by
  intro w hw
  rcases own_cases hw with ⟨rfl, rfl, rfl⟩ | ⟨g, rfl⟩
  · refine (Go.Proofs.AnyF.slices_SortFunc_none L none 0 _ w).mono ?_
    rintro e w' ⟨rfl, rfl⟩
    exact ⟨_, rfl, St.mkExi [] (St.unsep (St.addPur ⟨rfl, List.Perm.refl _, List.Pairwise.nil⟩ hw))⟩
  · obtain ⟨hH, hg⟩ := own_holdsK hw
    have eg : ∀ args w, (callFunc f args).run P w = .ok (.enter f args) w := fun args w => run_callFunc hok args w
    have hC : CmpLays P f cb C.enc C.sz cf g 0 xs.toArray.size w := by
      intro m os dk hs x y
      have hs' : dk.toList.length = xs.length := by simpa using hs
      have h1 := St.sortedK hw hs' m os
      have h2 := hcmp _ _ h1 x y _ (St.start _)
      have e : ([Value.agg (C.enc x).toArray, Value.agg (C.enc y).toArray] ++ cb.toList).toArray = #[.agg (C.enc x).toArray, .agg (C.enc y).toArray] ++ cb := by
        apply Array.ext'
        simp
      rw [e] at h2
      refine h2.mono ?_
      rintro e w' ⟨v, rfl, hs3⟩
      exact ⟨by rw [hs3.pur.1], hs3.below.grown⟩
    have h := Go.Proofs.AnyQ.slices_SortFunc L C.sz aE zE C.enc C.len C.one cf hO f cb g 0 c xs.toArray w eg hC hH hg (by simpa using hlen)
    have e0 : xs.toArray.size = xs.length := by simp
    rw [e0] at h
    refine h.mono ?_
    rintro e w' ⟨rfl, d', n, os, hp, hs, rfl⟩
    rw [← e0] at hp hs
    have hsz : d'.size = xs.toArray.size := hp.1
    have hp' := permIn_perm hp
    rw [← hsz] at hs
    have hs' := sorted_pair hs
    refine ⟨_, rfl, St.mkExi d'.toList (St.unsep (St.addPur ⟨rfl, by simpa using hp', hs'.imp fun h => ?_⟩ (St.sortedK hw (by simpa using hsz) n os)))⟩
    simpa [ltOf] using h
end
end Go.Vc

namespace Go.Vc
open Go Go.RowKit
open Go.Proofs (sortWorld CmpLays1 ltOf)
open Go.Sort (putCells putRow mapBlock onCells PermIn SortedIn SWO Holds)
section
variable {P : Program} {α : Type} {w0 w w' : World} {H : List Assn} {T c g : Nat} {A : Option Addr} {C : Cod α} {xs ys : List α} {enc : α → Value}
theorem putCells1 [Inhabited α] {cur : Array Value} (hn : xs.length ≤ cur.size) : (putCells enc 0 xs.toArray cur).toList.take xs.length = xs.map enc := by
  apply List.ext_getElem
  · simp [putCells]; omega
  · intro j h1 h2
    simp only [List.getElem_take, Array.getElem_toList, putCells, Array.getElem_mapIdx]
    rw [if_pos ⟨Nat.zero_le _, by simpa using h2⟩, Nat.sub_zero, getElem!_pos _ j (by simpa using h2)]
    simp
theorem sort_heap [Inhabited α] {enc : α → Value} {n : Nat} {d : Array α} {os : Array Obj} {k : Nat} (hk : k < w.heap.size) : (Go.Sort.grow (putRow enc (Go.Sort.ahead w n) g 0 d) os).heap[k]? = if g = k then (w.heap[k]?).map (onCells (putCells enc 0 d)) else w.heap[k]? := by
  unfold Go.Sort.grow putRow mapBlock Go.Sort.ahead
  simp only
  rw [Array.getElem?_append_left (by simpa using hk), Array.getElem?_modify]
theorem sort_size [Inhabited α] {enc : α → Value} {n : Nat} {d : Array α} {os : Array Obj} : (Go.Sort.grow (putRow enc (Go.Sort.ahead w n) g 0 d) os).heap.size = w.heap.size + os.size := by
  unfold Go.Sort.grow putRow mapBlock Go.Sort.ahead
  simp
def sortI (xs : List Int) : List Int := xs.mergeSort fun x y => decide (x ≤ y)
theorem sortI_len (xs : List Int) : (sortI xs).length = xs.length := by unfold sortI; exact List.length_mergeSort _
theorem sortI_perm (xs : List Int) : (sortI xs).Perm xs := List.mergeSort_perm _ _
theorem sortI_sorted (xs : List Int) : (sortI xs).Pairwise (· ≤ ·) := by
  have h := List.pairwise_mergeSort (le := fun x y : Int => decide (x ≤ y)) (by intro a b c; simp; omega) (by intro a b; simp; omega) xs
  exact h.imp (by intro a b h; simpa using h)
theorem sortI_unique {xs ys : List Int} (hp : ys.Perm xs) (hs : ys.Pairwise (· ≤ ·)) : ys = sortI xs :=
  (hp.trans (sortI_perm xs).symm).eq_of_pairwise (fun a b _ _ h1 h2 => by omega) hs (sortI_sorted xs)
theorem sortI_blk {ρ : Go.Shelf.Ren} (L : Go.Proofs.SlLaysM.n5 P ρ) {xs : List Int} (hlen : xs.length < 4611686018427387904) :
    Does P (ρ.f 5) [.slice (some ⟨g, 0, none⟩) xs.length c] w0 (Blk g (xs.map (Value.int .i64)) T :: H) (fun v => [.sep (.pur (v = .tuple #[])) (Blk g ((sortI xs).map (Value.int .i64)) T)] ++ H) := by
  intro w hw
  have hh := Blk.heap hw (i := 0) rfl
  have hg : g < w.heap.size := (Array.getElem?_eq_some_iff.1 hh).1
  have hH : Holds (Value.int .i64) w g 0 xs.toArray := by
    intro j hj
    have hj' : j < xs.length := by simpa using hj
    rw [getElem!_pos _ j hj]
    constructor
    · simp [World.cell?, hh, hj']
    · simp [World.frozen?, hh]
  refine (Go.Proofs.AnyM.slices_Sort_int L g 0 c xs w hH hg hlen).mono ?_
  rintro e w' ⟨rfl, n, os, rfl⟩
  refine ⟨_, rfl, St.unsep (St.addPur rfl (hw.upd ?_))⟩
  rintro F ⟨h0, hF⟩ hb
  have hl := sortI_len xs
  refine ⟨⟨rfl, rfl, rfl, by rw [sort_size]; omega, fun k hk hk' => ?_, Nat.le_add_right _ _⟩, F, ⟨?_, hF⟩, ?_⟩
  · rw [sort_heap hk, if_neg (fun e => hk' ((hF k).2 e.symm))]
  · show (Go.Sort.grow _ os).heap[g]? = _
    rw [sort_heap hg, if_pos rfl, hh]
    show some (Obj.cells _ _ _) = _
    congr 2
    have := putCells1 (xs := sortI xs) (enc := Value.int .i64) (cur := (xs.map (Value.int .i64)).toArray) (by simp [hl])
    rw [List.take_of_length_le (by simp [putCells, hl])] at this
    exact Array.ext' (by rw [← this]; rfl)
  · intro k hk
    exact ⟨.inl hk, by have := (hb k hk).2; rw [sort_size]; omega⟩
end
end Go.Vc

namespace Go.Vc
open Go Go.RowKit
theorem three_eq {a b c x y z : Int} (h1 : a = x) (h2 : b = y) (h3 : c = z) : [a, b, c] = [x, y, z] := by rw [h1, h2, h3]
theorem sortI_three (a b c : Int) : sortI [a, b, c] = [lo3 a b c, mi3 a b c, hi3 a b c] := by
  symm
  apply sortI_unique
  · unfold mi3 lo3 hi3
    by_cases h1 : a ≤ b <;> by_cases h2 : b ≤ c <;> by_cases h3 : a ≤ c
    · have e : [min (min a b) c, a + b + c - min (min a b) c - max (max a b) c, max (max a b) c] = [a, b, c] := three_eq (by omega) (by omega) (by omega)
      rw [e]
    · exfalso; omega
    · have e : [min (min a b) c, a + b + c - min (min a b) c - max (max a b) c, max (max a b) c] = [a, c, b] := three_eq (by omega) (by omega) (by omega)
      rw [e]
      exact (List.Perm.swap _ _ _).cons _
    · have e : [min (min a b) c, a + b + c - min (min a b) c - max (max a b) c, max (max a b) c] = [c, a, b] := three_eq (by omega) (by omega) (by omega)
      rw [e]
      exact (List.Perm.swap _ _ _).trans ((List.Perm.swap _ _ _).cons _)
    · have e : [min (min a b) c, a + b + c - min (min a b) c - max (max a b) c, max (max a b) c] = [b, a, c] := three_eq (by omega) (by omega) (by omega)
      rw [e]
      exact List.Perm.swap _ _ _
    · have e : [min (min a b) c, a + b + c - min (min a b) c - max (max a b) c, max (max a b) c] = [b, c, a] := three_eq (by omega) (by omega) (by omega)
      rw [e]
      exact ((List.Perm.swap _ _ _).cons _).trans (List.Perm.swap _ _ _)
    · exfalso; omega
    · have e : [min (min a b) c, a + b + c - min (min a b) c - max (max a b) c, max (max a b) c] = [c, b, a] := three_eq (by omega) (by omega) (by omega)
      rw [e]
      exact (List.Perm.swap _ _ _).trans (((List.Perm.swap _ _ _).cons _).trans (List.Perm.swap _ _ _))
  · simp only [List.pairwise_cons, List.mem_cons, List.not_mem_nil, or_false, forall_eq_or_imp, forall_eq, List.Pairwise.nil, and_true]
    unfold mi3 lo3 hi3
    refine ⟨⟨?_, ?_⟩, ?_, ?_⟩ <;> first | omega | (intro _ h; cases h)
section
variable {P : Program} {w0 w : World} {H : List Assn} {T c g : Nat}
theorem sort3_blk {ρ : Go.Shelf.Ren} (L : Go.Proofs.SlLaysM.n5 P ρ) (x y z : Int) :
    Does P (ρ.f 5) [.slice (some ⟨g, 0, none⟩) 3 c] w0 (Blk g [.int .i64 x, .int .i64 y, .int .i64 z] T :: H) (fun v => [.sep (.pur (v = .tuple #[])) (Blk g [.int .i64 (lo3 x y z), .int .i64 (mi3 x y z), .int .i64 (hi3 x y z)] T)] ++ H) := by
  have h := sortI_blk (w0 := w0) (H := H) (T := T) (c := c) (g := g) L (xs := [x, y, z]) (by simp)
  rw [sortI_three] at h
  exact h
end
theorem swoB : Go.Sort.SWO (Go.Proofs.ltOf fun x y : B3 => cmpL (bl x) (bl y)) := by
  have e : ∀ x y : B3, Go.Proofs.ltOf (fun x y : B3 => cmpL (bl x) (bl y)) x y = decide (B3.lt x y) := fun x y => by
    unfold Go.Proofs.ltOf
    exact decide_eq_decide.2 (cmpL_bl x y)
  refine ⟨fun x => ?_, fun x y z h1 h2 => ?_, fun x y z h1 h2 => ?_⟩
  · rw [e]; exact decide_eq_false (lt_irrefl x)
  · rw [e] at *
    simp only [decide_eq_true_eq] at *
    unfold B3.lt at *
    omega
  · rw [e] at *
    simp only [decide_eq_false_iff_not] at *
    unfold B3.lt at *
    omega
theorem srt_of {ys : List B3} (h : ys.Pairwise fun x y => ¬ cmpL (bl y) (bl x) < 0) : SrtB ys := h.imp fun {a b} h => by
  unfold leB
  rwa [cmpL_bl] at h
def turnL (v k : Int) (n : Nat) : List Int := (List.range n).map fun a : Nat => ((a : Int) + k) % v
def turnB (v k : Int) (bs : List B3) : List B3 := bs.map (renB (turnL v k v.toNat))
def TSR (v : Int) (bs : List B3) (k : Int) (r : List B3) : Prop := if STS v bs ∧ 0 ≤ k ∧ k ≤ v - 1 then r.Perm (turnB v k bs) ∧ SrtB r else r = []
theorem TSR.len {v : Int} {bs : List B3} {k : Int} {r : List B3} (h : TSR v bs k r) : r.length ≤ bs.length := by
  unfold TSR at h
  split at h
  · rw [h.1.length_eq]; simp [turnB]
  · simp [h]
end Go.Vc

namespace Go.Vc
open Go Go.RowKit
def bkT (v : Int) (b : B3) (i : Nat) : B3 := bk3 ((b.1 + i) % v) ((b.2.1 + i) % v) ((b.2.2 + i) % v)
def addT (v : Int) (b : B3) (l : List B3) (i : Nat) : List B3 := if bkT v b i ∈ l then l else l ++ [bkT v b i]
def rowT (v : Int) (l : List B3) (b : B3) (n : Nat) : List B3 := (List.range n).foldl (addT v b) l
section
variable {v : Int} {l bs : List B3} {b : B3} {n i : Nat}
theorem rowT_succ : rowT v l b (n + 1) = addT v b (rowT v l b n) n := by
  unfold rowT
  rw [List.range_succ, List.foldl_append]
  rfl
theorem rowT_yes (h : bkT v b n ∈ rowT v l b n) : rowT v l b (n + 1) = rowT v l b n := by
  rw [rowT_succ]
  unfold addT
  rw [if_pos h]
theorem rowT_no (h : ¬ bkT v b n ∈ rowT v l b n) : rowT v l b (n + 1) = rowT v l b n ++ [bkT v b n] := by
  rw [rowT_succ]
  unfold addT
  rw [if_neg h]
theorem rowT_zero : rowT v l b 0 = l := rfl
theorem rowT_len : ∀ n, (rowT v l b n).length ≤ l.length + n := by
  intro n
  induction n with
  | zero => simp [rowT_zero]
  | succ n ih =>
    by_cases h : bkT v b n ∈ rowT v l b n
    · rw [rowT_yes h]; omega
    · rw [rowT_no h, List.length_append]; simp; omega
end
def FanoR (r : List B3) : Prop := r.Perm (rowT 7 [] (0, 1, 3) 7) ∧ SrtB r
theorem FanoR.len {r : List B3} (h : FanoR r) : r.length ≤ 7 := by
  rw [h.1.length_eq]
  exact rowT_len 7
end Go.Vc

namespace Go.Vc
open Go Go.RowKit
def P2C : Cod (Int × Int) := ⟨2, fun p => [.int .i64 p.1, .int .i64 p.2], by decide, fun _ => rfl, fun _ u hu => by simp at hu; rcases hu with rfl | rfl <;> rfl⟩
def P2v (p : Int × Int) : Value := .agg #[.int .i64 p.1, .int .i64 p.2]
section
variable {P : Program} {w0 w : World} {H : List Assn} {σ : Sig} {o : Oper}
theorem run_eq2 {T E : TypeId} (hT : P.underlying T = some (.array 2 E)) (hE : P.underlying E = some (.int .i64)) (hs : Sz P E 1) (a b : Int × Int) (d : Nat) (w : World) : (Op.equalIn (d + 1 + 1) T (P2v a) (P2v b)).run P w = .ok (decide (a = b)) w := by
  obtain ⟨i, hi, hsz⟩ := Option.map_eq_some_iff.1 hs
  have hc : P.cellsOf E = 1 := by simp [Program.cellsOf, hi, hsz]
  unfold P2v
  rw [run_equalIn_array w (d + 1) _ _ hT hi, hc]
  have r : List.range 2 = [0, 1] := rfl
  have e0 : ∀ x y : Value, (part E #[x, y] 0).run P w = .ok x w := fun x y => run_part_int hE _ _ _ rfl
  have e1 : ∀ x y : Value, (part E #[x, y] 1).run P w = .ok y w := fun x y => run_part_int hE _ _ _ rfl
  have q : ∀ x y : Int, (Op.equalIn (d + 1) E (.int .i64 x) (.int .i64 y)).run P w = .ok (x == y) w := fun x y => run_equalIn_int w d E .i64 .i64 x y hE
  obtain ⟨a1, a2⟩ := a
  obtain ⟨b1, b2⟩ := b
  rw [r]
  simp only [Op.eqItems, Sem.run_bind, Nat.zero_mul, Nat.one_mul, e0, e1, q, Result.andThen_ok]
  by_cases h1 : a1 = b1
  · subst h1
    by_cases h2 : a2 = b2
    · subst h2; simp [e0, e1, q]
    · simp [h2, e0, e1, q]
  · simp [h1, e0, e1, q]
theorem guard2 {T : TypeId} {op : BinOp} {x y : Operand} {a b : Int × Int} (hg : P.eqGuardType P.depth T = false) : (eqGuard op T x y (P2v a) (P2v b)).run P w = .ok () w := by
  unfold P2v
  exact run_eqGuard_agg w op T x y _ _ hg
theorem Pu.neqP2 {T T2 E : TypeId} {x y : Operand} {a b : Int × Int} (hT : P.underlying T = some (.array 2 E)) (hE : P.underlying E = some (.int .i64)) (hs : Sz P E 1) (hg : P.eqGuardType P.depth T = false) (ho : o.op = .binOp .neq T x y T2) (hx : ev σ x = some (P2v a)) (hy : ev σ y = some (P2v b)) : Pu P w0 o σ H (.bool (!decide (a = b))) := by
  intro w hw ac ha
  have h1 := ha x (by simp [ho, Op.operands]) _ hx
  have h2 := ha y (by simp [ho, Op.operands]) _ hy
  have hb : (Go.binOp .neq T (P2v a) (P2v b)).run P w = .ok (.bool (!decide (a = b))) w := by
    have := run_eq2 hT hE hs a b 9998 w
    unfold P2v at *
    rw [run_neq_struct, show (10000 : Nat) = 9998 + 1 + 1 from rfl, this]
    rfl
  simp only [execOp, ho, h1, h2, Sem.run_bind, guard2 hg, hb, Result.andThen_ok, Sem.run_pure]
end

def ltP (p q : Int × Int) : Prop := p.1 < q.1 ∨ (p.1 = q.1 ∧ p.2 < q.2)
instance (p q : Int × Int) : Decidable (ltP p q) := inferInstanceAs (Decidable (_ ∨ _))
def leP (p q : Int × Int) : Prop := ¬ ltP q p
theorem cmpL_p2 (p q : Int × Int) : cmpL [p.1, p.2] [q.1, q.2] < 0 ↔ ltP p q := by
  simp only [cmpL, ltP]
  (repeat' split) <;> omega
theorem swoP : Go.Sort.SWO (Go.Proofs.ltOf fun x y : Int × Int => cmpL [x.1, x.2] [y.1, y.2]) := by
  have e : ∀ x y : Int × Int, Go.Proofs.ltOf (fun x y : Int × Int => cmpL [x.1, x.2] [y.1, y.2]) x y = decide (ltP x y) := fun x y => by
    unfold Go.Proofs.ltOf
    exact decide_eq_decide.2 (cmpL_p2 x y)
  refine ⟨fun x => ?_, fun x y z h1 h2 => ?_, fun x y z h1 h2 => ?_⟩
  · rw [e]; exact decide_eq_false (by unfold ltP; omega)
  · rw [e] at *
    simp only [decide_eq_true_eq] at *
    unfold ltP at *
    omega
  · rw [e] at *
    simp only [decide_eq_false_iff_not] at *
    unfold ltP at *
    omega
def SrtP (l : List (Int × Int)) : Prop := l.Pairwise leP
theorem srtP_of {ys : List (Int × Int)} (h : ys.Pairwise fun x y => ¬ cmpL [y.1, y.2] [x.1, x.2] < 0) : SrtP ys := h.imp fun {a b} h => by
  unfold leP
  rwa [cmpL_p2] at h
theorem srtP_unique {a b : List (Int × Int)} (ha : SrtP a) (hb : SrtP b) (hp : a.Perm b) : a = b :=
  hp.eq_of_pairwise (fun x y _ _ h1 h2 => by
    obtain ⟨x1, x2⟩ := x
    obtain ⟨y1, y2⟩ := y
    unfold leP ltP at *
    simp only at *
    rw [Prod.mk.injEq]
    omega) ha hb
def prsB (bs : List B3) : List (Int × Int) := bs.flatMap fun b => [(b.1, b.2.1), (b.1, b.2.2), (b.2.1, b.2.2)]
theorem prsB_snoc (bs : List B3) (b : B3) : prsB (bs ++ [b]) = prsB bs ++ [(b.1, b.2.1), (b.1, b.2.2), (b.2.1, b.2.2)] := by simp [prsB]
theorem prsB_len (bs : List B3) : (prsB bs).length = 3 * bs.length := by
  unfold prsB
  induction bs with
  | nil => rfl
  | cons b bs ih => rw [List.flatMap_cons, List.length_append, ih]; simp; omega
theorem mem_prsB {bs : List B3} {p : Int × Int} : p ∈ prsB bs ↔ ∃ b ∈ bs, p = (b.1, b.2.1) ∨ p = (b.1, b.2.2) ∨ p = (b.2.1, b.2.2) := by
  unfold prsB
  simp [List.mem_flatMap]
section
variable {v : Nat} {bs cs : List B3}
theorem prsB_mem (h : STS (v : Int) bs) {x y : Nat} (hxy : x < y) : ((x : Int), (y : Int)) ∈ prsB bs ↔ ∃ d ∈ bs, has d x ∧ has d y := by
  rw [mem_prsB]
  constructor
  · rintro ⟨b, hb, h1⟩
    refine ⟨b, hb, ?_⟩
    unfold has
    rcases h1 with h1 | h1 | h1 <;> (simp only [Prod.mk.injEq] at h1; omega)
  · rintro ⟨b, hb, h1, h2⟩
    refine ⟨b, hb, ?_⟩
    have hg := h.good b hb
    unfold good at hg
    unfold has at h1 h2
    simp only [Prod.mk.injEq]
    omega
theorem prsB_in (h : STS (v : Int) bs) {p : Int × Int} (hp : p ∈ prsB bs) : ∃ x y : Nat, p = ((x : Int), (y : Int)) ∧ x < y ∧ y < v := by
  obtain ⟨b, hb, h1⟩ := mem_prsB.1 hp
  have hg := h.good b hb
  unfold good at hg
  refine ⟨p.1.toNat, p.2.toNat, ?_, ?_, ?_⟩
  all_goals rcases h1 with rfl | rfl | rfl
  all_goals first | (simp only [Prod.mk.injEq]; omega) | (simp only; omega)
theorem prsB_nodup (hv : v ≤ 15) (h : STS (v : Int) bs) : (prsB bs).Nodup := by
  have hr := sts_rest h
  unfold prsB
  unfold List.Nodup
  rw [List.flatMap_def, List.pairwise_flatten]
  constructor
  · intro l hl
    obtain ⟨b, hb, rfl⟩ := List.mem_map.1 hl
    have hg := h.good b hb
    unfold good at hg
    simp only [List.pairwise_cons, List.mem_cons, List.not_mem_nil, or_false, forall_eq_or_imp, forall_eq, ne_eq, Prod.mk.injEq, List.Pairwise.nil, and_true]
    refine ⟨⟨?_, ?_⟩, ?_, ?_⟩ <;> first | omega | (intro _ h; cases h)
  · rw [List.pairwise_map]
    refine List.Pairwise.imp_of_mem ?_ hr.fit
    intro a b ha hb hc
    have hga := h.good a ha
    have hgb := h.good b hb
    rw [common_le hga.three] at hc
    unfold good at hga hgb
    unfold has at hc
    intro p h1 q h2 e
    subst e
    simp only [List.mem_cons, List.not_mem_nil, or_false] at h1 h2
    rcases h1 with rfl | rfl | rfl <;> simp only [Prod.mk.injEq] at h2 <;> omega
end
end Go.Vc
namespace Go.Vc
def usedK (n : Nat) (bs : List B3) : List Bool := (List.range n).map fun k => decide (∃ p ∈ prsB bs, prI p.1.toNat p.2.toNat = k)
theorem usedK_len (n : Nat) (bs : List B3) : (usedK n bs).length = n := by simp [usedK]
theorem usedK_nil (n : Nat) : usedK n [] = List.replicate n false := by
  apply List.ext_getElem
  · simp [usedK]
  · intro k h1 h2
    simp [usedK, prsB]
theorem usedK_snoc (n : Nat) (bs : List B3) (b : B3) : usedK n (bs ++ [b]) = (((usedK n bs).set (prI b.1.toNat b.2.1.toNat) true).set (prI b.1.toNat b.2.2.toNat) true).set (prI b.2.1.toNat b.2.2.toNat) true := by
  apply List.ext_getElem
  · simp [usedK]
  · intro k h1 h2
    simp only [List.getElem_set]
    simp only [usedK, List.getElem_map, List.getElem_range]
    have key : (∃ p ∈ prsB (bs ++ [b]), prI p.1.toNat p.2.toNat = k) ↔ (prI b.2.1.toNat b.2.2.toNat = k ∨ prI b.1.toNat b.2.2.toNat = k ∨ prI b.1.toNat b.2.1.toNat = k ∨ ∃ p ∈ prsB bs, prI p.1.toNat p.2.toNat = k) := by
      rw [prsB_snoc]
      simp only [List.mem_append, List.mem_cons, List.not_mem_nil, or_false]
      constructor
      · rintro ⟨p, h | rfl | rfl | rfl, e⟩
        · exact .inr (.inr (.inr ⟨p, h, e⟩))
        · exact .inr (.inr (.inl e))
        · exact .inr (.inl e)
        · exact .inl e
      · rintro (e | e | e | ⟨p, h, e⟩)
        · exact ⟨_, .inr (.inr (.inr rfl)), e⟩
        · exact ⟨_, .inr (.inr (.inl rfl)), e⟩
        · exact ⟨_, .inr (.inl rfl), e⟩
        · exact ⟨p, .inl h, e⟩
    by_cases e1 : prI b.2.1.toNat b.2.2.toNat = k
    · rw [if_pos e1]; exact decide_eq_true (key.2 (.inl e1))
    · rw [if_neg e1]
      by_cases e2 : prI b.1.toNat b.2.2.toNat = k
      · rw [if_pos e2]; exact decide_eq_true (key.2 (.inr (.inl e2)))
      · rw [if_neg e2]
        by_cases e3 : prI b.1.toNat b.2.1.toNat = k
        · rw [if_pos e3]; exact decide_eq_true (key.2 (.inr (.inr (.inl e3))))
        · rw [if_neg e3]
          refine decide_eq_decide.2 (key.trans ⟨fun h => ?_, fun h => .inr (.inr (.inr h))⟩)
          rcases h with h | h | h | h
          · exact absurd h e1
          · exact absurd h e2
          · exact absurd h e3
          · exact h
def usedL (bs : List B3) : List Bool := usedK 256 bs
theorem usedL_len (bs : List B3) : (usedL bs).length = 256 := usedK_len 256 bs
theorem usedL_nil : usedL [] = List.replicate 256 false := usedK_nil 256
theorem usedL_snoc (bs : List B3) (b : B3) : usedL (bs ++ [b]) = (((usedL bs).set (prI b.1.toNat b.2.1.toNat) true).set (prI b.1.toNat b.2.2.toNat) true).set (prI b.2.1.toNat b.2.2.toNat) true := usedK_snoc 256 bs b
theorem usedK_at {n : Nat} {bs : List B3} {k : Nat} (hk : k < n) : (usedK n bs)[k]? = some true ↔ ∃ p ∈ prsB bs, prI p.1.toNat p.2.toNat = k := by
  simp only [usedK, List.getElem?_map, List.getElem?_range hk, Option.map_some, Option.some.injEq, decide_eq_true_eq]
theorem usedK_congr {n : Nat} {bs cs : List B3} (h : ∀ p, p ∈ prsB bs ↔ p ∈ prsB cs) : usedK n bs = usedK n cs := by
  unfold usedK
  apply List.map_congr_left
  intro k _
  exact decide_eq_decide.2 ⟨fun ⟨p, hp, e⟩ => ⟨p, (h p).1 hp, e⟩, fun ⟨p, hp, e⟩ => ⟨p, (h p).2 hp, e⟩⟩
theorem usedL_iff {v : Nat} {bs cs : List B3} (hv : v ≤ 15) (h : STS (v : Int) bs) (g : STS (v : Int) cs) : usedL bs = usedL cs ↔ (prsB bs).Perm (prsB cs) := by
  rw [List.perm_ext_iff_of_nodup (prsB_nodup hv h) (prsB_nodup hv g)]
  have at_ : ∀ (ds : List B3), STS (v : Int) ds → ∀ x y : Nat, x < y → y < v → (((x : Int), (y : Int)) ∈ prsB ds ↔ (usedL ds)[prI x y]? = some true) := by
    intro ds hd x y hx hy
    have hl : prI x y < 256 := prI_lt (by omega) (by omega)
    rw [show usedL ds = usedK 256 ds from rfl, usedK_at hl]
    constructor
    · intro hp; exact ⟨_, hp, by simp⟩
    · rintro ⟨p, hp, e⟩
      obtain ⟨a, b, rfl, hab, hb⟩ := prsB_in hd hp
      simp only [Int.toNat_natCast] at e
      rcases prI_inj (by omega) (by omega) (by omega) (by omega) e with ⟨rfl, rfl⟩ | ⟨rfl, rfl⟩
      · exact hp
      · omega
  constructor
  · intro e p
    constructor
    · intro hp
      obtain ⟨x, y, rfl, hx, hy⟩ := prsB_in h hp
      rw [at_ cs g x y hx hy, ← e, ← at_ bs h x y hx hy]
      exact hp
    · intro hp
      obtain ⟨x, y, rfl, hx, hy⟩ := prsB_in g hp
      rw [at_ bs h x y hx hy, e, ← at_ cs g x y hx hy]
      exact hp
  · intro hm
    exact usedK_congr hm
def TRD (v : Int) (os ns : List B3) : Prop := STS v os ∧ STS v ns ∧ (∀ b ∈ os, b ∉ ns) ∧ (prsB os).Perm (prsB ns)
noncomputable instance (v : Int) (os ns : List B3) : Decidable (TRD v os ns) := Classical.propDecidable _
def ptsB (os : List B3) (n : Nat) : List Int := ((List.range n).filter fun p : Nat => decide (∃ b ∈ os, has b (p : Int))).map fun p : Nat => (p : Int)
theorem ptsB_yes {os : List B3} {n : Nat} (h : ∃ b ∈ os, has b (n : Int)) : ptsB os (n + 1) = ptsB os n ++ [(n : Int)] := by
  unfold ptsB
  rw [List.range_succ, List.filter_append, List.map_append]
  simp only [List.filter_cons, List.filter_nil, decide_eq_true h, if_true, List.map_cons, List.map_nil]
theorem ptsB_no {os : List B3} {n : Nat} (h : ¬ ∃ b ∈ os, has b (n : Int)) : ptsB os (n + 1) = ptsB os n := by
  unfold ptsB
  rw [List.range_succ, List.filter_append, List.map_append]
  simp only [List.filter_cons, List.filter_nil, decide_eq_false h]
  simp
theorem ptsB_len {os : List B3} {n : Nat} : (ptsB os n).length ≤ n := by
  unfold ptsB
  rw [List.length_map]
  exact Nat.le_trans (List.length_filter_le _ _) (by simp)
def PTR (v : Int) (os ns : List B3) (o : List Int) : Prop := (TRD v os ns → o = ptsB os v.toNat) ∧ (¬ TRD v os ns → o = [])
theorem PTR.len {v : Int} {os ns : List B3} {a : List Int} (h : PTR v os ns a) : a.length ≤ 15 := by
  by_cases ht : TRD v os ns
  · rw [h.1 ht]
    have := ptsB_len (os := os) (n := v.toNat)
    have := ht.1.hi
    omega
  · rw [h.2 ht]; simp
end Go.Vc

namespace Go.Vc
section
variable {v : Int} {bs : List B3} {a b c d e f g : Int} {x y z : Nat} {r : List Int}
theorem far (h : STS v bs) {i j : Nat} (hi : i < bs.length) (hj : j < bs.length) (hne : i ≠ j) (ha : has bs[i] a) (hb : has bs[j] a) (t : Int) (h1 : has bs[i] t) (h2 : has bs[j] t) : t = a := by
  apply Decidable.byContradiction
  intro ht
  exact hne (h.two hi hj (fun e => ht e.symm) ha h1 hb h2)
end
end Go.Vc

namespace Go.Vc
abbrev W4 := Int × Int × Int × Int
noncomputable def ent (bs : List B3) (x y z b c : Int) (w : W4) : List (List Int) :=
  if idxP (fun t => bk3 b w.1 w.2.2.1 = t) bs < 0 ∨ idxP (fun t => bk3 c w.2.1 w.2.2.2 = t) bs < 0 then [] else [sortI [x, y, z, idxP (fun t => bk3 b w.1 w.2.2.1 = t) bs, idxP (fun t => bk3 c w.2.1 w.2.2.2 = t) bs]]
def wayL (d e f g : Int) : List W4 := [(d, e, f, g), (d, e, g, f), (e, d, f, g), (e, d, g, f)]
noncomputable def f3 (bs : List B3) (a x y z : Int) : List (List Int) := (wayL (oth1 (blk bs y) a) (oth2 (blk bs y) a) (oth1 (blk bs z) a) (oth2 (blk bs z) a)).flatMap (ent bs x y z (oth1 (blk bs x) a) (oth2 (blk bs x) a))
section
variable {v : Int} {bs : List B3} {a b c d e f g : Int} {x y z : Nat} {r : List Int}

end
end Go.Vc

namespace Go.Vc
open Go Go.RowKit
open Go.Proofs (ltOf)
open Go.Sort (SWO)
section
variable {P : Program} {w0 w : World} {H : List Assn} {T T2 c : Nat} {A : Option Addr} {ps : List (Sl × List Int)}
end
instance decLtL (x y : List Int) : Decidable (ltL x y) := inferInstanceAs (Decidable (cmpL x y < 0))

abbrev SL := Sl × List Int
def d0 : SL := (⟨none, 0, 0⟩, [])
section
variable {l : List SL} {i j k : Nat}
end
end Go.Vc

namespace Go.Vc
theorem sub_full {α : Type} [DecidableEq α] : ∀ (l1 l2 : List α), l1.Nodup → (∀ x ∈ l1, x ∈ l2) → l2.length ≤ l1.length → ∀ x ∈ l2, x ∈ l1
  | [], l2, _, _, hl, x, hx => by
    have : l2 = [] := List.eq_nil_of_length_eq_zero (by simpa using hl)
    subst this
    exact hx
  | a :: l1, l2, hn, hs, hl, x, hx => by
    obtain ⟨h1, h2⟩ := List.nodup_cons.1 hn
    have ha := hs a (by simp)
    have he := List.length_erase_of_mem ha
    have hp := List.length_pos_of_mem ha
    by_cases e : x = a
    · subst e; simp
    · refine List.mem_cons_of_mem _ (sub_full l1 (l2.erase a) h2 (fun y hy => ?_) (by simp at hl; omega) x ((List.mem_erase_of_ne e).2 hx))
      exact (List.mem_erase_of_ne (fun e => by subst e; exact h1 hy)).2 (hs y (by simp [hy]))

def prs2 : List Int → List (Int × Int)
  | [] => []
  | x :: l => l.map (fun y => (x, y)) ++ prs2 l
theorem prs2_len : ∀ l, 2 * (prs2 l).length = l.length * (l.length - 1)
  | [] => rfl
  | x :: l => by
    have ih := prs2_len l
    rw [prs2, List.length_append, List.length_map, List.length_cons, Nat.add_sub_cancel, Nat.mul_add, ih]
    generalize l.length = k
    cases k with
    | zero => rfl
    | succ m => rw [Nat.add_sub_cancel]; simp only [Nat.add_mul, Nat.mul_add]; omega
theorem prs2_mem : ∀ {l : List Int}, l.Pairwise (· < ·) → ∀ {p : Int × Int}, p ∈ prs2 l ↔ p.1 < p.2 ∧ p.1 ∈ l ∧ p.2 ∈ l
  | [], _, p => by simp [prs2]
  | x :: l, h, p => by
    obtain ⟨h1, h2⟩ := List.pairwise_cons.1 h
    obtain ⟨a, b⟩ := p
    rw [prs2, List.mem_append, List.mem_map, prs2_mem h2]
    simp only [List.mem_cons, Prod.mk.injEq]
    constructor
    · rintro (⟨y, hy, rfl, rfl⟩ | ⟨k1, k2, k3⟩)
      · exact ⟨h1 _ hy, .inl rfl, .inr hy⟩
      · exact ⟨k1, .inr k2, .inr k3⟩
    · rintro ⟨k1, k2, k3⟩
      rcases k2 with rfl | k2
      · rcases k3 with rfl | k3
        · omega
        · exact .inl ⟨b, k3, rfl, rfl⟩
      · rcases k3 with rfl | k3
        · have := h1 _ k2; omega
        · exact .inr ⟨k1, k2, k3⟩
theorem prsB_sub {l m : List B3} (h : l.Sublist m) : (prsB l).Sublist (prsB m) := by
  unfold prsB
  induction h with
  | slnil => exact List.Sublist.refl _
  | cons a _ ih => rw [List.flatMap_cons]; exact ih.trans (List.sublist_append_right _ _)
  | cons_cons a _ ih => rw [List.flatMap_cons, List.flatMap_cons]; exact ih.append_left _
theorem prsI_mem {v : Int} {I : List B3} (hg : ∀ d ∈ I, good v d) {x y : Int} (hxy : x < y) : (x, y) ∈ prsB I ↔ ∃ d ∈ I, has d x ∧ has d y := by
  rw [mem_prsB]
  constructor
  · rintro ⟨b, hb, h1⟩
    refine ⟨b, hb, ?_⟩
    unfold has
    rcases h1 with h1 | h1 | h1 <;> (simp only [Prod.mk.injEq] at h1; omega)
  · rintro ⟨b, hb, h1, h2⟩
    refine ⟨b, hb, ?_⟩
    have hg := hg b hb
    unfold good at hg
    unfold has at h1 h2
    simp only [Prod.mk.injEq]
    omega
section
variable {v : Int} {bs : List B3} {s : Nat}
theorem two_mem (h : STS v bs) {d e : B3} (hd : d ∈ bs) (he : e ∈ bs) {x y : Int} (hxy : x ≠ y) (h1 : has d x) (h2 : has d y) (h3 : has e x) (h4 : has e y) : d = e := by
  obtain ⟨i, hi, rfl⟩ := List.mem_iff_getElem.1 hd
  obtain ⟨j, hj, rfl⟩ := List.mem_iff_getElem.1 he
  have := h.two hi hj hxy h1 h2 h3 h4
  subst this
  rfl
theorem tabPut_val {G : Int → Int → Int} {b : B3} (hb : three b) {x y : Int} : tabPut G b x y = if has b x ∧ has b y ∧ x ≠ y then b.1 + b.2.1 + b.2.2 - x - y else G x y := by
  obtain ⟨p, q, r⟩ := b
  unfold tabPut gset has
  unfold three at hb
  simp only at *
  (repeat' split) <;> first | rfl | omega
theorem tab_tri (h : STS v bs) {d : B3} (hd : d ∈ bs) {x y z : Int} (t : Tri d x y z) : tab bs x y = z := by
  have key : ∀ (l : List B3) (G : Int → Int → Int), (∀ b ∈ l, three b) → (∀ b ∈ l, has b x → has b y → b = d) → (d ∈ l ∨ G x y = z) → l.foldl tabPut G x y = z := by
    intro l
    induction l with
    | nil => intro G _ _ hz; exact hz.elim (fun h => by simp at h) id
    | cons b l ih =>
      intro G hb hu hz
      rw [List.foldl_cons]
      refine ih _ (fun c hc => hb c (by simp [hc])) (fun c hc => hu c (by simp [hc])) ?_
      by_cases hdl : d ∈ l
      · exact .inl hdl
      · right
        by_cases e : has b x ∧ has b y
        · have eb := hu b (by simp) e.1 e.2
          rw [tabPut_val (hb b (by simp)), if_pos ⟨e.1, e.2, t.1⟩, eb, tri_sum (h.good d hd) t]
          omega
        · have hG : G x y = z := by
            rcases hz with hz | hz
            · rw [List.mem_cons] at hz
              rcases hz with rfl | hz
              · exact absurd ⟨t.h1, t.h2⟩ e
              · exact absurd hz hdl
            · exact hz
          rw [← hG, tabPut_val (hb b (by simp)), if_neg (fun q => e ⟨q.1, q.2.1⟩)]
  refine key bs _ (fun b hb => (h.good b hb).three) (fun b hb h1 h2 => two_mem h hb hd t.1 h1 h2 t.h1 t.h2) (.inl hd)
def SubQ (bs : List B3) (s : Nat) : Prop := ∀ x y : Int, x ∈ pts s → y ∈ pts s → x ≠ y → ∃ d ∈ bs, has d x ∧ has d y ∧ ∀ z, has d z → z ∈ pts s
def insB (bs : List B3) (s : Nat) : List B3 := bs.filter fun d => decide (bmask d &&& s = bmask d)
theorem insB_len : (insB bs s).length = inside bs s bs.length := by
  unfold insB inside
  rw [List.take_of_length_le (Nat.le_refl _)]
theorem pts_lt (s : Nat) : (pts s).Pairwise (· < ·) := ptsAt_sorted _ _
theorem mem_pts {s : Nat} {z : Int} : z ∈ pts s ↔ 0 ≤ z ∧ z < 15 ∧ s.testBit z.toNat = true := ptsAt_mem s 15
theorem bit_has {d : B3} (hg : good v d) {z : Int} (hz : 0 ≤ z) : (bmask d).testBit z.toNat = true ↔ has d z := by
  rw [bmask_bit hg, Int.toNat_of_nonneg hz]
theorem mem_bl {d : B3} {z : Int} : z ∈ bl d ↔ has d z := by
  unfold bl has
  simp only [List.mem_cons, List.not_mem_nil, or_false]
  omega
theorem pts_ones {m : Nat} (h : m < 32768) : (pts m).length = ones m := by
  unfold pts
  rw [ptsAt_len, cov_ones (by simpa using h)]
theorem ins_iff {d : B3} (hg : good 15 d) : bmask d &&& s = bmask d ↔ ∀ z, has d z → z ∈ pts s := by
  have hp := good.pts hg
  constructor
  · intro h z hz
    have hzz : 0 ≤ z ∧ z < 15 := by unfold has at hz; omega
    have h1 := (bit_has hg hzz.1).2 hz
    rw [← h, Nat.testBit_and, Bool.and_eq_true] at h1
    exact mem_pts.2 ⟨hzz.1, hzz.2, h1.2⟩
  · intro h
    apply Nat.eq_of_testBit_eq
    intro i
    rw [Nat.testBit_and]
    cases hb : (bmask d).testBit i with
    | false => rfl
    | true =>
      have := h i ((bmask_bit hg i).1 hb)
      rw [mem_pts] at this
      simpa using this.2.2
theorem mem_insB (h : STS v bs) {d : B3} : d ∈ insB bs s ↔ d ∈ bs ∧ ∀ z, has d z → z ∈ pts s := by
  unfold insB
  rw [List.mem_filter, decide_eq_true_eq]
  constructor
  · rintro ⟨h1, h2⟩; exact ⟨h1, (ins_iff ((h.good d h1).mono h.hi)).1 h2⟩
  · rintro ⟨h1, h2⟩; exact ⟨h1, (ins_iff ((h.good d h1).mono h.hi)).2 h2⟩
theorem ins_nodup (h : STS v bs) : (prsB (insB bs s)).Nodup := by
  have hv := h.lo
  have hh := h.hi
  have h' : STS ((v.toNat : Nat) : Int) bs := by rw [show ((v.toNat : Nat) : Int) = v by omega]; exact h
  exact (prsB_nodup (by omega) h').sublist (prsB_sub List.filter_sublist)
theorem ins_pair (h : STS v bs) {p : Int × Int} (hp : p ∈ prsB (insB bs s)) : p ∈ prs2 (pts s) := by
  rw [prs2_mem (pts_lt s)]
  obtain ⟨d, hd, e⟩ := mem_prsB.1 hp
  obtain ⟨h1, h2⟩ := (mem_insB h).1 hd
  have hg := h.good d h1
  unfold good at hg
  have k1 := h2 d.1 (.inl rfl)
  have k2 := h2 d.2.1 (.inr (.inl rfl))
  have k3 := h2 d.2.2 (.inr (.inr rfl))
  rcases e with rfl | rfl | rfl
  · exact ⟨by simp only; omega, k1, k2⟩
  · exact ⟨by simp only; omega, k1, k3⟩
  · exact ⟨by simp only; omega, k2, k3⟩
theorem count_subq (h : STS v bs) (hc : 6 * inside bs s bs.length = (pts s).length * ((pts s).length - 1)) : SubQ bs s := by
  have h1 := prs2_len (pts s)
  have h2 := prsB_len (insB bs s)
  rw [insB_len] at h2
  have hall := sub_full (prsB (insB bs s)) (prs2 (pts s)) (ins_nodup h) (fun p hp => ins_pair h hp) (by omega)
  have key : ∀ x y : Int, x ∈ pts s → y ∈ pts s → x < y → ∃ d ∈ bs, has d x ∧ has d y ∧ ∀ z, has d z → z ∈ pts s := fun x y hx hy hxy => by
    have := hall (x, y) ((prs2_mem (pts_lt s)).2 ⟨hxy, hx, hy⟩)
    obtain ⟨d, hd, k1, k2⟩ := (prsI_mem (fun e he => h.good e ((mem_insB h).1 he).1) hxy).1 this
    obtain ⟨k3, k4⟩ := (mem_insB h).1 hd
    exact ⟨d, k3, k1, k2, k4⟩
  intro x y hx hy hxy
  rcases Int.lt_or_gt_of_ne hxy with h3 | h3
  · exact key x y hx hy h3
  · obtain ⟨d, hd, k1, k2, k3⟩ := key y x hy hx h3
    exact ⟨d, hd, k2, k1, k3⟩
end
end Go.Vc

namespace Go.Vc
open Go.Proofs (ltOf)
open Go.Sort (SWO)
def PairOk (bs : List B3) (s : Nat) (x y : Int) : Prop := ∃ d ∈ bs, has d x ∧ has d y ∧ ∀ z, has d z → z ∈ pts s
section
variable {v : Int} {bs : List B3} {s i j : Nat}
theorem PairOk.symm {x y : Int} (h : PairOk bs s x y) : PairOk bs s y x := by
  obtain ⟨d, h1, h2, h3, h4⟩ := h
  exact ⟨d, h1, h3, h2, h4⟩
theorem tri_third {d : B3} (hg : good v d) {x y : Int} (hxy : x ≠ y) (hx : has d x) (hy : has d y) : ∃ z, Tri d x y z := by
  have t := tri_oth hg hx
  rcases (t.2.2.2 y).1 hy with e | e | e
  · exact absurd e.symm hxy
  · exact ⟨_, e ▸ t⟩
  · exact ⟨_, e ▸ t.swap⟩
theorem tab_some (h : STS v bs) {x y : Int} (hxy : x ≠ y) (hn : ¬ tab bs x y = -1) : ∃ d ∈ bs, Tri d x y (tab bs x y) := by
  have h2 : ∃ d ∈ bs, has d x ∧ has d y := by
    apply Classical.byContradiction
    intro hc
    exact hn ((tab_left (fun b hb => (h.good b hb).three) x y).2 fun b hb hh => hc ⟨b, hb, hh.1, hh.2.1⟩)
  obtain ⟨d, hd, hx, hy⟩ := h2
  obtain ⟨z, t⟩ := tri_third (h.good d hd) hxy hx hy
  rw [tab_tri h hd t]
  exact ⟨d, hd, t⟩
noncomputable instance (bs : List B3) (s : Nat) : Decidable (SubQ bs s) := Classical.propDecidable _
end
end Go.Vc
namespace Go.Vc
end Go.Vc
namespace Go.Vc
end Go.Vc
namespace Go.Vc
end Go.Vc
namespace Go.Vc
theorem mul15 : ∀ n : Nat, n < 16 → (0 ≤ (n : Int) * ((n : Int) - 1) ∧ (n : Int) * ((n : Int) - 1) ≤ 210) ∧ (n : Int) * ((n : Int) - 1) = ((n * (n - 1) : Nat) : Int) := by decide
end Go.Vc
namespace Go.Vc
end Go.Vc

namespace Go.Vc
def Pt (v x : Int) : Prop := 0 ≤ x ∧ x < v
noncomputable instance (v x : Int) : Decidable (Pt v x) := Classical.propDecidable _
def AllP (v : Int) (bs : List B3) : Prop := ∀ x y, Pt v x → Pt v y → x ≠ y → ∃ d ∈ bs, has d x ∧ has d y
section
variable {v : Int} {bs : List B3} {a b p x y : Int} {m n N : Nat}
theorem full_allC (h : STS v bs) (hf : 6 * (bs.length : Int) = v * (v - 1)) : AllP v bs := by
  have hlo := h.lo
  have hhi := h.hi
  obtain ⟨V, hV⟩ := Int.eq_ofNat_of_zero_le (show 0 ≤ v by omega)
  subst hV
  have hpw : 2 ^ V ≤ 2 ^ 15 := Nat.pow_le_pow_right (by decide) (by omega)
  have hp0 := Nat.two_pow_pos V
  have bit : ∀ z : Int, z ∈ pts (2 ^ V - 1) ↔ 0 ≤ z ∧ z < (V : Int) := fun z => by
    rw [mem_pts, Nat.testBit_two_pow_sub_one, decide_eq_true_eq]
    omega
  have hin : inside bs (2 ^ V - 1) bs.length = bs.length := by
    rw [← insB_len]
    have : insB bs (2 ^ V - 1) = bs := by
      unfold insB
      rw [List.filter_eq_self]
      intro d hd
      refine decide_eq_true ((ins_iff ((h.good d hd).mono h.hi)).2 fun z hz => (bit z).2 ?_)
      have hg := h.good d hd
      unfold good at hg
      unfold has at hz
      omega
    rw [this]
  have hl : (pts (2 ^ V - 1)).length = V := by
    rw [pts_ones (by omega)]
    have := compl_ones (v := V) (s := 0) (by omega)
    rw [ones_zero] at this
    simpa using this
  have hq := count_subq (s := 2 ^ V - 1) h (by
    rw [hin, hl]
    have := (mul15 V (by omega)).2
    omega)
  intro x y hx hy hxy
  obtain ⟨d, hd, k1, k2, _⟩ := hq x y ((bit x).2 hx) ((bit y).2 hy) hxy
  exact ⟨d, hd, k1, k2⟩
structure Th (v : Int) (bs : List B3) (x y z : Int) : Prop where
  blk : ∃ d ∈ bs, Tri d x y z
  pt : Pt v z
  nx : z ≠ x
  ny : z ≠ y
theorem th_of (h : STS v bs) (hf : AllP v bs) (hx : Pt v x) (hy : Pt v y) (hxy : x ≠ y) : Th v bs x y (third bs x y) := by
  obtain ⟨d, hd, k1, k2⟩ := hf x y hx hy hxy
  obtain ⟨z, t⟩ := tri_third (h.good d hd) hxy k1 k2
  obtain ⟨k, hk, rfl⟩ := List.mem_iff_getElem.1 hd
  rw [(third_tri h hk t).2]
  have hg := h.good _ hd
  have h3 := t.h3
  refine ⟨⟨_, hd, t⟩, ?_, fun e => t.2.1 e.symm, fun e => t.2.2.1 e.symm⟩
  unfold good at hg
  unfold has at h3
  unfold Pt
  omega
theorem Th.eq (h : STS v bs) {z : Int} (t : Th v bs x y z) : third bs x y = z ∧ tab bs x y = z := by
  obtain ⟨d, hd, t⟩ := t.blk
  refine ⟨?_, tab_tri h hd t⟩
  obtain ⟨k, hk, rfl⟩ := List.mem_iff_getElem.1 hd
  exact (third_tri h hk t).2
theorem Th.back {z : Int} (h : STS v bs) (t : Th v bs x y z) : third bs x z = y := by
  obtain ⟨d, hd, t⟩ := t.blk
  obtain ⟨k, hk, rfl⟩ := List.mem_iff_getElem.1 hd
  exact (third_tri h hk t.swap).2
structure Cy (v : Int) (bs : List B3) (a b x : Int) : Prop where
  pt : Pt v x
  na : x ≠ a
  nb : x ≠ b
  nc : x ≠ third bs a b
structure Ab (v : Int) (bs : List B3) (a b : Int) : Prop where
  h : STS v bs
  f : AllP v bs
  pa : Pt v a
  pb : Pt v b
  ne : a ≠ b
theorem Ab.symm (g : Ab v bs a b) : Ab v bs b a := ⟨g.h, g.f, g.pb, g.pa, fun e => g.ne e.symm⟩
theorem Ab.third (g : Ab v bs a b) : third bs b a = third bs a b := by
  have t := th_of g.h g.f g.pa g.pb g.ne
  obtain ⟨d, hd, t⟩ := t.blk
  obtain ⟨k, hk, rfl⟩ := List.mem_iff_getElem.1 hd
  exact (third_tri g.h hk t.rot).2
theorem Cy.symm (g : Ab v bs a b) (c : Cy v bs a b x) : Cy v bs b a x := ⟨c.pt, c.nb, c.na, by rw [g.third]; exact c.nc⟩
theorem Cy.step (g : Ab v bs a b) (c : Cy v bs a b x) : Th v bs a x (third bs a x) ∧ Cy v bs a b (third bs a x) := by
  have t := th_of g.h g.f g.pa c.pt (fun e => c.na e.symm)
  have bk := t.back g.h
  refine ⟨t, t.pt, t.nx, fun e => ?_, fun e => ?_⟩
  · rw [e] at bk
    exact c.nc bk.symm
  · have t2 := th_of g.h g.f g.pa g.pb g.ne
    rw [e, t2.back g.h] at bk
    exact c.nb bk.symm
def cm (a b : Int) (m : Nat) : Int := if m % 2 = 0 then a else b
noncomputable def uc (bs : List B3) (a b p : Int) : Nat → Int
  | 0 => p
  | m + 1 => third bs (cm a b m) (uc bs a b p m)
theorem uc_cy (g : Ab v bs a b) (c : Cy v bs a b p) : ∀ m, Cy v bs a b (uc bs a b p m)
  | 0 => c
  | m + 1 => by
    have ih := uc_cy g c m
    rw [uc]
    unfold cm
    split
    · exact (ih.step g).2
    · exact ((ih.symm g).step g.symm).2.symm g.symm
theorem uc_th (g : Ab v bs a b) (c : Cy v bs a b p) (m : Nat) : Th v bs (cm a b m) (uc bs a b p m) (uc bs a b p (m + 1)) := by
  have ih := uc_cy g c m
  rw [uc]
  unfold cm
  split
  · exact (ih.step g).1
  · exact ((ih.symm g).step g.symm).1
theorem uc_back (g : Ab v bs a b) (c : Cy v bs a b p) (m : Nat) : third bs (cm a b m) (uc bs a b p (m + 1)) = uc bs a b p m := (uc_th g c m).back g.h
theorem cm_add (m k : Nat) : cm a b (m + 2 * k) = cm a b m := by
  unfold cm
  rw [show (m + 2 * k) % 2 = m % 2 by omega]
theorem uc_odd (g : Ab v bs a b) (c : Cy v bs a b p) : ∀ k m, uc bs a b p m ≠ uc bs a b p (m + 2 * k + 1)
  | 0, m => fun e => (uc_th g c m).ny e.symm
  | k + 1, m => fun e => by
    have h1 := uc_back g c (m + 2 * (k + 1))
    rw [← e, cm_add] at h1
    have h2 : uc bs a b p (m + 1) = uc bs a b p ((m + 1) + 2 * k + 1) := by
      rw [uc, h1]
      congr 1
      omega
    exact uc_odd g c k (m + 1) h2
theorem uc_even (g : Ab v bs a b) (c : Cy v bs a b p) (k : Nat) : ∀ m, uc bs a b p m = uc bs a b p (m + 2 * k) → uc bs a b p (2 * k) = p
  | 0, e => by rw [Nat.zero_add] at e; exact e.symm
  | m + 1, e => by
    refine uc_even g c k m ?_
    have h1 := uc_back g c m
    have h2 := uc_back g c (m + 2 * k)
    rw [cm_add] at h2
    rw [← h1, ← h2, e]
    congr 2
    omega
theorem nodup_len {α : Type} [DecidableEq α] : ∀ (l1 l2 : List α), l1.Nodup → (∀ x ∈ l1, x ∈ l2) → l1.length ≤ l2.length
  | [], l2, _, _ => Nat.zero_le _
  | a :: l1, l2, hn, hs => by
    obtain ⟨h1, h2⟩ := List.nodup_cons.1 hn
    have ha := hs a (by simp)
    have he := List.length_erase_of_mem ha
    have hp := List.length_pos_of_mem ha
    have := nodup_len l1 (l2.erase a) h2 (fun y hy => (List.mem_erase_of_ne (fun e => by subst e; exact h1 hy)).2 (hs y (by simp [hy])))
    rw [List.length_cons]
    omega
structure Per (bs : List B3) (a b p : Int) (N : Nat) : Prop where
  pos : 0 < N
  le : N ≤ 15
  ret : uc bs a b p (2 * N) = p
  least : ∀ k, 0 < k → k < N → uc bs a b p (2 * k) ≠ p
theorem per_some (g : Ab v bs a b) (c : Cy v bs a b p) : ∃ N, Per bs a b p N := by
  have hhi := g.h.hi
  have h1 : ∃ k, 0 < k ∧ k ≤ 15 ∧ uc bs a b p (2 * k) = p := by
    apply Classical.byContradiction
    intro hc
    have hn : ((List.range 16).map fun i => uc bs a b p (2 * i)).Nodup := by
      unfold List.Nodup
      rw [List.pairwise_map]
      refine List.Pairwise.imp_of_mem ?_ (List.pairwise_lt_range (n := 16))
      intro i j hi hj hij e
      rw [List.mem_range] at hi hj
      have := uc_even g c (j - i) (2 * i) (by rw [e]; congr 1; omega)
      exact hc ⟨j - i, by omega, by omega, this⟩
    have := nodup_len _ ((List.range 15).map fun i : Nat => (i : Int)) hn (fun z hz => by
      obtain ⟨i, _, rfl⟩ := List.mem_map.1 hz
      have := (uc_cy g c (2 * i)).pt
      unfold Pt at this
      exact List.mem_map.2 ⟨(uc bs a b p (2 * i)).toNat, List.mem_range.2 (by omega), by omega⟩)
    simp at this
  obtain ⟨k, hk0, hk15, hk⟩ := h1
  obtain ⟨N, ⟨h2, h3⟩, h4⟩ := leastN (p := fun k => 0 < k ∧ uc bs a b p (2 * k) = p) k ⟨hk0, hk⟩
  exact ⟨N, h2, Nat.le_trans (h4 k ⟨hk0, hk⟩) hk15, h3, fun j hj hjN e => by have := h4 j ⟨hj, e⟩; omega⟩
theorem per_inj (g : Ab v bs a b) (c : Cy v bs a b p) (P : Per bs a b p N) (hmn : m < n) (hn : n < 2 * N) : uc bs a b p m ≠ uc bs a b p n := by
  intro e
  rcases Nat.mod_two_eq_zero_or_one (n - m) with h | h
  · have := uc_even g c ((n - m) / 2) m (by rw [e]; congr 1; omega)
    exact P.least ((n - m) / 2) (by omega) (by omega) this
  · exact uc_odd g c ((n - m) / 2) m (by rw [e]; congr 1; omega)
end
end Go.Vc

namespace Go.Vc
section
variable {v : Int} {bs : List B3} {a b p x y z : Int} {m n N : Nat} {d : B3}
noncomputable def ucE (bs : List B3) (a b p : Int) (m : Nat) : B3 := bk3 (cm a b m) (uc bs a b p m) (uc bs a b p (m + 1))
noncomputable def ucF (bs : List B3) (a b p : Int) (m : Nat) : B3 := bk3 (cm b a m) (uc bs a b p m) (uc bs a b p (m + 1))
noncomputable def outL (bs : List B3) (a b p : Int) (N : Nat) : List B3 := (List.range (2 * N)).map (ucE bs a b p)
noncomputable def inL (bs : List B3) (a b p : Int) (N : Nat) : List B3 := (List.range (2 * N)).map (ucF bs a b p)
noncomputable def cycL (bs : List B3) (a b p : Int) (N : Nat) : List Int := (List.range (2 * N)).map (uc bs a b p)
theorem bk3_is {v : Int} {B : B3} (hg : good v B) {x y z : Int} (t : Tri B x y z) : bk3 x y z = B := by
  have h1 := t.h1
  have h2 := t.h2
  have h3 := t.h3
  have n1 := t.1
  have n2 := t.2.1
  have n3 := t.2.2.1
  obtain ⟨p, q, r⟩ := B
  unfold good at hg
  unfold has at h1 h2 h3
  unfold bk3 mi3 lo3 hi3
  simp only at *
  rw [Prod.mk.injEq, Prod.mk.injEq]
  omega
theorem ucE_tri (g : Ab v bs a b) (c : Cy v bs a b p) (m : Nat) : ucE bs a b p m ∈ bs ∧ Tri (ucE bs a b p m) (cm a b m) (uc bs a b p m) (uc bs a b p (m + 1)) := by
  obtain ⟨d, hd, t⟩ := (uc_th g c m).blk
  have e : ucE bs a b p m = d := bk3_is (g.h.good d hd) t
  rw [e]
  exact ⟨hd, t⟩
theorem cm_or (m : Nat) : cm a b m = a ∨ cm a b m = b := by
  unfold cm
  split
  · exact .inl rfl
  · exact .inr rfl
theorem uc_not (g : Ab v bs a b) (c : Cy v bs a b p) (m n : Nat) : uc bs a b p n ≠ cm a b m := by
  have k := uc_cy g c n
  rcases cm_or (a := a) (b := b) m with e | e <;> rw [e]
  · exact k.na
  · exact k.nb
theorem ucE_inj (g : Ab v bs a b) (c : Cy v bs a b p) (P : Per bs a b p N) (hmn : m < n) (hn : n < 2 * N) : ucE bs a b p m ≠ ucE bs a b p n := by
  intro e
  have t1 := (ucE_tri g c m).2
  have t2 := (ucE_tri g c n).2
  rw [← e] at t2
  by_cases hp : m % 2 = n % 2
  · rcases (t2.2.2.2 _).1 t1.h2 with h | h | h
    · exact uc_not g c n m h
    · exact per_inj g c P hmn hn h
    · exact uc_odd g c ((n - m) / 2) m (by rw [h]; congr 1; omega)
  · rcases (t1.2.2.2 _).1 t2.h1 with h | h | h
    · unfold cm at h
      have := g.ne
      split at h <;> split at h <;> first | omega | exact this h | exact this h.symm
    · exact uc_not g c n m h.symm
    · exact uc_not g c n (m + 1) h.symm
theorem outL_nodup (g : Ab v bs a b) (c : Cy v bs a b p) (P : Per bs a b p N) : (outL bs a b p N).Nodup := by
  unfold outL List.Nodup
  rw [List.pairwise_map]
  refine List.Pairwise.imp_of_mem ?_ (List.pairwise_lt_range (n := 2 * N))
  intro i j hi hj hij
  rw [List.mem_range] at hj
  exact ucE_inj g c P hij hj
theorem bl_tri (hg : good v d) (t : Tri d x y z) : (bl d).Perm [x, y, z] := by
  have n1 : (bl d).Nodup := by
    unfold good at hg
    unfold bl
    simp
    omega
  have n2 : [x, y, z].Nodup := by
    have := t.1
    have := t.2.1
    have := t.2.2.1
    simp
    omega
  refine (List.perm_ext_iff_of_nodup n1 n2).2 fun u => ?_
  rw [mem_bl, t.2.2.2 u]
  simp
theorem mem_cycL (g : Ab v bs a b) (c : Cy v bs a b p) (P : Per bs a b p N) {u : Int} : u ∈ cycL bs a b p N ↔ ∃ m, m < 2 * N ∧ uc bs a b p m = u := by
  unfold cycL
  rw [List.mem_map]
  exact ⟨fun ⟨m, h, e⟩ => ⟨m, List.mem_range.1 h, e⟩, fun ⟨m, h, e⟩ => ⟨m, List.mem_range.2 h, e⟩⟩
theorem uc_in (g : Ab v bs a b) (c : Cy v bs a b p) (P : Per bs a b p N) (hm : m ≤ 2 * N) : uc bs a b p m ∈ cycL bs a b p N := by
  rw [mem_cycL g c P]
  by_cases e : m = 2 * N
  · subst e
    exact ⟨0, by have := P.pos; omega, P.ret.symm⟩
  · exact ⟨m, by omega, rfl⟩
def cntY (l : List Int) (d : B3) : Nat := ((bl d).filter fun q => decide (q ∈ l)).length
def inY (l : List Int) (a b : Int) (d : B3) : Prop := cntY l d = 2 ∧ (has d a ∨ has d b)
instance (l : List Int) (a b : Int) (d : B3) : Decidable (inY l a b d) := inferInstanceAs (Decidable (_ ∧ _))
theorem cyc_mem (g : Ab v bs a b) (c : Cy v bs a b p) (P : Per bs a b p N) (hd : d ∈ bs) : inY (cycL bs a b p N) a b d ↔ d ∈ outL bs a b p N := by
  have hg := g.h.good d hd
  have nc : ∀ m, cm a b m ∉ cycL bs a b p N := fun m hm => by
    obtain ⟨k, _, e⟩ := (mem_cycL g c P).1 hm
    exact uc_not g c m k e
  unfold inY cntY outL
  rw [List.mem_map]
  constructor
  · rintro ⟨h1, h2⟩
    have key : ∀ e : Int, has d e → (∃ m0, cm a b m0 = e) → (∀ m, m ≤ 2 * N → cm a b m = e → True) → ∃ o1 o2, Tri d e o1 o2 ∧ o1 ∈ cycL bs a b p N ∧ o2 ∈ cycL bs a b p N := fun e he hm _ => by
      obtain ⟨m0, hm0⟩ := hm
      have t := tri_oth hg he
      have h3 := ((bl_tri hg t).filter fun q => decide (q ∈ cycL bs a b p N)).length_eq
      rw [h1] at h3
      have hn : e ∉ cycL bs a b p N := by rw [← hm0]; exact nc m0
      have three : ∀ o1 o2 : Int, 2 = ([e, o1, o2].filter fun q => decide (q ∈ cycL bs a b p N)).length → o1 ∈ cycL bs a b p N ∧ o2 ∈ cycL bs a b p N := fun o1 o2 h => by
        rw [List.filter_cons_of_neg (by simpa using hn)] at h
        by_cases k1 : o1 ∈ cycL bs a b p N <;> by_cases k2 : o2 ∈ cycL bs a b p N
        · exact ⟨k1, k2⟩
        · rw [List.filter_cons_of_pos (by simpa using k1), List.filter_cons_of_neg (by simpa using k2)] at h
          simp at h
        · rw [List.filter_cons_of_neg (by simpa using k1), List.filter_cons_of_pos (by simpa using k2)] at h
          simp at h
        · rw [List.filter_cons_of_neg (by simpa using k1), List.filter_cons_of_neg (by simpa using k2)] at h
          simp at h
      exact ⟨_, _, t, three _ _ h3⟩
    have fin : ∀ e : Int, has d e → (∃ r : Nat, r < 2 ∧ ∀ m, m % 2 = r → cm a b m = e) → ∃ m, m ∈ List.range (2 * N) ∧ ucE bs a b p m = d := fun e he hr => by
      obtain ⟨r, hr2, hr⟩ := hr
      obtain ⟨o1, o2, t, h5, h6⟩ := key e he ⟨r, hr r (by omega)⟩ (fun _ _ _ => trivial)
      obtain ⟨m, hm, e1⟩ := (mem_cycL g c P).1 h5
      have hN := P.pos
      by_cases hp : m % 2 = r
      · refine ⟨m, List.mem_range.2 hm, ?_⟩
        have t2 := ucE_tri g c m
        rw [hr m hp, e1] at t2
        exact two_mem g.h t2.1 hd t.1 t2.2.h1 t2.2.h2 t.h1 t.h2
      · have ⟨k, hk, hkr, ek⟩ : ∃ k, k < 2 * N ∧ k % 2 = r ∧ uc bs a b p (k + 1) = o1 := by
          by_cases h0 : m = 0
          · subst h0
            exact ⟨2 * N - 1, by omega, by omega, by rw [show 2 * N - 1 + 1 = 2 * N by omega, P.ret]; exact e1⟩
          · exact ⟨m - 1, by omega, by omega, by rw [show m - 1 + 1 = m by omega]; exact e1⟩
        refine ⟨k, List.mem_range.2 hk, ?_⟩
        have t2 := ucE_tri g c k
        rw [hr k hkr, ek] at t2
        exact two_mem g.h t2.1 hd t.1 t2.2.h1 t2.2.h3 t.h1 t.h2
    rcases h2 with h2 | h2
    · exact fin a h2 ⟨0, by omega, fun m hm => by unfold cm; rw [if_pos hm]⟩
    · exact fin b h2 ⟨1, by omega, fun m hm => by unfold cm; rw [if_neg (by omega)]⟩
  · rintro ⟨m, hm, rfl⟩
    rw [List.mem_range] at hm
    have t := (ucE_tri g c m).2
    have h3 := ((bl_tri hg t).filter fun q => decide (q ∈ cycL bs a b p N)).length_eq
    refine ⟨?_, ?_⟩
    · rw [h3]
      simp [List.filter_cons, nc m, uc_in g c P (show m ≤ 2 * N by omega), uc_in g c P (show m + 1 ≤ 2 * N by omega)]
    · rcases cm_or (a := a) (b := b) m with e | e
      · have h := t.h1; rw [e] at h; exact .inl h
      · have h := t.h1; rw [e] at h; exact .inr h
end
end Go.Vc

namespace Go.Vc
def sw2 (a b t : Int) : Int := if t = a then b else if t = b then a else t
def exB (a b : Int) (d : B3) : B3 := bk3 (sw2 a b d.1) (sw2 a b d.2.1) (sw2 a b d.2.2)
section
variable {v : Int} {bs : List B3} {a b p x y z : Int} {m n N : Nat} {d : B3}
theorem exB_tri (hg : good v d) (t : Tri d x y z) : exB a b d = bk3 (sw2 a b x) (sw2 a b y) (sw2 a b z) := by
  have h1 := t.h1
  have h2 := t.h2
  have h3 := t.h3
  have n1 := t.1
  have n2 := t.2.1
  have n3 := t.2.2.1
  obtain ⟨p, q, r⟩ := d
  unfold has at h1 h2 h3
  unfold exB
  simp only at *
  unfold bk3 mi3 lo3 hi3
  generalize hA : sw2 a b p = A
  generalize hB : sw2 a b q = B
  generalize hC : sw2 a b r = C
  rcases h1 with rfl | rfl | rfl <;> rcases h2 with rfl | rfl | rfl <;> rcases h3 with rfl | rfl | rfl <;> first | omega | (rw [hA, hB, hC, Prod.mk.injEq, Prod.mk.injEq]; omega)
theorem exE (g : Ab v bs a b) (c : Cy v bs a b p) (m : Nat) : exB a b (ucE bs a b p m) = ucF bs a b p m := by
  obtain ⟨hd, t⟩ := ucE_tri g c m
  have k1 := uc_cy g c m
  have k2 := uc_cy g c (m + 1)
  rw [exB_tri (g.h.good _ hd) t]
  have e1 : sw2 a b (uc bs a b p m) = uc bs a b p m := by unfold sw2; rw [if_neg k1.na, if_neg k1.nb]
  have e2 : sw2 a b (uc bs a b p (m + 1)) = uc bs a b p (m + 1) := by unfold sw2; rw [if_neg k2.na, if_neg k2.nb]
  have e3 : sw2 a b (cm a b m) = cm b a m := by
    unfold sw2 cm
    by_cases h : m % 2 = 0
    · rw [if_pos h, if_pos h, if_pos rfl]
    · rw [if_neg h, if_neg h, if_neg (fun e => g.ne e.symm), if_pos rfl]
  rw [e1, e2, e3]
  rfl
theorem inL_map (g : Ab v bs a b) (c : Cy v bs a b p) : (outL bs a b p N).map (exB a b) = inL bs a b p N := by
  unfold outL inL
  rw [List.map_map]
  apply List.map_congr_left
  intro m _
  exact exE g c m
theorem outB_perm (g : Ab v bs a b) (c : Cy v bs a b p) (P : Per bs a b p N) : (bs.filter fun d => decide (inY (cycL bs a b p N) a b d)).Perm (outL bs a b p N) := by
  have hbn : bs.Nodup := by
    have h1 : bs.Pairwise B3.lt := by
      have h' : STS ((v.toNat : Nat) : Int) bs := by have := g.h.lo; rw [show ((v.toNat : Nat) : Int) = v by omega]; exact g.h
      exact (sts_rest h').lt
    exact h1.imp fun h => by rintro rfl; exact lt_irrefl _ h
  refine (List.perm_ext_iff_of_nodup (hbn.sublist List.filter_sublist) (outL_nodup g c P)).2 fun d => ?_
  rw [List.mem_filter, decide_eq_true_eq]
  constructor
  · rintro ⟨h1, h2⟩; exact (cyc_mem g c P h1).1 h2
  · intro h
    have hd : d ∈ bs := by
      unfold outL at h
      obtain ⟨m, _, rfl⟩ := List.mem_map.1 h
      exact (ucE_tri g c m).1
    exact ⟨hd, (cyc_mem g c P hd).2 h⟩
theorem Per.unique {M : Nat} (h1 : Per bs a b p N) (h2 : Per bs a b p M) : N = M := by
  rcases Nat.lt_trichotomy N M with h | h | h
  · exact absurd h1.ret (h2.least N h1.pos h)
  · exact h
  · exact absurd h2.ret (h1.least M h2.pos h)
theorem third_tab (h : STS v bs) (hxy : x ≠ y) : third bs x y = tab bs x y := by
  by_cases hc : tab bs x y = -1
  · rw [hc]
    have h1 := (tab_left (fun b hb => (h.good b hb).three) x y).1 hc
    exact (third_none fun j hj hh => h1 _ (List.getElem_mem hj) ⟨hh.1, hh.2, hxy⟩).2
  · obtain ⟨d, hd, t⟩ := tab_some h hxy hc
    obtain ⟨k, hk, rfl⟩ := List.mem_iff_getElem.1 hd
    exact (third_tri h hk t).2
def CyOk (v : Int) (bs : List B3) (a b p : Int) : Prop := Pt v a ∧ Pt v b ∧ Pt v p ∧ a ≠ b ∧ p ≠ a ∧ p ≠ b ∧ p ≠ third bs a b
noncomputable instance (v : Int) (bs : List B3) (a b p : Int) : Decidable (CyOk v bs a b p) := Classical.propDecidable _
noncomputable def cyCode (v : Int) (bs : List B3) (a b p : Int) : Int := if STS v bs then if CyOk v bs a b p then if 6 * (bs.length : Int) = v * (v - 1) then 0 else 5 else 2 else 1
def CYR (v : Int) (bs : List B3) (a b p : Int) (o i : List B3) : Prop := (cyCode v bs a b p = 0 → ∃ N, Per bs a b p N ∧ (o.Perm (outL bs a b p N) ∧ SrtB o) ∧ (i.Perm (inL bs a b p N) ∧ SrtB i)) ∧ (¬ cyCode v bs a b p = 0 → o = [] ∧ i = [])
theorem CYR.unique {o i o' i' : List B3} (h1 : CYR v bs a b p o i) (h2 : CYR v bs a b p o' i') : o = o' ∧ i = i' := by
  by_cases h : cyCode v bs a b p = 0
  · obtain ⟨N, P, ⟨p1, s1⟩, p2, s2⟩ := h1.1 h
    obtain ⟨M, Q, ⟨q1, r1⟩, q2, r2⟩ := h2.1 h
    have e := P.unique Q
    subst e
    exact ⟨srtB_unique s1 r1 (p1.trans q1.symm), srtB_unique s2 r2 (p2.trans q2.symm)⟩
  · obtain ⟨e1, e2⟩ := h1.2 h
    obtain ⟨e3, e4⟩ := h2.2 h
    exact ⟨e1.trans e3.symm, e2.trans e4.symm⟩
theorem cy_ok (h : cyCode v bs a b p = 0) : Ab v bs a b ∧ Cy v bs a b p := by
  unfold cyCode at h
  split at h
  · rename_i hS
    split at h
    · rename_i hc
      split at h
      · rename_i hf
        obtain ⟨h1, h2, h3, h4, h5, h6, h7⟩ := hc
        exact ⟨⟨hS, full_allC hS hf, h1, h2, h4⟩, h3, h5, h6, h7⟩
      · omega
    · omega
  · omega
theorem CYR.len {o i : List B3} (h1 : CYR v bs a b p o i) : o.length ≤ 30 ∧ i.length ≤ 30 := by
  by_cases h : cyCode v bs a b p = 0
  · obtain ⟨N, P, ⟨p1, s1⟩, p2, s2⟩ := h1.1 h
    have := P.le
    rw [p1.length_eq, p2.length_eq]
    unfold outL inL
    simp
    omega
  · obtain ⟨e1, e2⟩ := h1.2 h
    rw [e1, e2]
    simp
end
end Go.Vc
namespace Go.Vc
section
variable {v : Int} {bs : List B3} {a b p : Int} {i N : Nat}
theorem uc_tab (g : Ab v bs a b) (c : Cy v bs a b p) (i : Nat) : (tab bs a (uc bs a b p (2 * i)) = uc bs a b p (2 * i + 1) ∧ tab bs b (uc bs a b p (2 * i + 1)) = uc bs a b p (2 * (i + 1))) ∧ (third bs a (uc bs a b p (2 * i)) = uc bs a b p (2 * i + 1) ∧ third bs b (uc bs a b p (2 * i + 1)) = uc bs a b p (2 * (i + 1))) := by
  have t1 := (uc_th g c (2 * i)).eq g.h
  have t2 := (uc_th g c (2 * i + 1)).eq g.h
  rw [show cm a b (2 * i) = a by unfold cm; rw [if_pos (by omega)]] at t1
  rw [show cm a b (2 * i + 1) = b by unfold cm; rw [if_neg (by omega)]] at t2
  exact ⟨⟨t1.2, t2.2⟩, t1.1, t2.1⟩
theorem uc_pt15 (g : Ab v bs a b) (c : Cy v bs a b p) (m : Nat) : 0 ≤ uc bs a b p m ∧ uc bs a b p m < 15 := by
  have h := (uc_cy g c m).pt
  have := g.h.hi
  unfold Pt at h
  omega
theorem rg_snoc {α : Type} (f : Nat → α) (i : Nat) : (List.range (2 * (i + 1))).map f = (List.range (2 * i)).map f ++ [f (2 * i), f (2 * i + 1)] := by
  rw [show 2 * (i + 1) = 2 * i + 1 + 1 by omega, List.range_succ, List.range_succ, List.map_append, List.map_append]
  simp
theorem per_end (P : Per bs a b p N) (hi : i < N) (e : uc bs a b p (2 * (i + 1)) = p) : N = i + 1 := by
  by_cases h : i + 1 < N
  · exact absurd e (P.least (i + 1) (by omega) h)
  · omega
theorem per_more (P : Per bs a b p N) (hi : i < N) (e : ¬ uc bs a b p (2 * (i + 1)) = p) : i + 1 < N := by
  by_cases h : i + 1 = N
  · exact absurd (by rw [h]; exact P.ret) e
  · omega
end
end Go.Vc
namespace Go.Vc
section
variable {v : Int} {bs : List B3} {a b p : Int} {i N : Nat}
theorem ucE_ev : ucE bs a b p (2 * i) = bk3 a (uc bs a b p (2 * i)) (uc bs a b p (2 * i + 1)) := by unfold ucE cm; rw [if_pos (by omega)]
theorem ucE_od : ucE bs a b p (2 * i + 1) = bk3 b (uc bs a b p (2 * i + 1)) (uc bs a b p (2 * (i + 1))) := by
  unfold ucE cm
  rw [if_neg (by omega)]
  rfl
theorem ucF_ev : ucF bs a b p (2 * i) = bk3 b (uc bs a b p (2 * i)) (uc bs a b p (2 * i + 1)) := by unfold ucF cm; rw [if_pos (by omega)]
theorem ucF_od : ucF bs a b p (2 * i + 1) = bk3 a (uc bs a b p (2 * i + 1)) (uc bs a b p (2 * (i + 1))) := by
  unfold ucF cm
  rw [if_neg (by omega)]
  rfl
theorem cyCode_0 (h : STS v bs) (hc : CyOk v bs a b p) (hf : 6 * (bs.length : Int) = v * (v - 1)) : cyCode v bs a b p = 0 := by
  unfold cyCode
  rw [if_pos h, if_pos hc, if_pos hf]
theorem cyCode_5 (h : STS v bs) (hc : CyOk v bs a b p) (hf : ¬ 6 * (bs.length : Int) = v * (v - 1)) : cyCode v bs a b p = 5 := by
  unfold cyCode
  rw [if_pos h, if_pos hc, if_neg hf]
theorem cyCode_2 (h : STS v bs) (hc : ¬ CyOk v bs a b p) : cyCode v bs a b p = 2 := by
  unfold cyCode
  rw [if_pos h, if_neg hc]
theorem cyCode_1 (h : ¬ STS v bs) : cyCode v bs a b p = 1 := by
  unfold cyCode
  rw [if_neg h]
theorem cyR_no {k : Int} (h : cyCode v bs a b p = k) (hk : k ≠ 0) : CYR v bs a b p [] [] := ⟨fun e => absurd (h.symm.trans e) hk, fun _ => ⟨rfl, rfl⟩⟩
theorem sts_mul' (h : STS v bs) : 0 ≤ v * (v - 1) ∧ v * (v - 1) ≤ 1000000 := by
  have hlo := h.lo
  have hhi := h.hi
  obtain ⟨V, hV⟩ := Int.eq_ofNat_of_zero_le (show 0 ≤ v by omega)
  subst hV
  have := (mul15 V (by omega)).1
  omega
end
end Go.Vc
namespace Go.Vc
section
variable {v : Int} {bs : List B3} {a b p : Int} {k : Nat}
theorem flt_yes {P : B3 → Bool} (hk : k < bs.length) (h : P bs[k] = true) : (bs.take (k + 1)).filter P = (bs.take k).filter P ++ [bs[k]] := by
  rw [take_snoc hk, List.filter_append]
  simp [h]
theorem flt_no {P : B3 → Bool} (hk : k < bs.length) (h : P bs[k] = false) : (bs.take (k + 1)).filter P = (bs.take k).filter P := by
  rw [take_snoc hk, List.filter_append]
  simp [h]
theorem cntY_val (l : List Int) (d : B3) : cntY l d = (if d.1 ∈ l then 1 else 0) + (if d.2.1 ∈ l then 1 else 0) + (if d.2.2 ∈ l then 1 else 0) := by
  unfold cntY bl
  by_cases h1 : d.1 ∈ l <;> by_cases h2 : d.2.1 ∈ l <;> by_cases h3 : d.2.2 ∈ l <;> simp [List.filter_cons, h1, h2, h3]
theorem flt_srt (h : STS v bs) {P : B3 → Bool} : SrtB (bs.filter P) := by
  have h1 : bs.Pairwise B3.lt := by
    have h' : STS ((v.toNat : Nat) : Int) bs := by have := h.lo; rw [show ((v.toNat : Nat) : Int) = v by omega]; exact h
    exact (sts_rest h').lt
  exact srtB_lt (h1.sublist List.filter_sublist)
end
end Go.Vc

namespace Go.Vc
open Go Go.RowKit
theorem wrapU (n : Nat) : IntKind.u64.wrap (n : Int) = ((n % 18446744073709551616 : Nat) : Int) := by
  simp only [IntKind.wrap, IntKind.bits, IntKind.signed, Bool.false_and, Bool.false_eq_true, if_false]
  omega
def U8C : Cod UInt8 := ⟨1, fun x => [.int .u8 (x.toNat : Int)], by decide, fun _ => rfl, fun _ u hu => by simp at hu; subst hu; rfl⟩
def StrC : Cod ByteArray := ⟨1, fun x => [.string x], by decide, fun _ => rfl, fun _ u hu => by simp at hu; subst hu; rfl⟩
section
variable {P : Program} {w0 w : World} {H : List Assn} {σ : Sig} {o : Oper} {T T2 : TypeId} {x y : Operand} {m n : Nat}
theorem Pu.mulU (ho : o.op = .binOp .mul T x y T2) (hx : ev σ x = some (.int .u64 (m : Int))) (hy : ev σ y = some (.int .u64 (n : Int))) : Pu P w0 o σ H (.int .u64 ((m * n % 18446744073709551616 : Nat) : Int)) := by
  have := Pu.mulW (P := P) (w0 := w0) (H := H) ho hx hy
  rwa [show (m : Int) * (n : Int) = ((m * n : Nat) : Int) by push_cast; rfl, wrapU] at this
theorem Pu.addU (ho : o.op = .binOp .add T x y T2) (hx : ev σ x = some (.int .u64 (m : Int))) (hy : ev σ y = some (.int .u64 (n : Int))) : Pu P w0 o σ H (.int .u64 (((m + n) % 18446744073709551616 : Nat) : Int)) := by
  have := Pu.add (P := P) (w0 := w0) (H := H) ho hx hy
  rwa [show (m : Int) + (n : Int) = ((m + n : Nat) : Int) by push_cast; rfl, wrapU] at this
theorem Pu.andU (hm : m < 18446744073709551616) (hn : n < 18446744073709551616) (ho : o.op = .binOp .and T x y T2) (hx : ev σ x = some (.int .u64 (m : Int))) (hy : ev σ y = some (.int .u64 (n : Int))) : Pu P w0 o σ H (.int .u64 ((m &&& n : Nat) : Int)) :=
  Pu.bin ho hx hy fun w => by
    have h1 : (BitVec.ofInt IntKind.u64.bits (m : Int) &&& BitVec.ofInt IntKind.u64.bits (n : Int)).toNat = m &&& n := by
      rw [BitVec.toNat_and, ofInt_nat (by show m < 2 ^ 64; omega), ofInt_nat (by show n < 2 ^ 64; omega)]
    have h2 : m &&& n < 18446744073709551616 := Nat.lt_of_le_of_lt Nat.and_le_left hm
    simp only [Go.binOp, Op.intBits, h1, wrap_u64 h2, ne_eq, not_true, if_false]
    rfl
theorem and_le_r {m n : Nat} : m &&& n ≤ n := Nat.and_le_right
end
theorem X.retCell22 {P : Program} {w0 : World} {H : List Assn} {σ : Sig} {N : Nat} {fn : Func} {t s n m : Nat} {T U : TypeId} {p q : Option Addr} {cs ds : List Value} {R : Value → List Assn} (hr : fn.results = #[.cell t T, .cell s U]) (hT : aggT P T = true) (hz : Sz P T n) (hl : cs.length = n) (hU : aggT P U = true) (hy : Sz P U m) (hm : ds.length = m) (ht : look σ t = some (.pointer p)) (hs' : look σ s = some (.pointer q))
    (hc : ∀ w, St w0 H w → ∃ a, p = some a ∧ ∀ j u, cs[j]? = some u → w.cell? (a.add j) = some u) (hd : ∀ w, St w0 H w → ∃ a, q = some a ∧ ∀ j u, ds[j]? = some u → w.cell? (a.add j) = some u) (hs : ∀ w, St w0 H w → St w0 (R (.tuple #[.agg cs.toArray, .agg ds.toArray])) w) :
    X N w0 (bodyPost P fn (fun e w' => ∃ v, e = .returned v ∧ St w0 (R v) w')) .ret σ H := by
  intro w hw a ha
  refine ⟨ha.defers, .tuple #[.agg cs.toArray, .agg ds.toArray], ?_, _, rfl, hs w hw⟩
  have h1 := ha.look_ t _ ht
  have h2 := ha.look_ s _ hs'
  obtain ⟨p, rfl, hp⟩ := hc w hw
  obtain ⟨q, rfl, hq⟩ := hd w hw
  subst hl
  subst hm
  have hrn := run_loadCells_list (P := P) (w := w) p cs hp
  have hrm := run_loadCells_list (P := P) (w := w) q ds hq
  simp [results, hr, h1, h2, asAddr, loadVar, run_isAgg_t hT, run_sz hz, run_isAgg_t hU, run_sz hy, hrn, hrm]
theorem D.either3 {P : Program} {w0 : World} {Q : Exit → Act → World → Prop} {σ : Sig} {H : List Assn} {N : Nat} {ops : Array Oper} {Hs : List Assn} (hwf : wfB ops = true) {effs done : List Nat} {e1 e2 e3 : Nat} (hcl : closedL ops done [e1, e2, e3] = true) (h1 : Cand P N w0 ops Q effs done σ Hs H e1) (h2 : Cand P N w0 ops Q effs done σ Hs H e2) (h3 : Cand P N w0 ops Q effs done σ Hs H e3) : D P N w0 ops Q effs done σ Hs H := by
  refine D.effS hwf [e1, e2, e3] e1 (by simp) hcl ?_
  intro e he
  simp only [List.mem_cons, List.not_mem_nil, or_false] at he
  rcases he with rfl | rfl | rfl
  · exact h1
  · exact h2
  · exact h3

section
variable {α : Type} {P : Program} {w0 w : World} {Q : Exit → Act → World → Prop} {H H' : List Assn} {σ : Sig} {o : Oper}
theorem Own.nilc {w : World} {T i c : Nat} {C : Cod α} {A : Option Addr} {xs : List α} (hw : St w0 H w) (hp : pull i H = Option.some (Own T C A c xs, H')) (hA : A = none) : xs.length = 0 ∧ c = 0 := by
  obtain ⟨F, ho, hF⟩ := hw.get i hp
  subst hA
  rcases ho.2 with ⟨h1, h2⟩ | ⟨g, cap, cur, hvv, _⟩
  · injection h1 with h3 h4 h5
    exact ⟨h2, h5⟩
  · injection hvv with h3
    cases h3
theorem Ef.appendN {T e sz bytes c c2 m : Nat} {x y : Operand} {z : Value} {C : Cod α} {A A2 : Option Addr} {xs ys : List α} (i : Nat) (ho : o.op = .call { callee := .builtin .append, args := #[x, y], argTypes := #[T, T] }) (hT : P.underlying T = some (.slice e)) (hi : Inf P e sz bytes z) (hs : sz = C.sz) (hzc : z.cells.size = sz)
    (hx : ev σ x = some (.slice A xs.length c)) (hy : ev σ y = some (.slice A2 m c2)) (hp : pull i H = some (Own e C A c xs, H')) (hm : m = ys.length) (hA2 : ∀ w, St w0 H w → A2 = none → ys.length = 0 ∧ c2 = 0) (hr : ∀ w, St w0 H w → Rd C w A2 ys) (hb : (xs.length + ys.length) * bytes ≤ 140737488355328) (hbp : 0 < bytes) :
    Ef P w0 o σ H Q (fun v H'' => ∃ A' c', v = .slice A' (xs ++ ys).length c' ∧ H'' = repl i H (Own e C A' c' (xs ++ ys)) ∧ (A.isSome = true ∨ 0 < ys.length → A'.isSome = true)) := by
  cases A2 with
  | some q => exact Ef.append i ho hT hi hs hzc hx hy hp hm rfl hr hb hbp
  | none =>
    refine Ef.mk fun w hw a ha => ?_
    have h1 := ha x (by simp [ho, Op.operands, Call.operands]) _ hx
    have h2 := ha y (by simp [ho, Op.operands, Call.operands]) _ hy
    obtain ⟨h3, h4⟩ := hA2 w hw rfl
    subst hs
    subst hm
    subst h4
    have hys : ys = [] := List.length_eq_zero_iff.1 h3
    subst hys
    obtain ⟨i0, hi1, hi2, hi3, hi4⟩ := hi.parts
    obtain ⟨F, hown, hF⟩ := hw.get i hp
    have hrun := run_append_owned_none (P := P) (w := w) 0 T o.type e i0 C.sz hT hi1 _ xs.length (xs.flatMap C.enc) hown
    refine ⟨.slice A xs.length c, w, by simp only [List.length_nil] at h2; simp [execOp, ho, resolve, invoke, builtin, h1, h2, hrun], repl i H (Own e C A c (xs ++ [])), ?_, A, c, by rw [List.append_nil], rfl, fun h => by rcases h with h | h; (· exact h); (· simp at h)⟩
    rw [List.append_nil]
    exact (hw.perm (pull_perm hp)).perm (repl_perm hp)
end
def SrcK (T : TypeId) (cA : Option Addr) (cc : Nat) (code : List UInt8) (s : Nat) : Assn :=
  .exi fun q : Nat × Nat => .sep (.pur (q.1 ≤ code.length ∧ q.2 < 18446744073709551616)) (Blk s [.slice cA code.length cc, .int .i64 (q.1 : Int), .int .u64 (q.2 : Int)] T)
section
variable {P : Program} {N : Nat} {w0 w : World} {Q : Exit → Act → World → Prop} {σ : Sig} {H H' : List Assn} {T : TypeId} {cA : Option Addr} {cc s : Nat} {code : List UInt8}
theorem SrcK.elim (hw : St w0 (SrcK T cA cc code s :: H) w) : ∃ a h : Nat, (a ≤ code.length ∧ h < 18446744073709551616) ∧ St w0 (Blk s [.slice cA code.length cc, .int .i64 (a : Int), .int .u64 (h : Int)] T :: H) w := by
  obtain ⟨q, hw⟩ := hw.exi
  have h := hw.sep.pur
  exact ⟨q.1, q.2, h.1, h.2⟩
theorem SrcK.mk {a h : Nat} (hp : a ≤ code.length ∧ h < 18446744073709551616) (hw : St w0 (Blk s [.slice cA code.length cc, .int .i64 (a : Int), .int .u64 (h : Int)] T :: H) w) : St w0 (SrcK T cA cc code s :: H) w :=
  St.mkExi (a, h) (St.unsep (St.addPur hp hw))
theorem V.srcK {c : Code} (h : ∀ a h : Nat, a ≤ code.length → h < 18446744073709551616 → V P N w0 c Q σ (Blk s [.slice cA code.length cc, .int .i64 (a : Int), .int .u64 (h : Int)] T :: H)) : V P N w0 c Q σ (SrcK T cA cc code s :: H) := by
  intro w hw
  obtain ⟨a, h', h1, h2⟩ := SrcK.elim hw
  exact h a h' h1.1 h1.2 w h2
end
end Go.Vc

namespace Go.Vc
open Go
def DrS (n : Nat) (v : Int) (bs : List B3) : Prop := (3 ≤ v ∧ v ≤ 15) ∧ (∀ b ∈ bs, good v b) ∧ bs.length ≤ n
theorem DrS.mono {n m : Nat} {v : Int} {bs : List B3} (h : DrS n v bs) (hm : n ≤ m) : DrS m v bs := ⟨h.1, h.2.1, Nat.le_trans h.2.2 hm⟩
theorem DrS.perm {n : Nat} {v : Int} {bs cs : List B3} (h : DrS n v bs) (hp : cs.Perm bs) : DrS n v cs := ⟨h.1, fun b hb => h.2.1 b (hp.mem_iff.1 hb), by rw [hp.length_eq]; exact h.2.2⟩
theorem DrS.g15 {n : Nat} {v : Int} {bs : List B3} (h : DrS n v bs) : ∀ b ∈ bs, good 15 b := fun b hb => (h.2.1 b hb).mono h.1.2
def OrdP (n : Int) (p : List Int) : Prop := (p.length : Int) = n ∧ p.Nodup ∧ ∀ q ∈ p, 0 ≤ q ∧ q < n
theorem ord_nil : OrdP 0 [] := ⟨rfl, List.nodup_nil, fun q h => by simp at h⟩
theorem ord_ins {p : List Int} {k i : Nat} (h : OrdP (i : Int) p) : OrdP ((i + 1 : Nat) : Int) (p.take k ++ [(i : Int)] ++ p.drop k) := by
  have hp : (p.take k ++ [(i : Int)] ++ p.drop k).Perm ((i : Int) :: p) := by
    rw [List.append_assoc]
    have h1 : (p.take k ++ ([(i : Int)] ++ p.drop k)).Perm ((i : Int) :: (p.take k ++ p.drop k)) := List.perm_middle
    rwa [List.take_append_drop] at h1
  refine ⟨?_, ?_, fun q hq => ?_⟩
  · have h1 := h.1
    have h2 := hp.length_eq
    rw [List.length_cons] at h2
    omega
  · rw [hp.nodup_iff, List.nodup_cons]
    exact ⟨fun hm => by have := (h.2.2 _ hm).2; omega, h.2.1⟩
  · rcases List.mem_cons.1 (hp.mem_iff.1 hq) with rfl | hq
    · omega
    · have := h.2.2 q hq; omega
theorem good_bk3 {v a b c : Int} (ha : 0 ≤ a ∧ a < v) (hb : 0 ≤ b ∧ b < v) (hc : 0 ≤ c ∧ c < v) (h1 : a ≠ b) (h2 : a ≠ c) (h3 : b ≠ c) : good v (bk3 a b c) := by
  unfold good bk3 mi3 lo3 hi3
  simp only
  omega
theorem ord_ne {n : Int} {p : List Int} (h : OrdP n p) {i j : Nat} (hi : i < p.length) (hj : j < p.length) (hij : i ≠ j) : p[i] ≠ p[j] := fun e => hij ((List.getElem_inj h.2.1).1 e)
theorem ord_at {n : Int} {p : List Int} (h : OrdP n p) {i : Nat} (hi : i < p.length) : 0 ≤ p[i] ∧ p[i] < n := h.2.2 _ (List.getElem_mem hi)
theorem good_ren {v : Int} {p : List Int} (h : OrdP v p) {b : B3} (hb : good v b) : good v (renB p b) := by
  have hl := h.1
  unfold good at hb
  unfold renB
  rw [getD_at (by omega), getD_at (by omega), getD_at (by omega)]
  exact good_bk3 (ord_at h _) (ord_at h _) (ord_at h _) (ord_ne h _ _ (by omega)) (ord_ne h _ _ (by omega)) (ord_ne h _ _ (by omega))
theorem DrS.ren {n : Nat} {v : Int} {bs cs : List B3} {p : List Int} (h : DrS n v bs) (ho : OrdP v p) (hp : cs.Perm (bs.map (renB p))) : DrS n v cs := by
  refine ⟨h.1, fun b hb => ?_, by rw [hp.length_eq, List.length_map]; exact h.2.2⟩
  obtain ⟨d, hd, rfl⟩ := List.mem_map.1 (hp.mem_iff.1 hb)
  exact good_ren ho (h.2.1 d hd)
theorem third_good {v : Int} {bs : List B3} (hg : ∀ d ∈ bs, good v d) {a b : Int} (hab : a ≠ b) (h : ¬ third bs a b < 0) : (0 ≤ third bs a b ∧ third bs a b < v) ∧ third bs a b ≠ a ∧ third bs a b ≠ b := by
  unfold third at *
  split at h
  · exact absurd (by decide) h
  · rename_i hn
    rw [if_neg hn]
    unfold num at *
    obtain ⟨i, hi, q1, q2, _⟩ := idxP_at (p := fun c => has c a ∧ has c b) (xs := bs) (fun e => hn (by rw [e]; decide))
    rw [q1] at h ⊢
    rw [blk_get hi] at h ⊢
    have hgi := hg _ (List.getElem_mem hi)
    unfold good at hgi
    unfold has at q2
    omega
theorem DrS.cut {n : Nat} {v : Int} {bs cs : List B3} (h : DrS n v bs) {i : Nat} (hc : cs = bs.take i ++ bs.drop (i + 1)) : DrS n v cs := by
  subst hc
  refine ⟨h.1, fun b hb => ?_, ?_⟩
  · rcases List.mem_append.1 hb with hb | hb
    · exact h.2.1 b (List.mem_of_mem_take hb)
    · exact h.2.1 b (List.mem_of_mem_drop hb)
  · have := h.2.2
    rw [List.length_append, List.length_take, List.length_drop]
    omega
def nmL : List ByteArray := [ByteArray.mk #[115, 105, 110, 103, 108, 101], ByteArray.mk #[102, 97, 110, 111], ByteArray.mk #[97, 102, 102, 105, 110, 101], ByteArray.mk #[99, 121, 99, 108, 105, 99, 49, 51], ByteArray.mk #[99, 121, 99, 108, 105, 99, 49, 53], ByteArray.mk #[112, 114, 111, 106, 101, 99, 116, 105, 118, 101, 49, 53]]
theorem good_snoc {v : Int} {bs : List B3} (h : ∀ b ∈ bs, good v b) {d : B3} (hd : good v d) : ∀ b ∈ bs ++ [d], good v b := fun b hb => by
  rcases List.mem_append.1 hb with hb | hb
  · exact h b hb
  · rw [List.mem_singleton.1 hb]; exact hd
section
variable {P : Program} {w0 w : World} {H : List Assn} {σ : Sig} {o : Oper} {T T2 : TypeId} {x y : Operand} {m n : Nat}
theorem xor_lt {m n : Nat} (h : m < 9223372036854775808) (h' : n < 9223372036854775808) : m ^^^ n < 9223372036854775808 := Nat.xor_lt_two_pow (n := 63) h h'
theorem Pu.xor {k : IntKind} (hk : K64 k) (hm : m < 9223372036854775808) (hn : n < 9223372036854775808) (ho : o.op = .binOp .xor T x y T2) (hx : ev σ x = some (.int k (m : Int))) (hy : ev σ y = some (.int k (n : Int))) : Pu P w0 o σ H (.int k ((m ^^^ n : Nat) : Int)) :=
  Pu.bin ho hx hy fun w => by
    have h1 : (BitVec.ofInt k.bits (m : Int) ^^^ BitVec.ofInt k.bits (n : Int)).toNat = m ^^^ n := by
      rw [BitVec.toNat_xor, ofInt_nat (by rw [hk.bits]; omega), ofInt_nat (by rw [hk.bits]; omega)]
    simp only [Go.binOp, Op.intBits, h1, hk.wrap (xor_lt hm hn), ne_eq, not_true, if_false]
    rfl
end
end Go.Vc

namespace Go.Vc
open Go Go.RowKit Go.ChangeShapes Go.WideShapes
section
variable {H : Type} {enc : TypeId × Value → H} {P : Program} {w : World} {base : Nat} {spare : Nat → Bool} {held : Bool}
theorem open_bytes {t e : TypeId} {fuel : Nat} {cs : List Value} {x : DataW H × List MemPlace} (ht : P.underlying t = some (.slice e)) (he : P.underlying e = some (.int .u8)) (ce : P.cellsOf e = 1)
    (h : DataW.trod enc P w base spare held fuel t cs = some x) : ∃ (A : Option Addr) (c : Nat) (bs : List UInt8), cs = [.slice A bs.length c] ∧ bs.length ≤ 9223372036854775807 ∧ Rd U8C w A bs := by
  rcases Deep.open_slice ht h with ⟨rfl, _⟩ | ⟨a, len, cap, m, n, D, Pl, rfl, hb, hl, hm, hmm, _, hx⟩
  · exact ⟨none, 0, [], rfl, by simp, Rd.nil _ _ _⟩
  · have hlm : len ≤ m := by rw [hmm]; split <;> omega
    have each : ∀ i, i < len → ∃ b : UInt8, w.cells? base (a.add (i * U8C.sz)) U8C.sz = some (U8C.enc b) := by
      intro j hj
      obtain ⟨cs', h1, h2⟩ := hx j (by omega)
      obtain ⟨n, e0, _, hv⟩ := DataW.trod_int he h2
      subst e0
      simp [Lit.wf, IntKind.min, IntKind.max, IntKind.signed, IntKind.bits] at hv
      rw [ce] at h1
      refine ⟨UInt8.ofNat n.toNat, ?_⟩
      have e : ((UInt8.ofNat n.toNat).toNat : Int) = n := by
        rw [UInt8.toNat_ofNat']
        omega
      have e2 : U8C.enc (UInt8.ofNat n.toNat) = [.int .u8 n] := by
        show [Value.int .u8 ((UInt8.ofNat n.toNat).toNat : Int)] = _
        rw [e]
      rw [e2]
      exact h1
    obtain ⟨bs, hbl, hr⟩ := rd_of_cells each
    subst hbl
    simp only [maxLen] at hm
    exact ⟨some a, cap, bs, rfl, by omega, hr⟩
end
end Go.Vc

namespace Go.Vc
section
variable {v m a b k n : Nat}
end


section
variable {v : Int} {bs : List B3}
end
end Go.Vc

namespace Go.Vc
section
variable (p : B3 → Prop) [DecidablePred p]
end
section
variable {p q : B3 → Prop} [DecidablePred p] [DecidablePred q] {a b k v : Nat}
end

end Go.Vc

namespace Go.Vc



section
variable {ms : List Nat} {D k i j n : Nat} {now : List Int}

end
end Go.Vc

