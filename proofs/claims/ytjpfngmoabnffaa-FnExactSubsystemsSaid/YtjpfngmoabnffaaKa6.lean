/-
  The calculus and plain words, part 6.
-/
import Derived.Test.YtjpfngmoabnffaaKa5
set_option linter.unusedVariables false
set_option linter.unusedSimpArgs false
/-
  The calculus, part 23: pairs of numbers; the pairs of blocks.
-/
namespace Go.Vc
open Go Go.RowKit
def P2C : Cod (Int × Int) := ⟨2, fun p => [.int .i64 p.1, .int .i64 p.2], by decide, fun _ => rfl, fun _ u hu => by simp at hu; rcases hu with rfl | rfl <;> rfl⟩
def P2v (p : Int × Int) : Value := .agg #[.int .i64 p.1, .int .i64 p.2]
section
variable {P : Program} {w0 w : World} {H : List Assn} {σ : Sig} {o : Oper}
theorem run_eq2 {T E : TypeId} (hT : P.underlying T = some (.array 2 E)) (hE : P.underlying E = some (.int .i64)) (hs : Sz P E 1) (a b : Int × Int) (d : Nat) (w : World) : (Op.equalIn (d + 1 + 1) T (P2v a) (P2v b)).run P w = .ok (decide (a = b)) w := by
  obtain ⟨i, hi, hsz⟩ := Option.map_eq_some_iff.1 hs
  have hc : P.cellsOf E = 1 := by simp [Program.cellsOf, hi, hsz]
  unfold P2v
  rw [run_equalIn_array w (d + 1) _ _ hT hi, hc]
  have r : List.range 2 = [0, 1] := rfl
  have e0 : ∀ x y : Value, (part E #[x, y] 0).run P w = .ok x w := fun x y => run_part_int hE _ _ _ rfl
  have e1 : ∀ x y : Value, (part E #[x, y] 1).run P w = .ok y w := fun x y => run_part_int hE _ _ _ rfl
  have q : ∀ x y : Int, (Op.equalIn (d + 1) E (.int .i64 x) (.int .i64 y)).run P w = .ok (x == y) w := fun x y => run_equalIn_int w d E .i64 .i64 x y hE
  obtain ⟨a1, a2⟩ := a
  obtain ⟨b1, b2⟩ := b
  rw [r]
  simp only [Op.eqItems, Sem.run_bind, Nat.zero_mul, Nat.one_mul, e0, e1, q, Result.andThen_ok]
  by_cases h1 : a1 = b1
  · subst h1
    by_cases h2 : a2 = b2
    · subst h2; simp [e0, e1, q]
    · simp [h2, e0, e1, q]
  · simp [h1, e0, e1, q]
theorem guard2 {T : TypeId} {op : BinOp} {x y : Operand} {a b : Int × Int} (hg : P.eqGuardType P.depth T = false) : (eqGuard op T x y (P2v a) (P2v b)).run P w = .ok () w := by
  unfold P2v
  exact run_eqGuard_agg w op T x y _ _ hg
theorem Pu.eqlP2 {T T2 E : TypeId} {x y : Operand} {a b : Int × Int} (hT : P.underlying T = some (.array 2 E)) (hE : P.underlying E = some (.int .i64)) (hs : Sz P E 1) (hg : P.eqGuardType P.depth T = false) (ho : o.op = .binOp .eql T x y T2) (hx : ev σ x = some (P2v a)) (hy : ev σ y = some (P2v b)) : Pu P w0 o σ H (.bool (decide (a = b))) := by
  intro w hw ac ha
  have h1 := ha x (by simp [ho, Op.operands]) _ hx
  have h2 := ha y (by simp [ho, Op.operands]) _ hy
  have hb : (Go.binOp .eql T (P2v a) (P2v b)).run P w = .ok (.bool (decide (a = b))) w := by
    have := run_eq2 hT hE hs a b 9998 w
    unfold P2v at *
    rw [run_eql_struct, show (10000 : Nat) = 9998 + 1 + 1 from rfl, this]
    rfl
  simp only [execOp, ho, h1, h2, Sem.run_bind, guard2 hg, hb, Result.andThen_ok, Sem.run_pure]
theorem Pu.neqP2 {T T2 E : TypeId} {x y : Operand} {a b : Int × Int} (hT : P.underlying T = some (.array 2 E)) (hE : P.underlying E = some (.int .i64)) (hs : Sz P E 1) (hg : P.eqGuardType P.depth T = false) (ho : o.op = .binOp .neq T x y T2) (hx : ev σ x = some (P2v a)) (hy : ev σ y = some (P2v b)) : Pu P w0 o σ H (.bool (!decide (a = b))) := by
  intro w hw ac ha
  have h1 := ha x (by simp [ho, Op.operands]) _ hx
  have h2 := ha y (by simp [ho, Op.operands]) _ hy
  have hb : (Go.binOp .neq T (P2v a) (P2v b)).run P w = .ok (.bool (!decide (a = b))) w := by
    have := run_eq2 hT hE hs a b 9998 w
    unfold P2v at *
    rw [run_neq_struct, show (10000 : Nat) = 9998 + 1 + 1 from rfl, this]
    rfl
  simp only [execOp, ho, h1, h2, Sem.run_bind, guard2 hg, hb, Result.andThen_ok, Sem.run_pure]
end
/-! ### The pairs of blocks -/
def ltP (p q : Int × Int) : Prop := p.1 < q.1 ∨ (p.1 = q.1 ∧ p.2 < q.2)
instance (p q : Int × Int) : Decidable (ltP p q) := inferInstanceAs (Decidable (_ ∨ _))
def leP (p q : Int × Int) : Prop := ¬ ltP q p
theorem cmpL_p2 (p q : Int × Int) : cmpL [p.1, p.2] [q.1, q.2] < 0 ↔ ltP p q := by
  simp only [cmpL, ltP]
  (repeat' split) <;> omega
theorem swoP : Go.Sort.SWO (Go.Proofs.ltOf fun x y : Int × Int => cmpL [x.1, x.2] [y.1, y.2]) := by
  have e : ∀ x y : Int × Int, Go.Proofs.ltOf (fun x y : Int × Int => cmpL [x.1, x.2] [y.1, y.2]) x y = decide (ltP x y) := fun x y => by
    unfold Go.Proofs.ltOf
    exact decide_eq_decide.2 (cmpL_p2 x y)
  refine ⟨fun x => ?_, fun x y z h1 h2 => ?_, fun x y z h1 h2 => ?_⟩
  · rw [e]; exact decide_eq_false (by unfold ltP; omega)
  · rw [e] at *
    simp only [decide_eq_true_eq] at *
    unfold ltP at *
    omega
  · rw [e] at *
    simp only [decide_eq_false_iff_not] at *
    unfold ltP at *
    omega
def SrtP (l : List (Int × Int)) : Prop := l.Pairwise leP
theorem srtP_of {ys : List (Int × Int)} (h : ys.Pairwise fun x y => ¬ cmpL [y.1, y.2] [x.1, x.2] < 0) : SrtP ys := h.imp fun {a b} h => by
  unfold leP
  rwa [cmpL_p2] at h
theorem srtP_unique {a b : List (Int × Int)} (ha : SrtP a) (hb : SrtP b) (hp : a.Perm b) : a = b :=
  hp.eq_of_pairwise (fun x y _ _ h1 h2 => by
    obtain ⟨x1, x2⟩ := x
    obtain ⟨y1, y2⟩ := y
    unfold leP ltP at *
    simp only at *
    rw [Prod.mk.injEq]
    omega) ha hb
def prsB (bs : List B3) : List (Int × Int) := bs.flatMap fun b => [(b.1, b.2.1), (b.1, b.2.2), (b.2.1, b.2.2)]
theorem prsB_snoc (bs : List B3) (b : B3) : prsB (bs ++ [b]) = prsB bs ++ [(b.1, b.2.1), (b.1, b.2.2), (b.2.1, b.2.2)] := by simp [prsB]
theorem prsB_len (bs : List B3) : (prsB bs).length = 3 * bs.length := by
  unfold prsB
  induction bs with
  | nil => rfl
  | cons b bs ih => rw [List.flatMap_cons, List.length_append, ih]; simp; omega
theorem mem_prsB {bs : List B3} {p : Int × Int} : p ∈ prsB bs ↔ ∃ b ∈ bs, p = (b.1, b.2.1) ∨ p = (b.1, b.2.2) ∨ p = (b.2.1, b.2.2) := by
  unfold prsB
  simp [List.mem_flatMap]
section
variable {v : Nat} {bs cs : List B3}
theorem prsB_mem (h : STS (v : Int) bs) {x y : Nat} (hxy : x < y) : ((x : Int), (y : Int)) ∈ prsB bs ↔ ∃ d ∈ bs, has d x ∧ has d y := by
  rw [mem_prsB]
  constructor
  · rintro ⟨b, hb, h1⟩
    refine ⟨b, hb, ?_⟩
    unfold has
    rcases h1 with h1 | h1 | h1 <;> (simp only [Prod.mk.injEq] at h1; omega)
  · rintro ⟨b, hb, h1, h2⟩
    refine ⟨b, hb, ?_⟩
    have hg := h.good b hb
    unfold good at hg
    unfold has at h1 h2
    simp only [Prod.mk.injEq]
    omega
theorem prsB_in (h : STS (v : Int) bs) {p : Int × Int} (hp : p ∈ prsB bs) : ∃ x y : Nat, p = ((x : Int), (y : Int)) ∧ x < y ∧ y < v := by
  obtain ⟨b, hb, h1⟩ := mem_prsB.1 hp
  have hg := h.good b hb
  unfold good at hg
  refine ⟨p.1.toNat, p.2.toNat, ?_, ?_, ?_⟩
  all_goals rcases h1 with rfl | rfl | rfl
  all_goals first | (simp only [Prod.mk.injEq]; omega) | (simp only; omega)
theorem prsB_nodup (hv : v ≤ 15) (h : STS (v : Int) bs) : (prsB bs).Nodup := by
  have hr := sts_rest h
  unfold prsB
  unfold List.Nodup
  rw [List.flatMap_def, List.pairwise_flatten]
  constructor
  · intro l hl
    obtain ⟨b, hb, rfl⟩ := List.mem_map.1 hl
    have hg := h.good b hb
    unfold good at hg
    simp only [List.pairwise_cons, List.mem_cons, List.not_mem_nil, or_false, forall_eq_or_imp, forall_eq, ne_eq, Prod.mk.injEq, List.Pairwise.nil, and_true]
    refine ⟨⟨?_, ?_⟩, ?_, ?_⟩ <;> first | omega | (intro _ h; cases h)
  · rw [List.pairwise_map]
    refine List.Pairwise.imp_of_mem ?_ hr.fit
    intro a b ha hb hc
    have hga := h.good a ha
    have hgb := h.good b hb
    rw [common_le hga.three] at hc
    unfold good at hga hgb
    unfold has at hc
    intro p h1 q h2 e
    subst e
    simp only [List.mem_cons, List.not_mem_nil, or_false] at h1 h2
    rcases h1 with rfl | rfl | rfl <;> simp only [Prod.mk.injEq] at h2 <;> omega
/-- The same pairs. -/
theorem same_pairs (hv : v ≤ 15) (h : STS (v : Int) bs) (g : STS (v : Int) cs) : (prsB bs).Perm (prsB cs) ↔ ∀ x y : Nat, x < y → y < v → usd (maskB 0 bs) x y = usd (maskB 0 cs) x y := by
  rw [List.perm_ext_iff_of_nodup (prsB_nodup hv h) (prsB_nodup hv g)]
  have hu : ∀ {ds : List B3}, STS (v : Int) ds → ∀ x y : Nat, x < y → y < v → (usd (maskB 0 ds) x y = true ↔ ((x : Int), (y : Int)) ∈ prsB ds) := fun hd x y h1 h2 => by
    rw [usd_mask _ 0 hv (sts_rest hd).ok x y h1 h2, prsB_mem hd h1, usd_zero]
    simp
  constructor
  · intro hm x y h1 h2
    have e := hm ((x : Int), (y : Int))
    rw [← hu h x y h1 h2, ← hu g x y h1 h2] at e
    cases ha : usd (maskB 0 bs) x y <;> cases hb : usd (maskB 0 cs) x y <;> simp_all
  · intro hm p
    constructor
    · intro hp
      obtain ⟨x, y, rfl, h1, h2⟩ := prsB_in h hp
      rw [← hu g x y h1 h2, ← hm x y h1 h2, hu h x y h1 h2]
      exact hp
    · intro hp
      obtain ⟨x, y, rfl, h1, h2⟩ := prsB_in g hp
      rw [← hu h x y h1 h2, hm x y h1 h2, hu g x y h1 h2]
      exact hp
end
end Go.Vc
namespace Go.Vc
/-- Which numbers of pairs are in some blocks. -/
def usedK (n : Nat) (bs : List B3) : List Bool := (List.range n).map fun k => decide (∃ p ∈ prsB bs, prI p.1.toNat p.2.toNat = k)
theorem usedK_len (n : Nat) (bs : List B3) : (usedK n bs).length = n := by simp [usedK]
theorem usedK_nil (n : Nat) : usedK n [] = List.replicate n false := by
  apply List.ext_getElem
  · simp [usedK]
  · intro k h1 h2
    simp [usedK, prsB]
theorem usedK_snoc (n : Nat) (bs : List B3) (b : B3) : usedK n (bs ++ [b]) = (((usedK n bs).set (prI b.1.toNat b.2.1.toNat) true).set (prI b.1.toNat b.2.2.toNat) true).set (prI b.2.1.toNat b.2.2.toNat) true := by
  apply List.ext_getElem
  · simp [usedK]
  · intro k h1 h2
    simp only [List.getElem_set]
    simp only [usedK, List.getElem_map, List.getElem_range]
    have key : (∃ p ∈ prsB (bs ++ [b]), prI p.1.toNat p.2.toNat = k) ↔ (prI b.2.1.toNat b.2.2.toNat = k ∨ prI b.1.toNat b.2.2.toNat = k ∨ prI b.1.toNat b.2.1.toNat = k ∨ ∃ p ∈ prsB bs, prI p.1.toNat p.2.toNat = k) := by
      rw [prsB_snoc]
      simp only [List.mem_append, List.mem_cons, List.not_mem_nil, or_false]
      constructor
      · rintro ⟨p, h | rfl | rfl | rfl, e⟩
        · exact .inr (.inr (.inr ⟨p, h, e⟩))
        · exact .inr (.inr (.inl e))
        · exact .inr (.inl e)
        · exact .inl e
      · rintro (e | e | e | ⟨p, h, e⟩)
        · exact ⟨_, .inr (.inr (.inr rfl)), e⟩
        · exact ⟨_, .inr (.inr (.inl rfl)), e⟩
        · exact ⟨_, .inr (.inl rfl), e⟩
        · exact ⟨p, .inl h, e⟩
    by_cases e1 : prI b.2.1.toNat b.2.2.toNat = k
    · rw [if_pos e1]; exact decide_eq_true (key.2 (.inl e1))
    · rw [if_neg e1]
      by_cases e2 : prI b.1.toNat b.2.2.toNat = k
      · rw [if_pos e2]; exact decide_eq_true (key.2 (.inr (.inl e2)))
      · rw [if_neg e2]
        by_cases e3 : prI b.1.toNat b.2.1.toNat = k
        · rw [if_pos e3]; exact decide_eq_true (key.2 (.inr (.inr (.inl e3))))
        · rw [if_neg e3]
          refine decide_eq_decide.2 (key.trans ⟨fun h => ?_, fun h => .inr (.inr (.inr h))⟩)
          rcases h with h | h | h | h
          · exact absurd h e1
          · exact absurd h e2
          · exact absurd h e3
          · exact h
def usedL (bs : List B3) : List Bool := usedK 256 bs
theorem usedL_len (bs : List B3) : (usedL bs).length = 256 := usedK_len 256 bs
theorem usedL_nil : usedL [] = List.replicate 256 false := usedK_nil 256
theorem usedL_snoc (bs : List B3) (b : B3) : usedL (bs ++ [b]) = (((usedL bs).set (prI b.1.toNat b.2.1.toNat) true).set (prI b.1.toNat b.2.2.toNat) true).set (prI b.2.1.toNat b.2.2.toNat) true := usedK_snoc 256 bs b
theorem usedK_at {n : Nat} {bs : List B3} {k : Nat} (hk : k < n) : (usedK n bs)[k]? = some true ↔ ∃ p ∈ prsB bs, prI p.1.toNat p.2.toNat = k := by
  simp only [usedK, List.getElem?_map, List.getElem?_range hk, Option.map_some, Option.some.injEq, decide_eq_true_eq]
theorem usedK_congr {n : Nat} {bs cs : List B3} (h : ∀ p, p ∈ prsB bs ↔ p ∈ prsB cs) : usedK n bs = usedK n cs := by
  unfold usedK
  apply List.map_congr_left
  intro k _
  exact decide_eq_decide.2 ⟨fun ⟨p, hp, e⟩ => ⟨p, (h p).1 hp, e⟩, fun ⟨p, hp, e⟩ => ⟨p, (h p).2 hp, e⟩⟩
theorem usedL_iff {v : Nat} {bs cs : List B3} (hv : v ≤ 15) (h : STS (v : Int) bs) (g : STS (v : Int) cs) : usedL bs = usedL cs ↔ (prsB bs).Perm (prsB cs) := by
  rw [List.perm_ext_iff_of_nodup (prsB_nodup hv h) (prsB_nodup hv g)]
  have at_ : ∀ (ds : List B3), STS (v : Int) ds → ∀ x y : Nat, x < y → y < v → (((x : Int), (y : Int)) ∈ prsB ds ↔ (usedL ds)[prI x y]? = some true) := by
    intro ds hd x y hx hy
    have hl : prI x y < 256 := prI_lt (by omega) (by omega)
    rw [show usedL ds = usedK 256 ds from rfl, usedK_at hl]
    constructor
    · intro hp; exact ⟨_, hp, by simp⟩
    · rintro ⟨p, hp, e⟩
      obtain ⟨a, b, rfl, hab, hb⟩ := prsB_in hd hp
      simp only [Int.toNat_natCast] at e
      rcases prI_inj (by omega) (by omega) (by omega) (by omega) e with ⟨rfl, rfl⟩ | ⟨rfl, rfl⟩
      · exact hp
      · omega
  constructor
  · intro e p
    constructor
    · intro hp
      obtain ⟨x, y, rfl, hx, hy⟩ := prsB_in h hp
      rw [at_ cs g x y hx hy, ← e, ← at_ bs h x y hx hy]
      exact hp
    · intro hp
      obtain ⟨x, y, rfl, hx, hy⟩ := prsB_in g hp
      rw [at_ bs h x y hx hy, e, ← at_ cs g x y hx hy]
      exact hp
  · intro hm
    exact usedK_congr hm
/-- A trade. -/
def TRD (v : Int) (os ns : List B3) : Prop := STS v os ∧ STS v ns ∧ (∀ b ∈ os, b ∉ ns) ∧ (prsB os).Perm (prsB ns)
noncomputable instance (v : Int) (os ns : List B3) : Decidable (TRD v os ns) := Classical.propDecidable _
/-- The first n numbers that are points of blocks. -/
def ptsB (os : List B3) (n : Nat) : List Int := ((List.range n).filter fun p : Nat => decide (∃ b ∈ os, has b (p : Int))).map fun p : Nat => (p : Int)
theorem ptsB_yes {os : List B3} {n : Nat} (h : ∃ b ∈ os, has b (n : Int)) : ptsB os (n + 1) = ptsB os n ++ [(n : Int)] := by
  unfold ptsB
  rw [List.range_succ, List.filter_append, List.map_append]
  simp only [List.filter_cons, List.filter_nil, decide_eq_true h, if_true, List.map_cons, List.map_nil]
theorem ptsB_no {os : List B3} {n : Nat} (h : ¬ ∃ b ∈ os, has b (n : Int)) : ptsB os (n + 1) = ptsB os n := by
  unfold ptsB
  rw [List.range_succ, List.filter_append, List.map_append]
  simp only [List.filter_cons, List.filter_nil, decide_eq_false h]
  simp
theorem ptsB_len {os : List B3} {n : Nat} : (ptsB os n).length ≤ n := by
  unfold ptsB
  rw [List.length_map]
  exact Nat.le_trans (List.length_filter_le _ _) (by simp)
/-- What both PointsOfTrade return. -/
def PTR (v : Int) (os ns : List B3) (o : List Int) : Prop := (TRD v os ns → o = ptsB os v.toNat) ∧ (¬ TRD v os ns → o = [])
theorem PTR.unique {v : Int} {os ns : List B3} {a b : List Int} (h : PTR v os ns a) (g : PTR v os ns b) : a = b := by
  by_cases ht : TRD v os ns
  · rw [h.1 ht, g.1 ht]
  · rw [h.2 ht, g.2 ht]
theorem PTR.len {v : Int} {os ns : List B3} {a : List Int} (h : PTR v os ns a) : a.length ≤ 15 := by
  by_cases ht : TRD v os ns
  · rw [h.1 ht]
    have := ptsB_len (os := os) (n := v.toNat)
    have := ht.1.hi
    omega
  · rw [h.2 ht]; simp
end Go.Vc
/-
  The calculus, part 25: lists of lists in order; each once.
-/
namespace Go.Vc
open Go Go.RowKit
open Go.Proofs (ltOf)
open Go.Sort (SWO)
section
variable {P : Program} {w0 w : World} {H : List Assn} {T T2 c : Nat} {A : Option Addr} {ps : List (Sl × List Int)}
def RowC : Cod (Sl × List Int) := ⟨1, fun p => SlC.enc p.1, by decide, fun p => SlC.len p.1, fun p u hu => SlC.one p.1 u hu⟩
theorem own_tops : Own T SlC A c (tops ps) = Own T RowC A c ps := by
  have h1 : (tops ps).length = ps.length := tops_len ps
  have h2 : (tops ps).flatMap SlC.enc = ps.flatMap RowC.enc := by unfold tops; rw [List.flatMap_map]; rfl
  unfold Own
  simp only [h1, h2]
  rfl
/-- slices.SortFunc at lists of numbers. -/
theorem sortRows_does {ρ : Go.Shelf.Ren} (L : Go.Proofs.SlLaysF.n6 P ρ) (cf : List Int → List Int → Int) (hO : SWO (ltOf cf)) {f : Nat} {cb : Array Value} (hok : CallOk P f)
    (hcmp : ∀ W (x y : Sl × List Int), x ∈ ps → y ∈ ps → St w0 (RowsA T2 I64 ps :: H) W → Rd I64 W x.1.A x.2 → Rd I64 W y.1.A y.2 → x.2.length ≤ 9223372036854775807 → y.2.length ≤ 9223372036854775807 → Does P f ([.slice x.1.A x.2.length x.1.c, .slice y.1.A y.2.length y.1.c] ++ cb.toList) W [] (fun v => [.pur (v = .int .i64 (cf x.2 y.2))])) (hlen : ps.length < 4611686018427387904) :
    Does P (ρ.f 6) [.slice A (tops ps).length c, .func (.func f) #[] cb] w0 (Own T SlC A c (tops ps) :: RowsA T2 I64 ps :: H) (fun v => [.exi fun qs : List (Sl × List Int) => .sep (.pur (v = .tuple #[] ∧ qs.Perm ps ∧ (conts qs).Pairwise fun x y => ¬ cf y x < 0)) (.sep (Own T SlC A c (tops qs)) (RowsA T2 I64 qs))] ++ H) := by
  rw [own_tops, tops_len]
  have hO' : SWO (ltOf fun x y : {x // x ∈ ps} => cf x.1.2 y.1.2) := by
    obtain ⟨h1, h2, h3⟩ := hO
    exact ⟨fun x => h1 _, fun x y z => h2 _ _ _, fun x y z => h3 _ _ _⟩
  have h := sort1_does (C := RowC) (T := T) (A := A) (c := c) (w0 := w0) (H := RowsA T2 I64 ps :: H) (xs := ps) (enc := fun p : Sl × List Int => .slice p.1.A p.1.n p.1.c) L (fun x => rfl) rfl (fun x => rfl) (fun x => x ∈ ps) (fun x hx => hx) (fun x y => cf x.1.2 y.1.2) hO' hok (cb := cb) (fun zs W hz hw x y => by
    have k1 := RowsA.rd (i := 1) hw rfl x.2
    have k2 := RowsA.rd (i := 1) hw rfl y.2
    have hw2 := hw.sub (Sub.drop (Sub.refl _))
    have := hcmp W x.1 y.1 x.2 y.2 hw2 k1.2 k2.2 k1.1.2 k2.1.2
    rw [← k1.1.1, ← k2.1.1] at this
    exact this) hlen
  refine h.mono fun v w hs => ?_
  obtain ⟨ys, hs⟩ := St.exi hs
  have hs := hs.sep
  obtain ⟨⟨h1, h2, h3⟩, hs⟩ := hs.pur
  refine St.mkExi ys (St.unsep (St.addPur ⟨h1, h2, ?_⟩ (St.unsep ?_)))
  · unfold conts
    rw [List.pairwise_map]
    refine List.Pairwise.imp_of_mem ?_ h3
    intro a b ha hb hab
    exact hab (h2.mem_iff.1 ha) (h2.mem_iff.1 hb)
  · rw [own_tops]
    have := hs.perm (List.Perm.swap _ _ _)
    have := RowsA.perm h2.symm this
    exact this.perm (List.Perm.swap _ _ _)
end
instance decLtL (x y : List Int) : Decidable (ltL x y) := inferInstanceAs (Decidable (cmpL x y < 0))
theorem swoL : SWO (ltOf cmpL) := by
  have e : ∀ x y : List Int, ltOf cmpL x y = decide (ltL x y) := fun x y => rfl
  refine ⟨fun x => ?_, fun x y z h1 h2 => ?_, fun x y z h1 h2 => ?_⟩
  · rw [e]; exact decide_eq_false (ltL_irrefl x)
  · rw [e] at *
    simp only [decide_eq_true_eq] at *
    exact ltL_trans h1 h2
  · rw [e] at *
    simp only [decide_eq_false_iff_not] at *
    intro h3
    by_cases h4 : ltL y x
    · exact h2 (ltL_trans h4 h3)
    · have := ltL_tri h1 h4
      subst this
      exact h2 h3
/-! ### Each once -/
abbrev SL := Sl × List Int
def d0 : SL := (⟨none, 0, 0⟩, [])
def keepA (l : List SL) (j : Nat) : Prop := j = 0 ∨ (l.getD j d0).2 ≠ (l.getD (j - 1) d0).2
instance (l : List SL) (j : Nat) : Decidable (keepA l j) := inferInstanceAs (Decidable (_ ∨ _))
def kpt (l : List SL) (i : Nat) : List SL := ((List.range i).filter fun j => decide (keepA l j)).map fun j => l.getD j d0
section
variable {l : List SL} {i j k : Nat}
theorem kpt_yes (hi : i < l.length) (h : keepA l i) : kpt l (i + 1) = kpt l i ++ [l[i]] := by
  unfold kpt
  rw [List.range_succ, List.filter_append, List.map_append]
  simp [decide_eq_true h, List.getD, hi]
theorem kpt_no (h : ¬ keepA l i) : kpt l (i + 1) = kpt l i := by
  unfold kpt
  rw [List.range_succ, List.filter_append, List.map_append]
  simp [decide_eq_false h]
theorem kpt_le : (kpt l i).length ≤ i := by
  unfold kpt
  rw [List.length_map]
  exact Nat.le_trans (List.length_filter_le _ _) (by simp)
theorem kpt_all (h : ∀ j, j < i → keepA l j) (hi : i ≤ l.length) : kpt l i = l.take i := by
  induction i with
  | zero => simp [kpt]
  | succ i ih => rw [kpt_yes (by omega) (h i (by omega)), ih (fun j hj => h j (by omega)) (by omega), take_snoc (by omega)]
theorem kpt_sub (hi : i ≤ l.length) : (kpt l i).Sublist l := by
  have : ∀ i, i ≤ l.length → (kpt l i).Sublist (l.take i) := by
    intro i
    induction i with
    | zero => intro _; simp [kpt]
    | succ i ih =>
      intro hi
      rw [take_snoc (by omega)]
      by_cases h : keepA l i
      · rw [kpt_yes (by omega) h]; exact (ih (by omega)).append_right _
      · rw [kpt_no h]; exact (ih (by omega)).trans (List.sublist_append_left _ _)
  exact (this i hi).trans (List.take_sublist _ _)
/-- What the row holds while its elements are moved. -/
def mvt (l : List SL) (i : Nat) : List Sl := tops (kpt l i) ++ (tops l).drop (kpt l i).length
theorem mvt_len (hi : i ≤ l.length) : (mvt l i).length = l.length := by
  have := kpt_le (l := l) (i := i)
  unfold mvt
  rw [List.length_append, List.length_drop, tops_len, tops_len]
  omega
theorem mvt_get (hi : i ≤ l.length) (hk : (kpt l i).length ≤ k) (hkl : k < l.length) (h2 : k < (mvt l i).length) : (mvt l i)[k] = (l[k]).1 := by
  apply Option.some.inj
  rw [← List.getElem?_eq_getElem h2]
  unfold mvt
  rw [List.getElem?_append_right (by rw [tops_len]; exact hk), List.getElem?_drop, tops_len, show (kpt l i).length + (k - (kpt l i).length) = k by omega]
  unfold tops
  rw [List.getElem?_map, List.getElem?_eq_getElem hkl]
  rfl
theorem mvt_yes (hi : i < l.length) (h : keepA l i) : (mvt l i).set (kpt l i).length (l[i]).1 = mvt l (i + 1) := by
  have h1 := kpt_le (l := l) (i := i)
  have hl : (tops (kpt l i)).length = (kpt l i).length := tops_len _
  unfold mvt
  rw [kpt_yes hi h, List.set_append_right _ _ (by omega), hl, Nat.sub_self, List.length_append, List.length_singleton, drop_cons (show (kpt l i).length < (tops l).length by rw [tops_len]; omega), List.set_cons_zero]
  unfold tops
  simp
theorem mvt_no (h : ¬ keepA l i) : mvt l i = mvt l (i + 1) := by
  unfold mvt
  rw [kpt_no h]
theorem mvt_start (h : ∀ j, j < i → keepA l j) (hi : i ≤ l.length) : mvt l i = tops l ∧ (kpt l i).length = i := by
  have e := kpt_all h hi
  have h2 : (kpt l i).length = i := by rw [e, List.length_take]; omega
  refine ⟨?_, h2⟩
  unfold mvt
  rw [h2, e]
  unfold tops
  rw [← List.map_drop, ← List.map_append, List.take_append_drop]
theorem mvt_take : (mvt l i).take (kpt l i).length = tops (kpt l i) := by
  unfold mvt
  rw [List.take_append_of_le_length (by rw [tops_len]; exact Nat.le_refl _), List.take_of_length_le (by rw [tops_len]; exact Nat.le_refl _)]
theorem keepA_at {j : Nat} (hj : 0 < j) (h : j < l.length) : keepA l j ↔ (l[j]).2 ≠ (l[j - 1]).2 := by
  unfold keepA
  have q1 : l.getD j d0 = l[j] := by simp [List.getD, h]
  have q2 : l.getD (j - 1) d0 = l[j - 1] := by simp [List.getD, show j - 1 < l.length by omega]
  rw [q1, q2]
  exact ⟨fun h => h.elim (fun e => by omega) id, .inr⟩
theorem sl_of {s : Sl} {n : Nat} (h : s.n = n) : (⟨s.A, n, s.c⟩ : Sl) = s := by subst h; rfl
theorem mvt_v {k0 k2 K : Nat} (hn : LenOk l) (hi : i ≤ l.length) (hK : K = k0 + k2) (hk : (kpt l i).length ≤ K) (hkl : K < l.length) (h2 : k2 < ((mvt l i).drop k0).length) : (((mvt l i).drop k0)[k2]).v = .slice (l[K]).1.A (l[K]).2.length (l[K]).1.c := by
  subst hK
  rw [List.getElem_drop, mvt_get hi hk hkl]
  unfold Sl.v
  rw [(hn _ (List.getElem_mem hkl)).1]
/-- A list in order, each once. -/
theorem kpt_srt (hs : (conts l).Pairwise fun x y => ¬ ltL y x) : ∀ i, i ≤ l.length → SrtL (conts (kpt l i)) ∧ ∀ r, r ∈ conts (kpt l i) ↔ r ∈ (conts l).take i := by
  have hle : ∀ j k (hj : j < l.length) (hk : k < l.length), j ≤ k → ¬ ltL (l[k]).2 (l[j]).2 := fun j k hj hk hjk => by
    by_cases e : j = k
    · subst e; exact ltL_irrefl _
    · have := List.pairwise_iff_getElem.1 hs j k (by rw [conts_len]; omega) (by rw [conts_len]; omega) (by omega)
      simpa [conts] using this
  intro i
  induction i with
  | zero => intro _; exact ⟨by simp [kpt, conts, SrtL], fun r => by simp [kpt, conts]⟩
  | succ i ih =>
    intro hi
    obtain ⟨h1, h2⟩ := ih (by omega)
    have hc : (conts l)[i]'(by rw [conts_len]; omega) = (l[i]).2 := by simp [conts]
    by_cases h : keepA l i
    · rw [kpt_yes (by omega) h]
      have e : conts (kpt l i ++ [l[i]]) = conts (kpt l i) ++ [(l[i]).2] := by simp [conts]
      rw [e]
      constructor
      · unfold SrtL
        rw [List.pairwise_append]
        refine ⟨h1, List.pairwise_singleton _ _, fun x hx y hy => ?_⟩
        rw [List.mem_singleton] at hy
        subst hy
        obtain ⟨j, hj, rfl⟩ := List.mem_iff_getElem.1 ((h2 x).1 hx)
        rw [List.length_take, conts_len] at hj
        have hjl : j < l.length := by omega
        have ex : ((conts l).take i)[j]'(by rw [List.length_take, conts_len]; omega) = (l[j]).2 := by simp [conts]
        rw [ex]
        have g1 := hle j i hjl (by omega) (by omega)
        have g2 := hle j (i - 1) hjl (by omega) (by omega)
        have g3 := hle (i - 1) i (by omega) (by omega) (by omega)
        apply Classical.byContradiction
        intro g4
        have e1 := ltL_tri g4 g1
        rcases h with h | h
        · omega
        · have q1 : l.getD i d0 = l[i] := by simp [List.getD, show i < l.length by omega]
          have q2 : l.getD (i - 1) d0 = l[i - 1] := by simp [List.getD, show i - 1 < l.length by omega]
          rw [q1, q2] at h
          rw [e1] at g2
          exact h (ltL_tri g3 g2)
      · intro r
        rw [List.mem_append, h2, take_snoc (by rw [conts_len]; omega), List.mem_append, hc]
    · rw [kpt_no h]
      refine ⟨h1, fun r => ?_⟩
      rw [h2, take_snoc (by rw [conts_len]; omega), List.mem_append, hc, List.mem_singleton]
      refine ⟨.inl, fun h3 => h3.elim id fun e => ?_⟩
      subst e
      unfold keepA at h
      have h0 : i ≠ 0 := fun e => h (.inl e)
      have h5 : (l.getD i d0).2 = (l.getD (i - 1) d0).2 := Decidable.byContradiction fun e => h (.inr e)
      have q1 : l.getD i d0 = l[i] := by simp [List.getD, show i < l.length by omega]
      have q2 : l.getD (i - 1) d0 = l[i - 1] := by simp [List.getD, show i - 1 < l.length by omega]
      rw [q1, q2] at h5
      rw [h5]
      refine List.mem_iff_getElem.2 ⟨i - 1, by rw [List.length_take, conts_len]; omega, by simp [conts]⟩
theorem kpt_final (hs : (conts l).Pairwise fun x y => ¬ ltL y x) : SrtL (conts (kpt l l.length)) ∧ ∀ r, r ∈ conts (kpt l l.length) ↔ r ∈ conts l := by
  have h := kpt_srt hs l.length (Nat.le_refl _)
  rwa [List.take_of_length_le (by rw [conts_len]; exact Nat.le_refl _)] at h
end
end Go.Vc
/-
  Plain words: subsystems: sets with a block for each pair; told by the number of their blocks.
-/
namespace Go.Vc
theorem sub_full {α : Type} [DecidableEq α] : ∀ (l1 l2 : List α), l1.Nodup → (∀ x ∈ l1, x ∈ l2) → l2.length ≤ l1.length → ∀ x ∈ l2, x ∈ l1
  | [], l2, _, _, hl, x, hx => by
    have : l2 = [] := List.eq_nil_of_length_eq_zero (by simpa using hl)
    subst this
    exact hx
  | a :: l1, l2, hn, hs, hl, x, hx => by
    obtain ⟨h1, h2⟩ := List.nodup_cons.1 hn
    have ha := hs a (by simp)
    have he := List.length_erase_of_mem ha
    have hp := List.length_pos_of_mem ha
    by_cases e : x = a
    · subst e; simp
    · refine List.mem_cons_of_mem _ (sub_full l1 (l2.erase a) h2 (fun y hy => ?_) (by simp at hl; omega) x ((List.mem_erase_of_ne e).2 hx))
      exact (List.mem_erase_of_ne (fun e => by subst e; exact h1 hy)).2 (hs y (by simp [hy]))
/-! ### Pairs of a list -/
def prs2 : List Int → List (Int × Int)
  | [] => []
  | x :: l => l.map (fun y => (x, y)) ++ prs2 l
theorem prs2_len : ∀ l, 2 * (prs2 l).length = l.length * (l.length - 1)
  | [] => rfl
  | x :: l => by
    have ih := prs2_len l
    rw [prs2, List.length_append, List.length_map, List.length_cons, Nat.add_sub_cancel, Nat.mul_add, ih]
    generalize l.length = k
    cases k with
    | zero => rfl
    | succ m => rw [Nat.add_sub_cancel]; simp only [Nat.add_mul, Nat.mul_add]; omega
theorem prs2_mem : ∀ {l : List Int}, l.Pairwise (· < ·) → ∀ {p : Int × Int}, p ∈ prs2 l ↔ p.1 < p.2 ∧ p.1 ∈ l ∧ p.2 ∈ l
  | [], _, p => by simp [prs2]
  | x :: l, h, p => by
    obtain ⟨h1, h2⟩ := List.pairwise_cons.1 h
    obtain ⟨a, b⟩ := p
    rw [prs2, List.mem_append, List.mem_map, prs2_mem h2]
    simp only [List.mem_cons, Prod.mk.injEq]
    constructor
    · rintro (⟨y, hy, rfl, rfl⟩ | ⟨k1, k2, k3⟩)
      · exact ⟨h1 _ hy, .inl rfl, .inr hy⟩
      · exact ⟨k1, .inr k2, .inr k3⟩
    · rintro ⟨k1, k2, k3⟩
      rcases k2 with rfl | k2
      · rcases k3 with rfl | k3
        · omega
        · exact .inl ⟨b, k3, rfl, rfl⟩
      · rcases k3 with rfl | k3
        · have := h1 _ k2; omega
        · exact .inr ⟨k1, k2, k3⟩
theorem prs2_nodup : ∀ {l : List Int}, l.Pairwise (· < ·) → (prs2 l).Nodup
  | [], _ => List.nodup_nil
  | x :: l, h => by
    obtain ⟨h1, h2⟩ := List.pairwise_cons.1 h
    have hn : l.Nodup := h2.imp fun h => by omega
    rw [prs2, List.nodup_append]
    refine ⟨?_, prs2_nodup h2, fun p hp q hq e => ?_⟩
    · unfold List.Nodup
      rw [List.pairwise_map]
      exact hn.imp fun h e => h (by simpa using e)
    · subst e
      obtain ⟨y, hy, rfl⟩ := List.mem_map.1 hp
      have := (prs2_mem h2).1 hq
      have := h1 _ this.2.1
      simp at this
theorem prsB_sub {l m : List B3} (h : l.Sublist m) : (prsB l).Sublist (prsB m) := by
  unfold prsB
  induction h with
  | slnil => exact List.Sublist.refl _
  | cons a _ ih => rw [List.flatMap_cons]; exact ih.trans (List.sublist_append_right _ _)
  | cons_cons a _ ih => rw [List.flatMap_cons, List.flatMap_cons]; exact ih.append_left _
theorem prsI_mem {v : Int} {I : List B3} (hg : ∀ d ∈ I, good v d) {x y : Int} (hxy : x < y) : (x, y) ∈ prsB I ↔ ∃ d ∈ I, has d x ∧ has d y := by
  rw [mem_prsB]
  constructor
  · rintro ⟨b, hb, h1⟩
    refine ⟨b, hb, ?_⟩
    unfold has
    rcases h1 with h1 | h1 | h1 <;> (simp only [Prod.mk.injEq] at h1; omega)
  · rintro ⟨b, hb, h1, h2⟩
    refine ⟨b, hb, ?_⟩
    have hg := hg b hb
    unfold good at hg
    unfold has at h1 h2
    simp only [Prod.mk.injEq]
    omega
section
variable {v : Int} {bs : List B3} {s : Nat}
theorem two_mem (h : STS v bs) {d e : B3} (hd : d ∈ bs) (he : e ∈ bs) {x y : Int} (hxy : x ≠ y) (h1 : has d x) (h2 : has d y) (h3 : has e x) (h4 : has e y) : d = e := by
  obtain ⟨i, hi, rfl⟩ := List.mem_iff_getElem.1 hd
  obtain ⟨j, hj, rfl⟩ := List.mem_iff_getElem.1 he
  have := h.two hi hj hxy h1 h2 h3 h4
  subst this
  rfl
theorem tabPut_val {G : Int → Int → Int} {b : B3} (hb : three b) {x y : Int} : tabPut G b x y = if has b x ∧ has b y ∧ x ≠ y then b.1 + b.2.1 + b.2.2 - x - y else G x y := by
  obtain ⟨p, q, r⟩ := b
  unfold tabPut gset has
  unfold three at hb
  simp only at *
  (repeat' split) <;> first | rfl | omega
/-- The table's third point. -/
theorem tab_tri (h : STS v bs) {d : B3} (hd : d ∈ bs) {x y z : Int} (t : Tri d x y z) : tab bs x y = z := by
  have key : ∀ (l : List B3) (G : Int → Int → Int), (∀ b ∈ l, three b) → (∀ b ∈ l, has b x → has b y → b = d) → (d ∈ l ∨ G x y = z) → l.foldl tabPut G x y = z := by
    intro l
    induction l with
    | nil => intro G _ _ hz; exact hz.elim (fun h => by simp at h) id
    | cons b l ih =>
      intro G hb hu hz
      rw [List.foldl_cons]
      refine ih _ (fun c hc => hb c (by simp [hc])) (fun c hc => hu c (by simp [hc])) ?_
      by_cases hdl : d ∈ l
      · exact .inl hdl
      · right
        by_cases e : has b x ∧ has b y
        · have eb := hu b (by simp) e.1 e.2
          rw [tabPut_val (hb b (by simp)), if_pos ⟨e.1, e.2, t.1⟩, eb, tri_sum (h.good d hd) t]
          omega
        · have hG : G x y = z := by
            rcases hz with hz | hz
            · rw [List.mem_cons] at hz
              rcases hz with rfl | hz
              · exact absurd ⟨t.h1, t.h2⟩ e
              · exact absurd hz hdl
            · exact hz
          rw [← hG, tabPut_val (hb b (by simp)), if_neg (fun q => e ⟨q.1, q.2.1⟩)]
  refine key bs _ (fun b hb => (h.good b hb).three) (fun b hb h1 h2 => two_mem h hb hd t.1 h1 h2 t.h1 t.h2) (.inl hd)
def SubQ (bs : List B3) (s : Nat) : Prop := ∀ x y : Int, x ∈ pts s → y ∈ pts s → x ≠ y → ∃ d ∈ bs, has d x ∧ has d y ∧ ∀ z, has d z → z ∈ pts s
def Clo (bs : List B3) (s : Nat) : Prop := ∀ d ∈ bs, ¬ ones (bmask d &&& s) = 2
def insB (bs : List B3) (s : Nat) : List B3 := bs.filter fun d => decide (bmask d &&& s = bmask d)
theorem insB_len : (insB bs s).length = inside bs s bs.length := by
  unfold insB inside
  rw [List.take_of_length_le (Nat.le_refl _)]
theorem pts_lt (s : Nat) : (pts s).Pairwise (· < ·) := ptsAt_sorted _ _
theorem mem_pts {s : Nat} {z : Int} : z ∈ pts s ↔ 0 ≤ z ∧ z < 15 ∧ s.testBit z.toNat = true := ptsAt_mem s 15
theorem bit_has {d : B3} (hg : good v d) {z : Int} (hz : 0 ≤ z) : (bmask d).testBit z.toNat = true ↔ has d z := by
  rw [bmask_bit hg, Int.toNat_of_nonneg hz]
theorem mem_bl {d : B3} {z : Int} : z ∈ bl d ↔ has d z := by
  unfold bl has
  simp only [List.mem_cons, List.not_mem_nil, or_false]
  omega
theorem pts_and {d : B3} (hg : good 15 d) : pts (bmask d &&& s) = (bl d).filter fun z => decide (z ∈ pts s) := by
  have hp := good.pts hg
  refine asc_ext (pts_lt _) ?_ fun z => ?_
  · refine List.Pairwise.filter _ ?_
    have := hg
    unfold good at this
    unfold bl
    simp
    omega
  · rw [List.mem_filter, mem_bl, decide_eq_true_eq, mem_pts, mem_pts, Nat.testBit_and, Bool.and_eq_true]
    constructor
    · rintro ⟨h1, h2, h3, h4⟩
      exact ⟨(bit_has hg h1).1 h3, h1, h2, h4⟩
    · rintro ⟨h1, h2, h3, h4⟩
      exact ⟨h2, h3, (bit_has hg h2).2 h1, h4⟩
theorem pts_ones {m : Nat} (h : m < 32768) : (pts m).length = ones m := by
  unfold pts
  rw [ptsAt_len, cov_ones (by simpa using h)]
theorem ones_and {d : B3} (hg : good 15 d) (hs : s < 32768) : ones (bmask d &&& s) = ((bl d).filter fun z => decide (z ∈ pts s)).length := by
  rw [← pts_and hg, pts_ones (by have := Nat.and_le_right (n := bmask d) (m := s); omega)]
theorem ins_iff {d : B3} (hg : good 15 d) : bmask d &&& s = bmask d ↔ ∀ z, has d z → z ∈ pts s := by
  have hp := good.pts hg
  constructor
  · intro h z hz
    have hzz : 0 ≤ z ∧ z < 15 := by unfold has at hz; omega
    have h1 := (bit_has hg hzz.1).2 hz
    rw [← h, Nat.testBit_and, Bool.and_eq_true] at h1
    exact mem_pts.2 ⟨hzz.1, hzz.2, h1.2⟩
  · intro h
    apply Nat.eq_of_testBit_eq
    intro i
    rw [Nat.testBit_and]
    cases hb : (bmask d).testBit i with
    | false => rfl
    | true =>
      have := h i ((bmask_bit hg i).1 hb)
      rw [mem_pts] at this
      simpa using this.2.2
theorem mem_insB (h : STS v bs) {d : B3} : d ∈ insB bs s ↔ d ∈ bs ∧ ∀ z, has d z → z ∈ pts s := by
  unfold insB
  rw [List.mem_filter, decide_eq_true_eq]
  constructor
  · rintro ⟨h1, h2⟩; exact ⟨h1, (ins_iff ((h.good d h1).mono h.hi)).1 h2⟩
  · rintro ⟨h1, h2⟩; exact ⟨h1, (ins_iff ((h.good d h1).mono h.hi)).2 h2⟩
theorem ins_nodup (h : STS v bs) : (prsB (insB bs s)).Nodup := by
  have hv := h.lo
  have hh := h.hi
  have h' : STS ((v.toNat : Nat) : Int) bs := by rw [show ((v.toNat : Nat) : Int) = v by omega]; exact h
  exact (prsB_nodup (by omega) h').sublist (prsB_sub List.filter_sublist)
theorem ins_pair (h : STS v bs) {p : Int × Int} (hp : p ∈ prsB (insB bs s)) : p ∈ prs2 (pts s) := by
  rw [prs2_mem (pts_lt s)]
  obtain ⟨d, hd, e⟩ := mem_prsB.1 hp
  obtain ⟨h1, h2⟩ := (mem_insB h).1 hd
  have hg := h.good d h1
  unfold good at hg
  have k1 := h2 d.1 (.inl rfl)
  have k2 := h2 d.2.1 (.inr (.inl rfl))
  have k3 := h2 d.2.2 (.inr (.inr rfl))
  rcases e with rfl | rfl | rfl
  · exact ⟨by simp only; omega, k1, k2⟩
  · exact ⟨by simp only; omega, k1, k3⟩
  · exact ⟨by simp only; omega, k2, k3⟩
theorem subq_pair (h : STS v bs) (hq : SubQ bs s) {p : Int × Int} : p ∈ prs2 (pts s) → p ∈ prsB (insB bs s) := by
  intro hp
  obtain ⟨x, y⟩ := p
  obtain ⟨h1, h2, h3⟩ := (prs2_mem (pts_lt s)).1 hp
  obtain ⟨d, hd, k1, k2, k3⟩ := hq x y h2 h3 (by simp only at h1; omega)
  exact (prsI_mem (fun e he => h.good e ((mem_insB h).1 he).1) h1).2 ⟨d, (mem_insB h).2 ⟨hd, k3⟩, k1, k2⟩
theorem subq_count (h : STS v bs) (hq : SubQ bs s) : 6 * inside bs s bs.length = (pts s).length * ((pts s).length - 1) := by
  have hp : (prsB (insB bs s)).Perm (prs2 (pts s)) := (List.perm_ext_iff_of_nodup (ins_nodup h) (prs2_nodup (pts_lt s))).2 fun p => ⟨ins_pair h, subq_pair h hq⟩
  have hl := hp.length_eq
  rw [prsB_len, insB_len] at hl
  have := prs2_len (pts s)
  omega
theorem count_subq (h : STS v bs) (hc : 6 * inside bs s bs.length = (pts s).length * ((pts s).length - 1)) : SubQ bs s := by
  have h1 := prs2_len (pts s)
  have h2 := prsB_len (insB bs s)
  rw [insB_len] at h2
  have hall := sub_full (prsB (insB bs s)) (prs2 (pts s)) (ins_nodup h) (fun p hp => ins_pair h hp) (by omega)
  have key : ∀ x y : Int, x ∈ pts s → y ∈ pts s → x < y → ∃ d ∈ bs, has d x ∧ has d y ∧ ∀ z, has d z → z ∈ pts s := fun x y hx hy hxy => by
    have := hall (x, y) ((prs2_mem (pts_lt s)).2 ⟨hxy, hx, hy⟩)
    obtain ⟨d, hd, k1, k2⟩ := (prsI_mem (fun e he => h.good e ((mem_insB h).1 he).1) hxy).1 this
    obtain ⟨k3, k4⟩ := (mem_insB h).1 hd
    exact ⟨d, k3, k1, k2, k4⟩
  intro x y hx hy hxy
  rcases Int.lt_or_gt_of_ne hxy with h3 | h3
  · exact key x y hx hy h3
  · obtain ⟨d, hd, k1, k2, k3⟩ := key y x hy hx h3
    exact ⟨d, hd, k2, k1, k3⟩
theorem flat2_len {β : Type} {f g : B3 → β} : ∀ l : List B3, (l.flatMap fun d => [f d, g d]).length = 2 * l.length
  | [] => rfl
  | d :: l => by
    rw [List.flatMap_cons, List.length_append, flat2_len l]
    simp
    omega
theorem subq_odd (h : STS v bs) (hq : SubQ bs s) (hn : 1 ≤ (pts s).length) : ∃ k, (pts s).length = 2 * k + 1 := by
  obtain ⟨x, hx⟩ : ∃ x, x ∈ pts s := ⟨(pts s)[0], List.getElem_mem _⟩
  have hnd : (pts s).Nodup := (pts_lt s).imp fun h => by omega
  have hbn : bs.Nodup := by
    have h1 : bs.Pairwise B3.lt := by
      have h' : STS ((v.toNat : Nat) : Int) bs := by have := h.lo; rw [show ((v.toNat : Nat) : Int) = v by omega]; exact h
      exact (sts_rest h').lt
    exact h1.imp fun h => by rintro rfl; exact lt_irrefl _ h
  let K := (insB bs s).filter fun d => decide (has d x)
  have hK : ∀ d, d ∈ K ↔ d ∈ bs ∧ (∀ z, has d z → z ∈ pts s) ∧ has d x := fun d => by
    show d ∈ (insB bs s).filter _ ↔ _
    rw [List.mem_filter, mem_insB h, decide_eq_true_eq, and_assoc]
  have hKn : K.Nodup := (hbn.sublist List.filter_sublist).sublist List.filter_sublist
  have tri : ∀ d ∈ K, Tri d x (oth1 d x) (oth2 d x) := fun d hd => tri_oth (h.good d ((hK d).1 hd).1) ((hK d).1 hd).2.2
  have qn : (K.flatMap fun d => [oth1 d x, oth2 d x]).Nodup := by
    unfold List.Nodup
    rw [List.pairwise_flatMap]
    constructor
    · intro d hd
      have := (tri d hd).2.2.1
      simp [this]
    · refine List.Pairwise.imp_of_mem ?_ hKn
      intro d e hd he hne u hu w hw euw
      subst euw
      have t1 := tri d hd
      have t2 := tri e he
      have g1 : has d u ∧ x ≠ u := by
        simp only [List.mem_cons, List.not_mem_nil, or_false] at hu
        rcases hu with rfl | rfl
        · exact ⟨t1.h2, t1.1⟩
        · exact ⟨t1.h3, t1.2.1⟩
      have g2 : has e u := by
        simp only [List.mem_cons, List.not_mem_nil, or_false] at hw
        rcases hw with rfl | rfl
        · exact t2.h2
        · exact t2.h3
      exact hne (two_mem h ((hK d).1 hd).1 ((hK e).1 he).1 g1.2 t1.h1 g1.1 t2.h1 g2)
  have hm : ∀ u, u ∈ (K.flatMap fun d => [oth1 d x, oth2 d x]) ↔ u ∈ (pts s).erase x := fun u => by
    rw [hnd.mem_erase_iff, List.mem_flatMap]
    constructor
    · rintro ⟨d, hd, hu⟩
      have t1 := tri d hd
      simp only [List.mem_cons, List.not_mem_nil, or_false] at hu
      rcases hu with rfl | rfl
      · exact ⟨fun e => t1.1 e.symm, ((hK d).1 hd).2.1 _ t1.h2⟩
      · exact ⟨fun e => t1.2.1 e.symm, ((hK d).1 hd).2.1 _ t1.h3⟩
    · rintro ⟨h1, h2⟩
      obtain ⟨d, hd, k1, k2, k3⟩ := hq x u hx h2 (fun e => h1 e.symm)
      have hdK := (hK d).2 ⟨hd, k3, k1⟩
      refine ⟨d, hdK, ?_⟩
      have := (tri d hdK).2.2.2 u |>.1 k2
      simp only [List.mem_cons, List.not_mem_nil, or_false]
      rcases this with e | e | e
      · exact absurd e h1
      · exact .inl e
      · exact .inr e
  have hp := ((List.perm_ext_iff_of_nodup qn (hnd.erase x)).2 hm).length_eq
  rw [flat2_len, List.length_erase_of_mem hx] at hp
  exact ⟨K.length, by omega⟩
theorem subq_clo (h : STS v bs) (hs : s < 32768) (hq : SubQ bs s) : Clo bs s := by
  intro d hd
  have hg := (h.good d hd).mono h.hi
  rw [ones_and hg hs]
  intro h2
  obtain ⟨p, q, r⟩ := d
  have hgg := hg
  unfold good at hgg
  simp only at hgg
  have key : ∀ x y z : Int, x ≠ y → has (p, q, r) x → has (p, q, r) y → has (p, q, r) z → x ∈ pts s → y ∈ pts s → z ∈ pts s := fun x y z hxy hx hy hz h3 h4 => by
    obtain ⟨e, he, k1, k2, k3⟩ := hq x y h3 h4 hxy
    have := two_mem h hd he hxy hx hy k1 k2
    subst this
    exact k3 z hz
  have i1 : has (p, q, r) p := .inl rfl
  have i2 : has (p, q, r) q := .inr (.inl rfl)
  have i3 : has (p, q, r) r := .inr (.inr rfl)
  unfold bl at h2
  by_cases a1 : p ∈ pts s <;> by_cases a2 : q ∈ pts s <;> by_cases a3 : r ∈ pts s <;> simp [List.filter_cons, a1, a2, a3] at h2
  · exact a3 (key p q r (by omega) i1 i2 i3 a1 a2)
  · exact a2 (key p r q (by omega) i1 i3 i2 a1 a3)
  · exact a1 (key q r p (by omega) i2 i3 i1 a2 a3)
/-- Both ways to tell a subsystem. -/
theorem subq_iff (h : STS v bs) (hs : s < 32768) : (3 ≤ ones s ∧ SubQ bs s) ↔ ((ones s = 3 ∨ ones s = 7 ∨ ones s = 9 ∨ ones s = 13 ∨ ones s = 15) ∧ 3 ≤ ones s ∧ 6 * inside bs s bs.length = ones s * (ones s - 1) ∧ Clo bs s) := by
  have hl := pts_ones hs
  have h15 : ones s ≤ 15 := by rw [← hl]; exact pts_len s
  constructor
  · rintro ⟨h3, hq⟩
    have hc := subq_count h hq
    have ho := subq_odd h hq (by omega)
    rw [hl] at hc ho
    refine ⟨?_, h3, hc, subq_clo h hs hq⟩
    obtain ⟨k, hk⟩ := ho
    generalize ones s = n at *
    have : n = 3 ∨ n = 5 ∨ n = 7 ∨ n = 9 ∨ n = 11 ∨ n = 13 ∨ n = 15 := by omega
    rcases this with rfl | rfl | rfl | rfl | rfl | rfl | rfl <;> omega
  · rintro ⟨_, h3, hc, _⟩
    exact ⟨h3, count_subq h (by rw [hl]; exact hc)⟩
end
end Go.Vc
/-
  Plain words: the list of subsystems.
-/
namespace Go.Vc
open Go.Proofs (ltOf)
open Go.Sort (SWO)
def PairOk (bs : List B3) (s : Nat) (x y : Int) : Prop := ∃ d ∈ bs, has d x ∧ has d y ∧ ∀ z, has d z → z ∈ pts s
def SubI (bs : List B3) (s i j : Nat) : Prop := ∀ a b, a < b → (b < i ∨ (b = i ∧ a < j)) → b < (pts s).length → PairOk bs s ((pts s).getD b 0) ((pts s).getD a 0)
section
variable {v : Int} {bs : List B3} {s i j : Nat}
theorem subI_zero : SubI bs s 0 0 := fun a b h1 h2 h3 => by omega
theorem subI_row (h : SubI bs s i j) (hj : i ≤ j) : SubI bs s (i + 1) 0 := fun a b h1 h2 h3 => h a b h1 (by omega) h3
theorem subI_step (h : SubI bs s i j) (hp : PairOk bs s ((pts s).getD i 0) ((pts s).getD j 0)) : SubI bs s i (j + 1) := fun a b h1 h2 h3 => by
  by_cases e : b = i ∧ a = j
  · obtain ⟨rfl, rfl⟩ := e; exact hp
  · exact h a b h1 (by omega) h3
theorem PairOk.symm {x y : Int} (h : PairOk bs s x y) : PairOk bs s y x := by
  obtain ⟨d, h1, h2, h3, h4⟩ := h
  exact ⟨d, h1, h3, h2, h4⟩
theorem subI_all (hi : (pts s).length ≤ i) : SubI bs s i 0 ↔ SubQ bs s := by
  constructor
  · intro h x y hx hy hxy
    obtain ⟨a, ha, rfl⟩ := List.mem_iff_getElem.1 hx
    obtain ⟨b, hb, rfl⟩ := List.mem_iff_getElem.1 hy
    have e1 : (pts s).getD a 0 = (pts s)[a] := by simp [List.getD, ha]
    have e2 : (pts s).getD b 0 = (pts s)[b] := by simp [List.getD, hb]
    rw [← e1, ← e2]
    rcases Nat.lt_trichotomy a b with h1 | h1 | h1
    · exact (h a b h1 (by omega) hb).symm
    · subst h1; exact absurd rfl hxy
    · exact h b a h1 (by omega) ha
  · intro h a b h1 h2 h3
    have e1 : (pts s).getD a 0 = (pts s)[a] := by simp [List.getD, show a < (pts s).length by omega]
    have e2 : (pts s).getD b 0 = (pts s)[b] := by simp [List.getD, h3]
    rw [e1, e2]
    have := List.pairwise_iff_getElem.1 (pts_lt s) a b (by omega) h3 h1
    exact h _ _ (List.getElem_mem _) (List.getElem_mem _) (by omega)
theorem subI_not {a b : Nat} (h1 : a < b) (hb : b < (pts s).length) (hn : ¬ PairOk bs s ((pts s).getD b 0) ((pts s).getD a 0)) : ¬ SubQ bs s := fun h => hn ((subI_all (Nat.le_refl _)).2 h a b h1 (by omega) hb)
theorem tri_third {d : B3} (hg : good v d) {x y : Int} (hxy : x ≠ y) (hx : has d x) (hy : has d y) : ∃ z, Tri d x y z := by
  have t := tri_oth hg hx
  rcases (t.2.2.2 y).1 hy with e | e | e
  · exact absurd e.symm hxy
  · exact ⟨_, e ▸ t⟩
  · exact ⟨_, e ▸ t.swap⟩
theorem tab_some (h : STS v bs) {x y : Int} (hxy : x ≠ y) (hn : ¬ tab bs x y = -1) : ∃ d ∈ bs, Tri d x y (tab bs x y) := by
  have h2 : ∃ d ∈ bs, has d x ∧ has d y := by
    apply Classical.byContradiction
    intro hc
    exact hn ((tab_left (fun b hb => (h.good b hb).three) x y).2 fun b hb hh => hc ⟨b, hb, hh.1, hh.2.1⟩)
  obtain ⟨d, hd, hx, hy⟩ := h2
  obtain ⟨z, t⟩ := tri_third (h.good d hd) hxy hx hy
  rw [tab_tri h hd t]
  exact ⟨d, hd, t⟩
theorem tab_pair (h : STS v bs) {x y : Int} (hxy : x ≠ y) (hx : x ∈ pts s) (hy : y ∈ pts s) : PairOk bs s x y ↔ ¬ tab bs x y = -1 ∧ s.testBit (tab bs x y).toNat = true := by
  constructor
  · rintro ⟨d, hd, k1, k2, k3⟩
    obtain ⟨z, t⟩ := tri_third (h.good d hd) hxy k1 k2
    rw [tab_tri h hd t]
    have := mem_pts.1 (k3 z t.h3)
    exact ⟨by omega, this.2.2⟩
  · rintro ⟨h1, h2⟩
    obtain ⟨d, hd, t⟩ := tab_some h hxy h1
    have hg := good.pts ((h.good d hd).mono h.hi)
    refine ⟨d, hd, t.h1, t.h2, fun z hz => ?_⟩
    rcases (t.2.2.2 z).1 hz with rfl | rfl | rfl
    · exact hx
    · exact hy
    · exact mem_pts.2 ⟨by unfold has at hz; omega, by unfold has at hz; omega, h2⟩
noncomputable instance (bs : List B3) (s : Nat) : Decidable (SubQ bs s) := Classical.propDecidable _
/-- The subsystems among the first n sets. -/
noncomputable def subsL (bs : List B3) (n : Nat) : List (List Int) := ((List.range n).filter fun s => decide (3 ≤ ones s ∧ SubQ bs s)).map pts
theorem subsL_yes {n : Nat} (h : 3 ≤ ones n ∧ SubQ bs n) : subsL bs (n + 1) = subsL bs n ++ [pts n] := by
  unfold subsL
  rw [List.range_succ, List.filter_append, List.map_append]
  simp only [List.filter_cons, List.filter_nil, decide_eq_true h, if_true, List.map_cons, List.map_nil]
theorem subsL_no {n : Nat} (h : ¬ (3 ≤ ones n ∧ SubQ bs n)) : subsL bs (n + 1) = subsL bs n := by
  unfold subsL
  rw [List.range_succ, List.filter_append, List.map_append]
  simp only [List.filter_cons, List.filter_nil, decide_eq_false h, List.append_nil, List.map_nil, if_neg (show ¬ false = true by decide), Bool.false_eq_true, if_false]
theorem subsL_len {n : Nat} : (subsL bs n).length ≤ n := by
  unfold subsL
  rw [List.length_map]
  exact Nat.le_trans (List.length_filter_le _ _) (by simp)
theorem subsL_small {n : Nat} : ∀ q ∈ subsL bs n, q.length ≤ 15 := by
  intro q hq
  obtain ⟨s, _, rfl⟩ := List.mem_map.1 hq
  exact pts_len s
end
/-- Shorter lists first, then in their order. -/
def cfB (a b : List Int) : Int := if ¬ (a.length : Int) = b.length then (a.length : Int) - b.length else cmpL a b
def leQ (a b : List Int) : Prop := ¬ cfB b a < 0
theorem cfB_lt {a b : List Int} : cfB a b < 0 ↔ a.length < b.length ∨ (a.length = b.length ∧ ltL a b) := by
  unfold cfB ltL
  split <;> omega
theorem swoQ : SWO (ltOf cfB) := by
  have e : ∀ x y : List Int, ltOf cfB x y = decide (x.length < y.length ∨ (x.length = y.length ∧ ltL x y)) := fun x y => by
    unfold ltOf
    exact decide_eq_decide.2 cfB_lt
  refine ⟨fun x => ?_, fun x y z h1 h2 => ?_, fun x y z h1 h2 => ?_⟩
  · rw [e]; exact decide_eq_false (fun h => h.elim (fun h => by omega) (fun h => ltL_irrefl x h.2))
  · rw [e] at *
    simp only [decide_eq_true_eq] at *
    rcases h1 with h1 | ⟨h1, h1'⟩
    · left; omega
    · rcases h2 with h2 | ⟨h2, h2'⟩
      · left; omega
      · exact .inr ⟨by omega, ltL_trans h1' h2'⟩
  · rw [e] at *
    simp only [decide_eq_false_iff_not] at *
    rintro (h3 | ⟨h3, h3'⟩)
    · by_cases h4 : x.length < y.length
      · exact h1 (.inl h4)
      · exact h2 (.inl (by omega))
    · have h4 : x.length = y.length := by
        rcases Nat.lt_trichotomy x.length y.length with h | h | h
        · exact absurd (.inl h) h1
        · exact h
        · exact absurd (.inl (by omega)) h2
      have g1 : ¬ ltL x y := fun h => h1 (.inr ⟨h4, h⟩)
      have g2 : ¬ ltL y z := fun h => h2 (.inr ⟨by omega, h⟩)
      by_cases h5 : ltL y x
      · exact g2 (ltL_trans h5 h3')
      · have := ltL_tri g1 h5
        subst this
        exact g2 h3'
theorem leQ_anti {a b : List Int} (h1 : leQ a b) (h2 : leQ b a) : a = b := by
  unfold leQ at *
  rw [cfB_lt] at *
  have h4 : a.length = b.length := by
    rcases Nat.lt_trichotomy a.length b.length with h | h | h
    · exact absurd (.inl h) h2
    · exact h
    · exact absurd (.inl h) h1
  exact ltL_tri (fun h => h2 (.inr ⟨h4, h⟩)) (fun h => h1 (.inr ⟨h4.symm, h⟩))
/-- What both Subsystems return. -/
def SubR (v : Int) (bs : List B3) (l : List (List Int)) : Prop := (STS v bs → l.Perm (subsL bs (2 ^ v.toNat)) ∧ l.Pairwise leQ) ∧ (¬ STS v bs → l = [])
theorem SubR.unique {v : Int} {bs : List B3} {l m : List (List Int)} (h1 : SubR v bs l) (h2 : SubR v bs m) : l = m := by
  by_cases h : STS v bs
  · obtain ⟨p1, s1⟩ := h1.1 h
    obtain ⟨p2, s2⟩ := h2.1 h
    exact (p1.trans p2.symm).eq_of_pairwise (fun a b _ _ k1 k2 => leQ_anti k1 k2) s1 s2
  · rw [h1.2 h, h2.2 h]
theorem SubR.small {v : Int} {bs : List B3} {l : List (List Int)} (h1 : SubR v bs l) : (∀ q ∈ l, q.length ≤ 15) ∧ l.length ≤ 32768 := by
  by_cases h : STS v bs
  · obtain ⟨p1, s1⟩ := h1.1 h
    have hv := h.hi
    refine ⟨fun q hq => subsL_small q (p1.mem_iff.1 hq), ?_⟩
    rw [p1.length_eq]
    exact Nat.le_trans subsL_len (Nat.pow_le_pow_right (by decide) (by omega : v.toNat ≤ 15))
  · rw [h1.2 h]; simp
end Go.Vc
namespace Go.Vc
theorem tab_bd {v : Int} {bs : List B3} (h : STS v bs) {x y : Int} (hxy : x ≠ y) (hn : ¬ tab bs x y = -1) : 0 ≤ tab bs x y ∧ tab bs x y < 15 := by
  obtain ⟨d, hd, t⟩ := tab_some h hxy hn
  have hg := good.pts ((h.good d hd).mono h.hi)
  have h3 := t.h3
  unfold has at h3
  omega
end Go.Vc
namespace Go.Vc
theorem Ld.takeK {α : Type} {C : Cod α} {w0 : World} {H : List Assn} {A : Option Addr} {xs : List α} {k : Nat} (h : ∀ w, St w0 H w → Rd C w A xs) : ∀ w, St w0 H w → Rd C w A (xs.take k) := fun w hw => (h w hw).take k
end Go.Vc
namespace Go.Vc
theorem leQ_trans {a b c : List Int} (h1 : leQ a b) (h2 : leQ b c) : leQ a c := by
  have h := swoQ.ntrans c b a
  unfold Go.Proofs.ltOf at h
  simp only [decide_eq_false_iff_not] at h
  exact h h2 h1
theorem leQ_of_lt {a b : List Int} (h : cfB a b < 0) : leQ a b := by
  intro h2
  have k1 := swoQ.trans a b a
  have k2 := swoQ.irrefl a
  unfold Go.Proofs.ltOf at k1 k2
  simp only [decide_eq_true_eq, decide_eq_false_iff_not] at k1 k2
  exact k2 (k1 h h2)
theorem insQ {L : List (List Int)} {q : List Int} {y : Nat} (hs : L.Pairwise leQ) (hy : y ≤ L.length) (hhi : ∀ j (hj : j < L.length), y ≤ j → cfB q L[j] < 0) (hlo : ∀ (h : 0 < y), ¬ cfB q (L[y - 1]'(by omega)) < 0) : (L.take y ++ q :: L.drop y).Pairwise leQ := by
  have hp := List.pairwise_iff_getElem.1 hs
  rw [List.pairwise_append]
  refine ⟨hs.sublist (List.take_sublist _ _), List.pairwise_cons.2 ⟨fun x hx => ?_, hs.sublist (List.drop_sublist _ _)⟩, fun a ha b hb => ?_⟩
  · obtain ⟨j, hj, rfl⟩ := List.mem_iff_getElem.1 hx
    rw [List.getElem_drop]
    rw [List.length_drop] at hj
    exact leQ_of_lt (hhi _ (by omega) (by omega))
  · obtain ⟨j, hj, rfl⟩ := List.mem_iff_getElem.1 ha
    rw [List.getElem_take]
    rw [List.length_take] at hj
    rcases List.mem_cons.1 hb with rfl | hb
    · have h1 : leQ (L[y - 1]'(by omega)) b := hlo (by omega)
      by_cases e : j = y - 1
      · subst e; exact h1
      · exact leQ_trans (hp j (y - 1) (by omega) (by omega) (by omega)) h1
    · obtain ⟨k, hk, rfl⟩ := List.mem_iff_getElem.1 hb
      rw [List.getElem_drop]
      rw [List.length_drop] at hk
      exact hp j (y + k) (by omega) (by omega) (by omega)
theorem insQ_perm {out : List SL} {S : List (List Int)} {s : Sl} {q : List Int} {y : Nat} (h : (conts out).Perm S) : (conts (out.take y ++ (s, q) :: out.drop y)).Perm (S ++ [q]) := by
  rw [conts_put]
  refine List.perm_middle.trans ?_
  rw [List.take_append_drop]
  exact (h.cons q).trans (List.perm_append_comm (l₁ := [q]))
theorem shift_v {out : List SL} {z : Sl} {y : Nat} (hn : LenOk out) (hy : y ≤ out.length) (h0 : 0 < y) (h2 : y - 1 < (shiftAt (tops out) z y).length) : ((shiftAt (tops out) z y)[y - 1]).v = .slice (out[y - 1]'(by omega)).1.A (out[y - 1]'(by omega)).2.length (out[y - 1]'(by omega)).1.c := by
  rw [shiftAt_lt (by rw [tops_len]; exact hy) (by omega), tops_get]
  unfold Sl.v
  rw [(hn _ (List.getElem_mem _)).1]
end Go.Vc
namespace Go.Vc
noncomputable instance (bs : List B3) (s : Nat) : Decidable (Clo bs s) := Classical.propDecidable _
theorem mul15 : ∀ n : Nat, n < 16 → (0 ≤ (n : Int) * ((n : Int) - 1) ∧ (n : Int) * ((n : Int) - 1) ≤ 210) ∧ (n : Int) * ((n : Int) - 1) = ((n * (n - 1) : Nat) : Int) := by decide
end Go.Vc
namespace Go.Vc
theorem subsL_one {bs : List B3} : subsL bs 1 = [] := by
  rw [subsL_no (n := 0) (fun h => by have := h.1; rw [ones_zero] at this; omega)]
  rfl
end Go.Vc
