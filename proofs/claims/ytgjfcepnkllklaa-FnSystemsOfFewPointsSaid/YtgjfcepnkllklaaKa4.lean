/-
  The calculus and plain words, part 4.
-/
import Derived.Test.YtgjfcepnkllklaaKa3
import Derived.Laws.OwnMore
set_option linter.unusedVariables false
set_option linter.unusedSimpArgs false
/-
  Plain words: the first system that is apart; how many blocks are common.
-/
namespace Go.Vc
/-- No block in common. -/
def ApartB (bs q : List B3) : Prop := ∀ b ∈ bs, b ∉ q
instance (bs q : List B3) : Decidable (ApartB bs q) := inferInstanceAs (Decidable (∀ b ∈ bs, b ∉ q))
theorem apart_I {bs q : List B3} : (bs.filter fun b => decide (b ∈ q)).length = 0 ↔ ApartB bs q := by
  rw [List.length_eq_zero_iff, List.filter_eq_nil_iff]
  unfold ApartB
  simp
theorem apart_S {bs q : List B3} : (q.filter fun b => decide (b ∈ bs)).length = 0 ↔ ApartB bs q := by
  rw [List.length_eq_zero_iff, List.filter_eq_nil_iff]
  unfold ApartB
  simp only [decide_eq_true_eq]
  exact ⟨fun h b h1 h2 => h b h2 h1, fun h b h1 h2 => h b h2 h1⟩
/-- The first of all systems that is apart. -/
noncomputable def firstA (v : Int) (bs : List B3) : Option (List B3) := (allN v).find? fun q => decide (ApartB bs q)
theorem firstA_at {v : Int} {bs : List B3} {ps : List (Sl × List B3)} (h : conts ps = allN v) {i : Nat} (hi : i < ps.length) (h1 : ApartB bs (ps[i]).2) (h2 : ∀ j (hj : j < ps.length), j < i → ¬ ApartB bs (ps[j]).2) : firstA v bs = some (ps[i]).2 := by
  have hl := conts_len ps
  unfold firstA
  rw [← h, List.find?_eq_some_iff_getElem]
  refine ⟨decide_eq_true h1, i, by omega, conts_get ps (by omega), fun j hj => ?_⟩
  rw [conts_get ps (by omega), decide_eq_false (h2 j (by omega) hj)]
  rfl
theorem firstA_no {v : Int} {bs : List B3} {ps : List (Sl × List B3)} (h : conts ps = allN v) (h2 : ∀ j (hj : j < ps.length), ¬ ApartB bs (ps[j]).2) : firstA v bs = none := by
  unfold firstA
  rw [← h, List.find?_eq_none]
  intro q hq
  obtain ⟨x, hx, rfl⟩ := List.mem_map.1 hq
  obtain ⟨j, hj, rfl⟩ := List.getElem_of_mem hx
  simpa using h2 j hj
/-- What both FirstApart return. -/
noncomputable def apR (v : Int) (bs : List B3) : Int × List B3 × Int :=
  if STS v bs then if Few v bs then match firstA v bs with | some q => (v, q, 0) | none => (0, [], 4) else (0, [], 5) else (0, [], 1)
theorem apR_1 {v : Int} {bs : List B3} (h : ¬ STS v bs) : apR v bs = (0, [], 1) := by unfold apR; rw [if_neg h]
theorem apR_5 {v : Int} {bs : List B3} (h : STS v bs) (h2 : ¬ Few v bs) : apR v bs = (0, [], 5) := by unfold apR; rw [if_pos h, if_neg h2]
theorem apR_4 {v : Int} {bs : List B3} (h : STS v bs) (h2 : Few v bs) (h3 : firstA v bs = none) : apR v bs = (0, [], 4) := by unfold apR; rw [if_pos h, if_pos h2, h3]
theorem apR_0 {v : Int} {bs q : List B3} (h : STS v bs) (h2 : Few v bs) (h3 : firstA v bs = some q) : apR v bs = (v, q, 0) := by unfold apR; rw [if_pos h, if_pos h2, h3]
theorem apR_no {v : Int} {bs : List B3} {c : Int} (hc : (if STS v bs then if Few v bs then (0 : Int) else 5 else 1) = c) (h : ¬ c = 0) : apR v bs = (0, [], c) := by
  subst hc
  by_cases h1 : STS v bs
  · by_cases h2 : Few v bs
    · rw [if_pos h1, if_pos h2] at h; exact absurd rfl h
    · rw [if_pos h1, if_neg h2]; exact apR_5 h1 h2
  · rw [if_neg h1]; exact apR_1 h1
theorem apR_len {v : Int} {bs : List B3} : (apR v bs).2.1.length ≤ 40 := by
  unfold apR
  split
  · split
    · rename_i hS hF
      split
      · rename_i q hq
        have h := List.mem_of_find?_eq_some hq
        exact compM_len 40 _ _ _ h
      · simp
    · simp
  · simp
/-- How many of the first i lists have q blocks of bs, for each q. -/
def cntC (bs : List B3) (ls : List (List B3)) (n i : Nat) : List Int := (List.range n).map fun q => (((ls.take i).filter fun y => decide ((bs.filter fun b => decide (b ∈ y)).length = q)).length : Int)
section
variable {bs : List B3} {ls : List (List B3)} {n i : Nat}
theorem cntC_len : (cntC bs ls n i).length = n := by simp [cntC]
theorem cntC_start : cntC bs ls n 0 = List.replicate n 0 := by
  apply List.ext_getElem
  · simp [cntC_len]
  · intro j h1 h2
    simp [cntC]
theorem cntC_bd {q : Nat} (hq : q < (cntC bs ls n i).length) : 0 ≤ (cntC bs ls n i)[q] ∧ (cntC bs ls n i)[q] ≤ i := by
  simp only [cntC, List.getElem_map, List.getElem_range]
  have h1 := List.length_filter_le (fun y : List B3 => decide ((bs.filter fun b => decide (b ∈ y)).length = q)) (ls.take i)
  have h2 := List.length_take_le i ls
  omega
theorem cntC_step (hi : i < ls.length) {q : Nat} (e : (bs.filter fun b => decide (b ∈ ls[i])).length = q) (hq : q < (cntC bs ls n i).length) : (cntC bs ls n i).set q ((cntC bs ls n i)[q] + 1) = cntC bs ls n (i + 1) := by
  apply List.ext_getElem
  · rw [List.length_set, cntC_len, cntC_len]
  · intro j h1 h2
    rw [List.getElem_set]
    have hs : ∀ z, (((ls.take (i + 1)).filter fun y => decide ((bs.filter fun b => decide (b ∈ y)).length = z)).length : Int) = ((ls.take i).filter fun y => decide ((bs.filter fun b => decide (b ∈ y)).length = z)).length + (if q = z then 1 else 0) := by
      intro z
      rw [take_snoc hi, List.filter_append, List.length_append]
      by_cases hz : q = z
      · subst hz
        simp [e]
      · simp [e, hz]
    by_cases ej : q = j
    · subst ej
      rw [if_pos rfl]
      simp only [cntC, List.getElem_map, List.getElem_range]
      rw [hs, if_pos rfl]
    · rw [if_neg ej]
      simp only [cntC, List.getElem_map, List.getElem_range]
      rw [hs, if_neg ej]
      simp
end
theorem cmn_le {bs q : List B3} : (bs.filter fun b => decide (b ∈ q)).length ≤ bs.length := List.length_filter_le _ _
/-- Whichever list is gone through. -/
theorem cmn_comm {bs q : List B3} (h1 : bs.Pairwise B3.lt) (h2 : q.Pairwise B3.lt) : (q.filter fun b => decide (b ∈ bs)).length = (bs.filter fun b => decide (b ∈ q)).length := by
  have n1 : bs.Nodup := h1.imp fun h => by rintro rfl; exact lt_irrefl _ h
  have n2 : q.Nodup := h2.imp fun h => by rintro rfl; exact lt_irrefl _ h
  refine ((List.perm_ext_iff_of_nodup (n2.filter _) (n1.filter _)).2 fun b => ?_).length_eq
  simp only [List.mem_filter, decide_eq_true_eq]
  exact And.comm
/-- What both CommonNumbers return. -/
noncomputable def cmR (v : Int) (bs : List B3) : List Int × Int :=
  if STS v bs then if Few v bs then (cntC bs (allN v) (bs.length + 1) (allN v).length, 0) else ([], 5) else ([], 1)
theorem cmR_no {v : Int} {bs : List B3} {c : Int} (hc : (if STS v bs then if Few v bs then (0 : Int) else 5 else 1) = c) (h : ¬ c = 0) : cmR v bs = ([], c) := by
  subst hc
  unfold cmR
  by_cases h1 : STS v bs
  · by_cases h2 : Few v bs
    · rw [if_pos h1, if_pos h2] at h; exact absurd rfl h
    · rw [if_pos h1, if_neg h2, if_pos h1, if_neg h2]
  · rw [if_neg h1, if_neg h1]
theorem cmR_0 {v : Int} {bs : List B3} (h : STS v bs) (h2 : Few v bs) : cmR v bs = (cntC bs (allN v) (bs.length + 1) (allN v).length, 0) := by unfold cmR; rw [if_pos h, if_pos h2]
theorem cmR_len {v : Int} {bs : List B3} : (cmR v bs).1.length ≤ bs.length + 1 := by
  unfold cmR
  split
  · split
    · rw [cntC_len]; omega
    · simp
  · simp
section
variable {w0 w : World} {H : List Assn} {α : Type} {T : TypeId} {C : Cod α}
/-- One row is kept. -/
theorem RowsA.out {ps : List (Sl × List α)} {k : Nat} (hk : k < ps.length) (hw : St w0 (RowsA T C ps :: H) w) : St w0 (Own T C (ps[k]).1.A (ps[k]).1.c (ps[k]).2 :: H) w := by
  have e : ps = ps.take k ++ ps[k] :: ps.drop (k + 1) := by
    rw [← List.drop_eq_getElem_cons hk, List.take_append_drop]
  have hp : ps.Perm (ps[k] :: (ps.take k ++ ps.drop (k + 1))) := by
    conv => lhs; rw [e]
    exact List.perm_middle
  have h1 := RowsA.perm hp hw
  exact ((RowsA.uncons (s := (ps[k]).1) (xs := (ps[k]).2) h1).2).sub (Sub.keep 0 rfl (Sub.drop (Sub.refl _)))
end
end Go.Vc
/-
  The calculus, part 19: two results, the first of which lies in memory; the marks of blocks.
-/
namespace Go.Vc
open Go Go.RowKit
section
variable {P : Program} {N : Nat} {w0 w : World} {Q : Exit → Act → World → Prop} {σ : Sig} {H H' : List Assn}
theorem St.mapR {R : List Assn} (h : ∀ w, St w0 H w → St w0 H' w) (k : ∀ w, St w0 H' w → St w0 R w) : ∀ w, St w0 H w → St w0 R w := fun w hw => k w (h w hw)
theorem X.retCell2 {fn : Func} {t s n : Nat} {T : TypeId} {p : Option Addr} {cs : List Value} {u : Value} {R : Value → List Assn} (hr : fn.results = #[.cell t T, .tmp s]) (hT : aggT P T = true) (hz : Sz P T n) (hl : cs.length = n) (ht : look σ t = some (.pointer p)) (hs' : look σ s = some u)
    (hc : ∀ w, St w0 H w → ∃ q, p = some q ∧ ∀ j u, cs[j]? = some u → w.cell? (q.add j) = some u) (hs : ∀ w, St w0 H w → St w0 (R (.tuple #[.agg cs.toArray, u])) w) :
    X N w0 (bodyPost P fn (fun e w' => ∃ v, e = .returned v ∧ St w0 (R v) w')) .ret σ H := by
  intro w hw a ha
  refine ⟨ha.defers, .tuple #[.agg cs.toArray, u], ?_, _, rfl, hs w hw⟩
  have h1 := ha.look_ t _ ht
  have h2 := ha.look_ s _ hs'
  obtain ⟨q, rfl, hq⟩ := hc w hw
  subst hl
  have hrn := run_loadCells_list (P := P) (w := w) q cs hq
  simp [results, hr, h1, h2, asAddr, loadVar, run_isAgg_t hT, run_sz hz, hrn]
end
section
variable {w0 : World} {H : List Assn}
theorem Ld.part {A : Option Addr} {xs : List B3} {k s j : Nat} {u : Value} (hr : ∀ w, St w0 H w → Rd B3C w A xs) (hk : k < xs.length) (hs : s = 3) (hu : (B3.cs xs[k])[j]? = some u) : ∀ w, St w0 H w → ∃ q, (A.map (·.add (k * s))).map (·.add j) = some q ∧ w.cell? q = some u := by
  intro w hw
  obtain ⟨q, h1, h2⟩ := Ld.rds hr hk (s := s) hs w hw
  exact ⟨q.add j, by rw [h1]; rfl, h2 j u hu⟩
end
/-- Two strings are equal, or not. -/
theorem Pu.eqlStr {P : Program} {w0 : World} {H : List Assn} {σ : Sig} {o : Oper} {T T2 : TypeId} {x y : Operand} {s t : ByteArray} {b : Bool} (hb : (s.toList == t.toList) = b) (ho : o.op = .binOp .eql T x y T2) (hx : ev σ x = some (.string s)) (hy : ev σ y = some (.string t)) : Pu P w0 o σ H (.bool b) := by
  subst hb
  intro w hw a ha
  have h1 := ha x (by simp [ho, Op.operands]) _ hx
  have h2 := ha y (by simp [ho, Op.operands]) _ hy
  have he : (eqGuard .eql T x y (.string s) (.string t)).run P w = .ok () w := by
    unfold eqGuard
    simp
  simp [execOp, ho, h1, h2, he, Go.binOp, Op.stringOp]
/-- The marks of n blocks. -/
def marksB (m : Int) (n : Nat) : List B3 := (List.range n).map fun i : Nat => (m + 3 * (i : Int), m + 3 * (i : Int) + 1, m + 3 * (i : Int) + 2)
def markBAt (xs : List B3) (m : Int) (k : Nat) : List B3 := marksB m k ++ xs.drop k
end Go.Vc
/-
  Plain words: parts that fix a system.
-/
namespace Go.Vc
instance (a b : B3) : Decidable (leB a b) := inferInstanceAs (Decidable (¬ _))
section
variable {v m n : Nat}
theorem usd_put_false {a b c x y : Nat} (ha : a < 16) (hb : b < 16) (hc : c < 16) (hx : x < 16) (hy : y < 16) (h : usd (putM m a b c) x y = false) : usd m x y = false := by
  cases hh : usd m x y with
  | false => rfl
  | true =>
    have := (usd_put (m := m) ha hb hc hx hy).2 (.inl hh)
    rw [this] at h
    cases h
/-- What a completion is. -/
theorem comp_rest : ∀ n v m (q : List B3), v ≤ 15 → q ∈ compM n v m → Rest v m q := by
  intro n
  induction n with
  | zero =>
    intro v m q hv hq
    rcases mem_comp hq with ⟨rfl, _⟩ | ⟨k, a, b, c, r, hk, _⟩
    · exact ⟨fun _ h => by simp at h, fun _ h => by simp at h, List.Pairwise.nil, List.Pairwise.nil⟩
    · omega
  | succ n ih =>
    intro v m q hv hq
    have hs := comp_sorted _ _ _ _ hv hq
    rcases mem_comp hq with ⟨rfl, _⟩ | ⟨k, a, b, c, r, hk, hn, hc, hm, hr, rfl⟩
    · exact ⟨fun _ h => by simp at h, fun _ h => by simp at h, List.Pairwise.nil, List.Pairwise.nil⟩
    · obtain rfl : n = k := by omega
      have hI := next_spec hn
      have hab := hI.ab
      have hbv := hI.bv
      obtain ⟨h1, h2, h3⟩ := may_spec hm
      have h := ih _ _ _ hv hr
      refine ⟨fun d hd => ?_, fun d hd => ?_, hs, List.pairwise_cons.2 ⟨fun d hd => ?_, h.fit⟩⟩
      · rcases List.mem_cons.1 hd with rfl | hd
        · exact ⟨a, b, c, rfl, hab, h1, hc⟩
        · exact h.ok d hd
      · rcases List.mem_cons.1 hd with rfl | hd
        · exact ⟨a, b, c, rfl, hab, h1, hI.left, h2, h3⟩
        · obtain ⟨x, y, z, rfl, hx, hy, u1, u2, u3⟩ := h.opn d hd
          obtain ⟨x', y', z', e, _, _, hz⟩ := h.ok _ hd
          obtain ⟨rfl, rfl, rfl⟩ := b3N_inj e
          exact ⟨x, y, z, rfl, hx, hy, usd_put_false (by omega) (by omega) (by omega) (by omega) (by omega) u1, usd_put_false (by omega) (by omega) (by omega) (by omega) (by omega) u2, usd_put_false (by omega) (by omega) (by omega) (by omega) (by omega) u3⟩
      · obtain ⟨x, y, z, rfl, hx, hy, u1, u2, u3⟩ := h.opn d hd
        obtain ⟨x', y', z', e, _, _, hz⟩ := h.ok _ hd
        obtain ⟨rfl, rfl, rfl⟩ := b3N_inj e
        rw [common_le (b3N_three hab h1)]
        have k : ∀ p q : Nat, p < q → q < v → usd (putM m a b c) p q = false → ¬ (has (b3N a b c) p ∧ has (b3N a b c) q) := fun p q h4 h5 h6 => ((usd_putN hab h1 (by omega) (by omega) (by omega) (by omega)).1 h6).2
        exact ⟨k x y hx (by omega) u1, k x z (by omega) (by omega) u2, k y z hy (by omega) u3⟩
/-- .. and that it leaves no pair. -/
theorem comp_full : ∀ n v m (q : List B3), v ≤ 15 → q ∈ compM n v m → ∀ x y, x < y → y < v → usd (maskB m q) x y = true := by
  intro n
  induction n with
  | zero =>
    intro v m q hv hq
    rcases mem_comp hq with ⟨rfl, h⟩ | ⟨k, a, b, c, r, hk, _⟩
    · exact next_none h
    · omega
  | succ n ih =>
    intro v m q hv hq
    rcases mem_comp hq with ⟨rfl, h⟩ | ⟨k, a, b, c, r, hk, hn, hc, hm, hr, rfl⟩
    · exact next_none h
    · obtain rfl : n = k := by omega
      have h := ih _ _ _ hv hr
      have e : maskB m (b3N a b c :: r) = maskB (putM m a b c) r := by
        show maskB (putB m (b3N a b c)) r = _
        rw [putB_b3N]
      rw [e]
      exact h
/-- A full system, as plain words have it. -/
structure FullS (v : Nat) (T : List B3) : Prop where
  rest : Rest v 0 T
  full : ∀ x y, x < y → y < v → ∃ d ∈ T, has d x ∧ has d y
theorem FullS.of {T : List B3} (hv : v ≤ 15) (h : T ∈ compM n v 0) : FullS v T := by
  have hr := comp_rest _ _ _ _ hv h
  refine ⟨hr, fun x y h1 h2 => ?_⟩
  rcases (usd_mask T 0 hv hr.ok x y h1 h2).1 (comp_full _ _ _ _ hv h x y h1 h2) with h3 | h3
  · rw [usd_zero] at h3; cases h3
  · exact h3
theorem Rest.sub {T Q : List B3} (h : Rest v 0 T) (hs : Q.Sublist T) : Rest v 0 Q := ⟨fun d hd => h.ok d (hs.subset hd), fun d hd => h.opn d (hs.subset hd), h.lt.sublist hs, h.fit.sublist hs⟩
theorem comp_nodup (hv : v ≤ 15) : (compM n v m).Nodup := (comp_ascending n v m hv).imp fun h => by rintro rfl; exact befB_asymm h h
end
end Go.Vc
/-
  Plain words: the least part that fixes a system.
-/
namespace Go.Vc
/-- The least set with a property. -/
def LeastP (n : Nat) (p : Nat → Prop) (o : List Int) : Prop :=
  ∃ t, t < 2 ^ n ∧ p t ∧ o = pts t ∧ ∀ q, q < 2 ^ n → p q → ones t ≤ ones q ∧ (ones q = ones t → ¬ ltL (pts q) (pts t))
theorem LeastP.unique {n : Nat} {p : Nat → Prop} {a b : List Int} (h1 : LeastP n p a) (h2 : LeastP n p b) : a = b := by
  obtain ⟨T, a1, a2, rfl, a4⟩ := h1
  obtain ⟨U, b1, b2, rfl, b4⟩ := h2
  have h3 := a4 U b1 b2
  have h4 := b4 T a1 a2
  exact ltL_tri (fun h => h4.2 (by omega) h) (fun h => h3.2 (by omega) h)
/-- Which of the first k blocks a system has. -/
def hasM (bs U : List B3) : Nat → Nat
  | 0 => 0
  | k + 1 => if bs.getD k (0, 0, 0) ∈ U then hasM bs U k ||| 2 ^ k else hasM bs U k
/-- A part's blocks. -/
def partB (bs : List B3) (s : Nat) : List B3 := (pts s).map (blk bs)
/-- No other full system has all blocks of the part. -/
def FixP (bs : List B3) (all : List (List B3)) (s : Nat) : Prop := ∀ U ∈ all, (∀ q, s.testBit q = true → bs.getD q (0, 0, 0) ∈ U) → U = bs
/-- Lists of so many of the numbers below n, from one on, in order. -/
def setsN (n : Nat) : Nat → Nat → List (List Int)
  | 0, _ => [[]]
  | c + 1, f => (List.range (n - f)).flatMap fun i => (setsN n c (f + i + 1)).map (((f + i : Nat) : Int) :: ·)
end Go.Vc
/-
  Plain words: what both LeastFixing return.
-/
namespace Go.Vc
/-- What both LeastFixing return. -/
def LFR (v : Int) (bs : List B3) (o : List Int) : Prop := if STS v bs ∧ 6 * (bs.length : Int) = v * (v - 1) ∧ ¬ 9 < v then LeastP bs.length (FixP bs (allN v)) o else o = []
theorem LFR.unique {v : Int} {bs : List B3} {a b : List Int} (h1 : LFR v bs a) (h2 : LFR v bs b) : a = b := by
  unfold LFR at *
  split at h1
  · rename_i hc
    rw [if_pos hc] at h2
    exact h1.unique h2
  · rename_i hc
    rw [if_neg hc] at h2
    rw [h1, h2]
theorem LFR.len {v : Int} {bs : List B3} {a : List Int} (h : LFR v bs a) : a.length ≤ 15 := by
  unfold LFR at h
  split at h
  · obtain ⟨t, _, _, rfl, _⟩ := h
    exact pts_len t
  · simp [h]
end Go.Vc
namespace Go.Vc
end Go.Vc
/-
  The calculus, part 22: lists of words; a box with such a list beside a box with a system.
-/
namespace Go.Vc
open Go Go.RowKit
def U64 : Cod Nat := ⟨1, fun x => [.int .u64 (x : Int)], by decide, fun _ => rfl, fun _ u hu => by simp at hu; subst hu; rfl⟩
/-- What is told of each of the systems. -/
def othL (bs : List B3) (l : List (List B3)) : List Nat := (l.map fun U => hasM bs U bs.length).filter fun h => decide (¬ h = 2 ^ bs.length - 1)
section
variable {P : Program} {N : Nat} {w0 w : World} {Q : Exit → Act → World → Prop} {σ : Sig} {H H' : List Assn} {ops : Array Oper} {rest : List Oper} {v : Int}
/-- A box with what has been told so far of the systems l, and the box with the system. -/
def UE (uT lT yT : TypeId) (v : Int) (A : Option Addr) (c : Nat) (bs : List B3) (b0 b1 : Nat) (l : List (List B3)) : Assn :=
  .exi fun q : Option Addr × Nat => .sep (Blk b0 [.slice q.1 (othL bs l).length q.2] lT) (.sep (Blk b1 [.int .i64 v, .slice A bs.length c] yT) (Own uT U64 q.1 q.2 (othL bs l)))
variable {uT lT yT : TypeId} {A : Option Addr} {c : Nat} {bs : List B3} {b0 b1 : Nat} {l : List (List B3)}
theorem UE.elim (hw : St w0 (UE uT lT yT v A c bs b0 b1 l :: H) w) : ∃ A2 k, St w0 (Blk b0 [.slice A2 (othL bs l).length k] lT :: Blk b1 [.int .i64 v, .slice A bs.length c] yT :: Own uT U64 A2 k (othL bs l) :: H) w := by
  obtain ⟨q, hw⟩ := hw.exi
  refine ⟨q.1, q.2, ?_⟩
  have h2 := hw.sep
  have h3 := (h2.perm (List.Perm.swap _ _ _)).sep
  exact h3.sub (Sub.keep 2 rfl (Sub.keep 0 rfl (Sub.keep 0 rfl (Sub.refl _))))
theorem UE.mk {A2 : Option Addr} {k : Nat} (hw : St w0 (Blk b0 [.slice A2 (othL bs l).length k] lT :: Blk b1 [.int .i64 v, .slice A bs.length c] yT :: Own uT U64 A2 k (othL bs l) :: H) w) : St w0 (UE uT lT yT v A c bs b0 b1 l :: H) w := by
  refine St.mkExi (A2, k) ?_
  have h1 : St w0 (Blk b1 [.int .i64 v, .slice A bs.length c] yT :: Own uT U64 A2 k (othL bs l) :: Blk b0 [.slice A2 (othL bs l).length k] lT :: H) w := hw.sub (Sub.keep 1 rfl (Sub.keep 1 rfl (Sub.keep 0 rfl (Sub.refl _))))
  have h2 := (St.unsep h1).perm (List.Perm.swap _ _ _)
  exact St.unsep h2
end
end Go.Vc
namespace Go.Vc
/-- The best so far, told by its length. -/
def BestF (bs : List B3) (all : List (List B3)) (s : Nat) (found : Bool) (best : List Int) : Prop := BestI (-1) (FixP bs all) s found (-(best.length : Int)) best
section
variable {bs : List B3} {all : List (List B3)} {s : Nat} {found : Bool} {best : List Int}
end
end Go.Vc
namespace Go.Vc
end Go.Vc
/-
  Plain words: blocks that are turned around; the two systems of a new desk.
-/
namespace Go.Vc
open Go Go.RowKit
def bkT (v : Int) (b : B3) (i : Nat) : B3 := bk3 ((b.1 + i) % v) ((b.2.1 + i) % v) ((b.2.2 + i) % v)
def addT (v : Int) (b : B3) (l : List B3) (i : Nat) : List B3 := if bkT v b i ∈ l then l else l ++ [bkT v b i]
/-- The first n turns of a block, put behind a list, without equal ones. -/
def rowT (v : Int) (l : List B3) (b : B3) (n : Nat) : List B3 := (List.range n).foldl (addT v b) l
def tblT (v : Int) (bs : List B3) : List B3 := bs.foldl (fun l b => rowT v l b v.toNat) []
section
variable {v : Int} {l bs : List B3} {b : B3} {n i : Nat}
theorem rowT_succ : rowT v l b (n + 1) = addT v b (rowT v l b n) n := by
  unfold rowT
  rw [List.range_succ, List.foldl_append]
  rfl
theorem rowT_yes (h : bkT v b n ∈ rowT v l b n) : rowT v l b (n + 1) = rowT v l b n := by
  rw [rowT_succ]
  unfold addT
  rw [if_pos h]
theorem rowT_no (h : ¬ bkT v b n ∈ rowT v l b n) : rowT v l b (n + 1) = rowT v l b n ++ [bkT v b n] := by
  rw [rowT_succ]
  unfold addT
  rw [if_neg h]
theorem rowT_zero : rowT v l b 0 = l := rfl
theorem rowT_len : ∀ n, (rowT v l b n).length ≤ l.length + n := by
  intro n
  induction n with
  | zero => simp [rowT_zero]
  | succ n ih =>
    by_cases h : bkT v b n ∈ rowT v l b n
    · rw [rowT_yes h]; omega
    · rw [rowT_no h, List.length_append]; simp; omega
end
/-- What both make of the Fano plane. -/
def FanoR (r : List B3) : Prop := r.Perm (rowT 7 [] (0, 1, 3) 7) ∧ SrtB r
theorem FanoR.unique {r s : List B3} (h : FanoR r) (g : FanoR s) : r = s := srtB_unique h.2 g.2 (h.1.trans g.1.symm)
theorem FanoR.len {r : List B3} (h : FanoR r) : r.length ≤ 7 := by
  rw [h.1.length_eq]
  exact rowT_len 7
end Go.Vc
/-
  Plain words: systems with few points, by their numbers.
-/
namespace Go.Vc
theorem rest_sts {v : Nat} {T : List B3} (h : Rest v 0 T) (h3 : 3 ≤ v) (hv : v ≤ 15) (hl : T.length ≤ 35) : STS (v : Int) T := by
  refine ⟨by omega, by omega, hl, ?_, ?_⟩
  · intro i hi _
    obtain ⟨x, y, z, e, h1, h2, h4⟩ := h.ok _ (List.getElem_mem hi)
    refine ⟨by rw [e]; unfold good b3N; simp only; omega, fun j hj hji => List.pairwise_iff_getElem.1 h.lt j i hj hi (by omega)⟩
  · intro i hi _ j hj hji
    exact List.pairwise_iff_getElem.1 h.fit j i hj hi hji
theorem all_sts {v : Int} (h : few9 v) {q : List B3} (hq : q ∈ allN v) : STS v q ∧ Few v q := by
  have h0 := few_len h
  have hr := comp_rest _ _ _ _ h0.2.2.1 hq
  have hc := comp_count _ _ _ _ h0.2.2.1 hq
  rcases h with rfl | rfl | rfl
  · have hl : 3 * q.length = 3 := by rw [← left3]; exact hc
    exact ⟨rest_sts (v := 3) hr (by decide) (by decide) (by omega), .inl rfl, by omega⟩
  · have hl : 3 * q.length = 21 := by rw [← left7]; exact hc
    exact ⟨rest_sts (v := 7) hr (by decide) (by decide) (by omega), .inr (.inl rfl), by omega⟩
  · have hl : 3 * q.length = 36 := by rw [← left9]; exact hc
    exact ⟨rest_sts (v := 9) hr (by decide) (by decide) (by omega), .inr (.inr rfl), by omega⟩
/-- How many systems there are. -/
def numN (v : Int) : Nat := if v = 3 then 1 else if v = 7 then 30 else if v = 9 then 840 else 0
theorem all_num {v : Int} (h : few9 v) : (allN v).length = numN v := by
  rcases h with rfl | rfl | rfl
  · show (compM 40 3 0).length = _; rw [cntM_eq, cnt3]; rfl
  · show (compM 40 7 0).length = _; rw [cntM_eq, cnt7]; rfl
  · show (compM 40 9 0).length = _; rw [cntM_eq, cnt9]; rfl
theorem num_pos {v : Int} : numN v ≠ 0 ↔ few9 v := by
  unfold numN few9
  (repeat' split) <;> omega
theorem num_le {v : Int} : numN v ≤ 840 := by unfold numN; (repeat' split) <;> omega
/-- What both SystemAt return. -/
noncomputable def atR (v i : Int) : Int × List B3 × Int := if few9 v ∧ 0 ≤ i ∧ i < numN v then (v, (allN v).getD i.toNat [], 0) else (0, [], 2)
theorem atR_no {v i : Int} (h : ¬ (few9 v ∧ 0 ≤ i ∧ i < numN v)) : atR v i = (0, [], 2) := by unfold atR; rw [if_neg h]
theorem atR_yes {v i : Int} (h : few9 v) (h0 : 0 ≤ i) (h1 : i < numN v) : atR v i = (v, (allN v).getD i.toNat [], 0) := by unfold atR; rw [if_pos ⟨h, h0, h1⟩]
theorem atR_ok {v i : Int} (h : (atR v i).2.2 = 0) : few9 v ∧ 0 ≤ i ∧ i < numN v ∧ (atR v i).1 = v ∧ (atR v i).2.1 ∈ allN v := by
  by_cases hc : few9 v ∧ 0 ≤ i ∧ i < numN v
  · rw [atR_yes hc.1 hc.2.1 hc.2.2]
    refine ⟨hc.1, hc.2.1, hc.2.2, rfl, ?_⟩
    have hl := all_num hc.1
    have hi : i.toNat < (allN v).length := by omega
    simp only [List.getD_eq_getElem?_getD, List.getElem?_eq_getElem hi, Option.getD_some]
    exact List.getElem_mem hi
  · rw [atR_no hc] at h
    exact absurd h (by decide)
theorem atR_len {v i : Int} : (atR v i).2.1.length ≤ 40 := by
  unfold atR
  split
  · simp only [List.getD_eq_getElem?_getD]
    cases h : (allN v)[i.toNat]? with
    | none => simp
    | some q => exact compM_len 40 _ _ _ (List.mem_of_getElem? h)
  · simp
theorem at_row {v : Int} {ps : List (Sl × List B3)} (h : conts ps = allN v) {k : Nat} (hk : k < ps.length) : (allN v).getD k [] = (ps[k]).2 := by
  have hl := conts_len ps
  rw [← h]
  simp only [List.getD_eq_getElem?_getD, List.getElem?_eq_getElem (show k < (conts ps).length by omega), Option.getD_some]
  exact conts_get ps (by omega)
theorem idxP_nodup {α : Type} [DecidableEq α] {l : List α} (hn : l.Nodup) {i : Nat} (hi : i < l.length) : idxP (fun q => l[i] = q) l = i := by
  refine idxP_found hi rfl (fun j hj hji e => ?_)
  have := (List.getElem_inj hn).1 e
  omega
theorem all_nodup {v : Int} (h : few9 v) : (allN v).Nodup := comp_nodup (few_len h).2.2.1
/-- The number of the system with a number. -/
theorem nos_at {v i : Int} {r c : Int} (h : (atR v i).2.2 = 0) (hn : NOS (atR v i).1 (atR v i).2.1 r c) : r = i ∧ c = 0 ∧ STS (atR v i).1 (atR v i).2.1 ∧ 6 * ((atR v i).2.1.length : Int) = (atR v i).1 * ((atR v i).1 - 1) := by
  obtain ⟨h1, h2, h3, h4, h5⟩ := atR_ok h
  have hs := all_sts h1 h5
  rw [h4] at hn ⊢
  obtain ⟨e1, e2⟩ := hn.2.2 hs.1 hs.2
  refine ⟨?_, e2, hs.1, hs.2.2⟩
  rw [e1]
  have hl := all_num h1
  have hi : i.toNat < (allN v).length := by omega
  have e : (atR v i).2.1 = (allN v)[i.toNat] := by
    rw [atR_yes h1 h2 h3]
    simp only [List.getD_eq_getElem?_getD, List.getElem?_eq_getElem hi, Option.getD_some]
  rw [e, idxP_nodup (all_nodup h1) hi]
  omega
/-- The system with the number of a system. -/
theorem at_nos {v : Int} {bs : List B3} {r : Int} (h : NOS v bs r 0) : atR v r = (v, bs, 0) := by
  by_cases hS : STS v bs
  · by_cases hf : Few v bs
    · obtain ⟨e1, _⟩ := h.2.2 hS hf
      have hm := few_mem hS hf
      have hne : ¬ idxP (fun q => bs = q) (allN v) = -1 := fun e => by
        obtain ⟨k, hk, e2⟩ := List.getElem_of_mem hm
        exact idxP_not e k hk e2.symm
      obtain ⟨i, hi, q1, q2, _⟩ := idxP_at hne
      have hl := all_num hf.1
      rw [e1, q1, atR_yes hf.1 (by omega) (by omega)]
      simp only [Int.toNat_natCast, List.getD_eq_getElem?_getD, List.getElem?_eq_getElem hi, Option.getD_some]
      rw [← q2]
    · have := (h.2.1 hS hf).2; omega
  · have := (h.1 hS).2; omega
theorem nos_no {v : Int} {bs : List B3} {r c : Int} (h : NOS v bs r c) (hc : ¬ c = 0) : r = 0 := by
  by_cases hS : STS v bs
  · by_cases hf : Few v bs
    · exact absurd (h.2.2 hS hf).2 hc
    · exact (h.2.1 hS hf).1
  · exact (h.1 hS).1
/-! ### Common numbers -/
theorem sum_ind (k n : Nat) : ((List.range n).map fun q => if k = q then (1 : Int) else 0).sum = if k < n then 1 else 0 := by
  induction n with
  | zero => rfl
  | succ n ih =>
    rw [List.range_succ, List.map_append, List.sum_append, ih]
    simp only [List.map_cons, List.map_nil, List.sum_cons, List.sum_nil]
    (repeat' split) <;> omega
theorem sum_add {α : Type} (f g : α → Int) : ∀ l : List α, (l.map fun q => f q + g q).sum = (l.map f).sum + (l.map g).sum := by
  intro l
  induction l with
  | nil => rfl
  | cons x l ih => simp only [List.map_cons, List.sum_cons, ih]; omega
theorem sum_cnt {α : Type} (f : α → Nat) (n : Nat) : ∀ ls : List α, (∀ y ∈ ls, f y < n) → ((List.range n).map fun q => ((ls.filter fun y => decide (f y = q)).length : Int)).sum = ls.length := by
  intro ls
  induction ls with
  | nil =>
    intro _
    simp only [List.filter_nil, List.length_nil]
    induction n with
    | zero => rfl
    | succ n ih => rw [List.range_succ, List.map_append, List.sum_append, ih (by simp)]; rfl
  | cons y ls ih =>
    intro h
    have e : (fun q => (((y :: ls).filter fun y => decide (f y = q)).length : Int)) = fun q => (if f y = q then (1 : Int) else 0) + ((ls.filter fun y => decide (f y = q)).length : Int) := by
      funext q
      by_cases hq : f y = q
      · simp [List.filter_cons, hq]; omega
      · simp [List.filter_cons, hq]
    rw [e, sum_add, sum_ind, if_pos (h y (by simp)), ih (fun z hz => h z (by simp [hz]))]
    simp only [List.length_cons]
    omega
theorem one_filter {α : Type} [DecidableEq α] : ∀ {l : List α} {x : α}, l.Nodup → x ∈ l → (l.filter fun y => decide (y = x)).length = 1 := by
  intro l
  induction l with
  | nil => intro x _ h; simp at h
  | cons y l ih =>
    intro x hn hx
    obtain ⟨h1, h2⟩ := List.nodup_cons.1 hn
    by_cases e : y = x
    · subst e
      have h3 : (l.filter fun z => decide (z = y)) = [] := by
        rw [List.filter_eq_nil_iff]
        intro z hz hh
        exact h1 (of_decide_eq_true hh ▸ hz)
      simp [List.filter_cons, h3]
    · rcases List.mem_cons.1 hx with h | h
      · exact absurd h.symm e
      · rw [List.filter_cons, if_neg (by simpa using e)]
        exact ih h2 h
section
variable {v : Int} {bs : List B3}
theorem cm_code (h : (cmR v bs).2 = 0) : STS v bs ∧ Few v bs := by
  unfold cmR at h
  split at h
  · split at h
    · rename_i a b; exact ⟨a, b⟩
    · exact absurd h (by decide)
  · exact absurd h (by decide)
theorem cm_len (h : (cmR v bs).2 = 0) : (cmR v bs).1.length = bs.length + 1 := by
  obtain ⟨h1, h2⟩ := cm_code h
  rw [cmR_0 h1 h2]
  exact cntC_len
theorem cm_get (h : (cmR v bs).2 = 0) {k : Nat} (hk : k < (cmR v bs).1.length) : (cmR v bs).1[k] = (((allN v).filter fun y => decide ((bs.filter fun b => decide (b ∈ y)).length = k)).length : Int) := by
  obtain ⟨h1, h2⟩ := cm_code h
  have e := cmR_0 h1 h2
  have e1 : (cmR v bs).1 = cntC bs (allN v) (bs.length + 1) (allN v).length := by rw [e]
  rw [List.getElem_of_eq e1]
  simp only [cntC, List.getElem_map, List.getElem_range, List.take_length]
theorem cm_sum (h : (cmR v bs).2 = 0) : (cmR v bs).1.sum = (numN v : Int) := by
  obtain ⟨h1, h2⟩ := cm_code h
  rw [cmR_0 h1 h2, ← all_num h2.1]
  simp only [cntC, List.take_length]
  exact sum_cnt (fun y => (bs.filter fun b => decide (b ∈ y)).length) _ _ (fun y _ => by have := cmn_le (bs := bs) (q := y); omega)
theorem cm_own (h : (cmR v bs).2 = 0) (hk : bs.length < (cmR v bs).1.length) : (cmR v bs).1[bs.length] = 1 := by
  obtain ⟨h1, h2⟩ := cm_code h
  rw [cm_get h hk]
  have hm := few_mem h1 h2
  have hfl := few_len h2.1
  have hlb := few_left h2
  have e : ((allN v).filter fun y => decide ((bs.filter fun b => decide (b ∈ y)).length = bs.length)) = (allN v).filter fun y => decide (y = bs) := by
    refine List.filter_congr fun y hy => ?_
    have hc := comp_count _ _ _ _ hfl.2.2.1 hy
    have hs := comp_sorted _ _ _ _ hfl.2.2.1 hy
    rw [decide_eq_decide, ← cmn_comm (sts_lt h1) hs, common_all hs (sts_lt h1) (by omega)]
    exact eq_comm
  rw [e, one_filter (all_nodup h2.1) hm]
  rfl
theorem cm_none (h : (cmR v bs).2 = 0) (hk : 0 < (cmR v bs).1.length) : (0 < (cmR v bs).1[0] ↔ (apR v bs).2.2 = 0) := by
  obtain ⟨h1, h2⟩ := cm_code h
  rw [cm_get h hk]
  cases hf : firstA v bs with
  | none =>
    rw [apR_4 h1 h2 hf]
    have hno := List.find?_eq_none.1 hf
    have : ((allN v).filter fun y => decide ((bs.filter fun b => decide (b ∈ y)).length = 0)) = [] := by
      rw [List.filter_eq_nil_iff]
      intro y hy
      have h3 := hno y hy
      intro h4
      exact h3 (decide_eq_true (apart_I.1 (of_decide_eq_true h4)))
    rw [this]
    simp
  | some q =>
    rw [apR_0 h1 h2 hf]
    have hq := List.mem_of_find?_eq_some hf
    have hp := List.find?_some hf
    have : q ∈ (allN v).filter fun y => decide ((bs.filter fun b => decide (b ∈ y)).length = 0) := List.mem_filter.2 ⟨hq, decide_eq_true (apart_I.2 (of_decide_eq_true hp))⟩
    have := List.length_pos_of_mem this
    simp only [true_iff, iff_true]
    omega
theorem cm_bd (h : (cmR v bs).2 = 0) : ∀ x ∈ (cmR v bs).1, 0 ≤ x ∧ x ≤ 1000000 := by
  obtain ⟨h1, h2⟩ := cm_code h
  intro x hx
  obtain ⟨k, hk, rfl⟩ := List.getElem_of_mem hx
  rw [cm_get h hk]
  have := List.length_filter_le (fun y : List B3 => decide ((bs.filter fun b => decide (b ∈ y)).length = k)) (allN v)
  have := (few_len h2.1).1
  unfold allN at *
  omega
end
/-! ### Apart -/
/-- What both AreApart return. -/
noncomputable def aaC (v : Int) (bs : List B3) (u : Int) (cs : List B3) : Int := if STS v bs ∧ STS u cs then if v = u then 0 else 5 else 1
theorem aaC_1 {v u : Int} {bs cs : List B3} (h : ¬ (STS v bs ∧ STS u cs)) : aaC v bs u cs = 1 := by unfold aaC; rw [if_neg h]
theorem aaC_5 {v u : Int} {bs cs : List B3} (h1 : STS v bs) (h2 : STS u cs) (h : ¬ v = u) : aaC v bs u cs = 5 := by unfold aaC; rw [if_pos ⟨h1, h2⟩, if_neg h]
theorem aaC_0 {v u : Int} {bs cs : List B3} (h1 : STS v bs) (h2 : STS u cs) (h : v = u) : aaC v bs u cs = 0 := by unfold aaC; rw [if_pos ⟨h1, h2⟩, if_pos h]
theorem aaC_cases {v u : Int} {bs cs : List B3} : aaC v bs u cs = 0 ↔ STS v bs ∧ STS u cs ∧ v = u := by
  unfold aaC
  split
  · rename_i h
    split
    · rename_i h2; exact ⟨fun _ => ⟨h.1, h.2, h2⟩, fun _ => rfl⟩
    · rename_i h2; exact ⟨fun h => absurd h (by decide), fun h => absurd h.2.2 h2⟩
  · rename_i h; exact ⟨fun h => absurd h (by decide), fun h2 => absurd ⟨h2.1, h2.2.1⟩ h⟩
end Go.Vc
/-
  The calculus, part 25: numbers that are drawn from a code: words of 64 bits that wrap around, bytes, the source.
-/
namespace Go.Vc
open Go Go.RowKit
theorem wrapU (n : Nat) : IntKind.u64.wrap (n : Int) = ((n % 18446744073709551616 : Nat) : Int) := by
  simp only [IntKind.wrap, IntKind.bits, IntKind.signed, Bool.false_and, Bool.false_eq_true, if_false]
  omega
theorem dec_ne {p q : Prop} [Decidable p] [Decidable q] (h : p ↔ q) (c : (!decide p == decide q) = true) : False := by
  have e : decide p = decide q := decide_eq_decide.2 h
  rw [e] at c
  simp at c
/-- Bytes. -/
def U8C : Cod UInt8 := ⟨1, fun x => [.int .u8 (x.toNat : Int)], by decide, fun _ => rfl, fun _ u hu => by simp at hu; subst hu; rfl⟩
/-- Texts. -/
def StrC : Cod ByteArray := ⟨1, fun x => [.string x], by decide, fun _ => rfl, fun _ u hu => by simp at hu; subst hu; rfl⟩
section
variable {P : Program} {w0 w : World} {H : List Assn} {σ : Sig} {o : Oper} {T T2 : TypeId} {x y : Operand} {m n : Nat}
theorem Pu.mulU (ho : o.op = .binOp .mul T x y T2) (hx : ev σ x = some (.int .u64 (m : Int))) (hy : ev σ y = some (.int .u64 (n : Int))) : Pu P w0 o σ H (.int .u64 ((m * n % 18446744073709551616 : Nat) : Int)) := by
  have := Pu.mulW (P := P) (w0 := w0) (H := H) ho hx hy
  rwa [show (m : Int) * (n : Int) = ((m * n : Nat) : Int) by push_cast; rfl, wrapU] at this
theorem Pu.addU (ho : o.op = .binOp .add T x y T2) (hx : ev σ x = some (.int .u64 (m : Int))) (hy : ev σ y = some (.int .u64 (n : Int))) : Pu P w0 o σ H (.int .u64 (((m + n) % 18446744073709551616 : Nat) : Int)) := by
  have := Pu.add (P := P) (w0 := w0) (H := H) ho hx hy
  rwa [show (m : Int) + (n : Int) = ((m + n : Nat) : Int) by push_cast; rfl, wrapU] at this
theorem Pu.andU (hm : m < 18446744073709551616) (hn : n < 18446744073709551616) (ho : o.op = .binOp .and T x y T2) (hx : ev σ x = some (.int .u64 (m : Int))) (hy : ev σ y = some (.int .u64 (n : Int))) : Pu P w0 o σ H (.int .u64 ((m &&& n : Nat) : Int)) :=
  Pu.bin ho hx hy fun w => by
    have h1 : (BitVec.ofInt IntKind.u64.bits (m : Int) &&& BitVec.ofInt IntKind.u64.bits (n : Int)).toNat = m &&& n := by
      rw [BitVec.toNat_and, ofInt_nat (by show m < 2 ^ 64; omega), ofInt_nat (by show n < 2 ^ 64; omega)]
    have h2 : m &&& n < 18446744073709551616 := Nat.lt_of_le_of_lt Nat.and_le_left hm
    simp only [Go.binOp, Op.intBits, h1, wrap_u64 h2, ne_eq, not_true, if_false]
    rfl
theorem and_le_r {m n : Nat} : m &&& n ≤ n := Nat.and_le_right
end
/-- Two results that lie in memory. -/
theorem X.retCell22 {P : Program} {w0 : World} {H : List Assn} {σ : Sig} {N : Nat} {fn : Func} {t s n m : Nat} {T U : TypeId} {p q : Option Addr} {cs ds : List Value} {R : Value → List Assn} (hr : fn.results = #[.cell t T, .cell s U]) (hT : aggT P T = true) (hz : Sz P T n) (hl : cs.length = n) (hU : aggT P U = true) (hy : Sz P U m) (hm : ds.length = m) (ht : look σ t = some (.pointer p)) (hs' : look σ s = some (.pointer q))
    (hc : ∀ w, St w0 H w → ∃ a, p = some a ∧ ∀ j u, cs[j]? = some u → w.cell? (a.add j) = some u) (hd : ∀ w, St w0 H w → ∃ a, q = some a ∧ ∀ j u, ds[j]? = some u → w.cell? (a.add j) = some u) (hs : ∀ w, St w0 H w → St w0 (R (.tuple #[.agg cs.toArray, .agg ds.toArray])) w) :
    X N w0 (bodyPost P fn (fun e w' => ∃ v, e = .returned v ∧ St w0 (R v) w')) .ret σ H := by
  intro w hw a ha
  refine ⟨ha.defers, .tuple #[.agg cs.toArray, .agg ds.toArray], ?_, _, rfl, hs w hw⟩
  have h1 := ha.look_ t _ ht
  have h2 := ha.look_ s _ hs'
  obtain ⟨p, rfl, hp⟩ := hc w hw
  obtain ⟨q, rfl, hq⟩ := hd w hw
  subst hl
  subst hm
  have hrn := run_loadCells_list (P := P) (w := w) p cs hp
  have hrm := run_loadCells_list (P := P) (w := w) q ds hq
  simp [results, hr, h1, h2, asAddr, loadVar, run_isAgg_t hT, run_sz hz, run_isAgg_t hU, run_sz hy, hrn, hrm]
/-- One of three comes next. -/
theorem D.either3 {P : Program} {w0 : World} {Q : Exit → Act → World → Prop} {σ : Sig} {H : List Assn} {N : Nat} {ops : Array Oper} {Hs : List Assn} (hwf : wfB ops = true) {effs done : List Nat} {e1 e2 e3 : Nat} (hcl : closedL ops done [e1, e2, e3] = true) (h1 : Cand P N w0 ops Q effs done σ Hs H e1) (h2 : Cand P N w0 ops Q effs done σ Hs H e2) (h3 : Cand P N w0 ops Q effs done σ Hs H e3) : D P N w0 ops Q effs done σ Hs H := by
  refine D.effS hwf [e1, e2, e3] e1 (by simp) hcl ?_
  intro e he
  simp only [List.mem_cons, List.not_mem_nil, or_false] at he
  rcases he with rfl | rfl | rfl
  · exact h1
  · exact h2
  · exact h3
/-! ### append(s, ys...) where ys may be nil -/
section
variable {α : Type} {P : Program} {w0 w : World} {Q : Exit → Act → World → Prop} {H H' : List Assn} {σ : Sig} {o : Oper}
theorem Own.nilc {w : World} {T i c : Nat} {C : Cod α} {A : Option Addr} {xs : List α} (hw : St w0 H w) (hp : pull i H = Option.some (Own T C A c xs, H')) (hA : A = none) : xs.length = 0 ∧ c = 0 := by
  obtain ⟨F, ho, hF⟩ := hw.get i hp
  subst hA
  rcases ho.2 with ⟨h1, h2⟩ | ⟨g, cap, cur, hvv, _⟩
  · injection h1 with h3 h4 h5
    exact ⟨h2, h5⟩
  · injection hvv with h3
    cases h3
theorem Ef.appendN {T e sz bytes c c2 m : Nat} {x y : Operand} {z : Value} {C : Cod α} {A A2 : Option Addr} {xs ys : List α} (i : Nat) (ho : o.op = .call { callee := .builtin .append, args := #[x, y], argTypes := #[T, T] }) (hT : P.underlying T = some (.slice e)) (hi : Inf P e sz bytes z) (hs : sz = C.sz) (hzc : z.cells.size = sz)
    (hx : ev σ x = some (.slice A xs.length c)) (hy : ev σ y = some (.slice A2 m c2)) (hp : pull i H = some (Own e C A c xs, H')) (hm : m = ys.length) (hA2 : ∀ w, St w0 H w → A2 = none → ys.length = 0 ∧ c2 = 0) (hr : ∀ w, St w0 H w → Rd C w A2 ys) (hb : (xs.length + ys.length) * bytes ≤ 140737488355328) (hbp : 0 < bytes) :
    Ef P w0 o σ H Q (fun v H'' => ∃ A' c', v = .slice A' (xs ++ ys).length c' ∧ H'' = repl i H (Own e C A' c' (xs ++ ys)) ∧ (A.isSome = true ∨ 0 < ys.length → A'.isSome = true)) := by
  cases A2 with
  | some q => exact Ef.append i ho hT hi hs hzc hx hy hp hm rfl hr hb hbp
  | none =>
    refine Ef.mk fun w hw a ha => ?_
    have h1 := ha x (by simp [ho, Op.operands, Call.operands]) _ hx
    have h2 := ha y (by simp [ho, Op.operands, Call.operands]) _ hy
    obtain ⟨h3, h4⟩ := hA2 w hw rfl
    subst hs
    subst hm
    subst h4
    have hys : ys = [] := List.length_eq_zero_iff.1 h3
    subst hys
    obtain ⟨i0, hi1, hi2, hi3, hi4⟩ := hi.parts
    obtain ⟨F, hown, hF⟩ := hw.get i hp
    have hrun := run_append_owned_none (P := P) (w := w) 0 T o.type e i0 C.sz hT hi1 _ xs.length (xs.flatMap C.enc) hown
    refine ⟨.slice A xs.length c, w, by simp only [List.length_nil] at h2; simp [execOp, ho, resolve, invoke, builtin, h1, h2, hrun], repl i H (Own e C A c (xs ++ [])), ?_, A, c, by rw [List.append_nil], rfl, fun h => by rcases h with h | h; (· exact h); (· simp at h)⟩
    rw [List.append_nil]
    exact (hw.perm (pull_perm hp)).perm (repl_perm hp)
end
/-- The source: the code, how much of it is used, a word. -/
def SrcK (T : TypeId) (cA : Option Addr) (cc : Nat) (code : List UInt8) (s : Nat) : Assn :=
  .exi fun q : Nat × Nat => .sep (.pur (q.1 ≤ code.length ∧ q.2 < 18446744073709551616)) (Blk s [.slice cA code.length cc, .int .i64 (q.1 : Int), .int .u64 (q.2 : Int)] T)
section
variable {P : Program} {N : Nat} {w0 w : World} {Q : Exit → Act → World → Prop} {σ : Sig} {H H' : List Assn} {T : TypeId} {cA : Option Addr} {cc s : Nat} {code : List UInt8}
theorem SrcK.elim (hw : St w0 (SrcK T cA cc code s :: H) w) : ∃ a h : Nat, (a ≤ code.length ∧ h < 18446744073709551616) ∧ St w0 (Blk s [.slice cA code.length cc, .int .i64 (a : Int), .int .u64 (h : Int)] T :: H) w := by
  obtain ⟨q, hw⟩ := hw.exi
  have h := hw.sep.pur
  exact ⟨q.1, q.2, h.1, h.2⟩
theorem SrcK.mk {a h : Nat} (hp : a ≤ code.length ∧ h < 18446744073709551616) (hw : St w0 (Blk s [.slice cA code.length cc, .int .i64 (a : Int), .int .u64 (h : Int)] T :: H) w) : St w0 (SrcK T cA cc code s :: H) w :=
  St.mkExi (a, h) (St.unsep (St.addPur hp hw))
theorem V.srcK {c : Code} (h : ∀ a h : Nat, a ≤ code.length → h < 18446744073709551616 → V P N w0 c Q σ (Blk s [.slice cA code.length cc, .int .i64 (a : Int), .int .u64 (h : Int)] T :: H)) : V P N w0 c Q σ (SrcK T cA cc code s :: H) := by
  intro w hw
  obtain ⟨a, h', h1, h2⟩ := SrcK.elim hw
  exact h a h' h1.1 h1.2 w h2
end
end Go.Vc
/-
  Plain words: systems that are drawn: their blocks are blocks.
-/
namespace Go.Vc
open Go
/-- A list of blocks on 3 to 15 points. -/
def DrS (n : Nat) (v : Int) (bs : List B3) : Prop := (3 ≤ v ∧ v ≤ 15) ∧ (∀ b ∈ bs, good v b) ∧ bs.length ≤ n
theorem DrS.mono {n m : Nat} {v : Int} {bs : List B3} (h : DrS n v bs) (hm : n ≤ m) : DrS m v bs := ⟨h.1, h.2.1, Nat.le_trans h.2.2 hm⟩
theorem DrS.perm {n : Nat} {v : Int} {bs cs : List B3} (h : DrS n v bs) (hp : cs.Perm bs) : DrS n v cs := ⟨h.1, fun b hb => h.2.1 b (hp.mem_iff.1 hb), by rw [hp.length_eq]; exact h.2.2⟩
theorem DrS.g15 {n : Nat} {v : Int} {bs : List B3} (h : DrS n v bs) : ∀ b ∈ bs, good 15 b := fun b hb => (h.2.1 b hb).mono h.1.2
/-- The numbers below n, each once. -/
def OrdP (n : Int) (p : List Int) : Prop := (p.length : Int) = n ∧ p.Nodup ∧ ∀ q ∈ p, 0 ≤ q ∧ q < n
theorem ord_nil : OrdP 0 [] := ⟨rfl, List.nodup_nil, fun q h => by simp at h⟩
theorem ord_ins {p : List Int} {k i : Nat} (h : OrdP (i : Int) p) : OrdP ((i + 1 : Nat) : Int) (p.take k ++ [(i : Int)] ++ p.drop k) := by
  have hp : (p.take k ++ [(i : Int)] ++ p.drop k).Perm ((i : Int) :: p) := by
    rw [List.append_assoc]
    have h1 : (p.take k ++ ([(i : Int)] ++ p.drop k)).Perm ((i : Int) :: (p.take k ++ p.drop k)) := List.perm_middle
    rwa [List.take_append_drop] at h1
  refine ⟨?_, ?_, fun q hq => ?_⟩
  · have h1 := h.1
    have h2 := hp.length_eq
    rw [List.length_cons] at h2
    omega
  · rw [hp.nodup_iff, List.nodup_cons]
    exact ⟨fun hm => by have := (h.2.2 _ hm).2; omega, h.2.1⟩
  · rcases List.mem_cons.1 (hp.mem_iff.1 hq) with rfl | hq
    · omega
    · have := h.2.2 q hq; omega
theorem good_bk3 {v a b c : Int} (ha : 0 ≤ a ∧ a < v) (hb : 0 ≤ b ∧ b < v) (hc : 0 ≤ c ∧ c < v) (h1 : a ≠ b) (h2 : a ≠ c) (h3 : b ≠ c) : good v (bk3 a b c) := by
  unfold good bk3 mi3 lo3 hi3
  simp only
  omega
theorem ord_ne {n : Int} {p : List Int} (h : OrdP n p) {i j : Nat} (hi : i < p.length) (hj : j < p.length) (hij : i ≠ j) : p[i] ≠ p[j] := fun e => hij ((List.getElem_inj h.2.1).1 e)
theorem ord_at {n : Int} {p : List Int} (h : OrdP n p) {i : Nat} (hi : i < p.length) : 0 ≤ p[i] ∧ p[i] < n := h.2.2 _ (List.getElem_mem hi)
theorem good_ren {v : Int} {p : List Int} (h : OrdP v p) {b : B3} (hb : good v b) : good v (renB p b) := by
  have hl := h.1
  unfold good at hb
  unfold renB
  rw [getD_at (by omega), getD_at (by omega), getD_at (by omega)]
  exact good_bk3 (ord_at h _) (ord_at h _) (ord_at h _) (ord_ne h _ _ (by omega)) (ord_ne h _ _ (by omega)) (ord_ne h _ _ (by omega))
theorem DrS.ren {n : Nat} {v : Int} {bs cs : List B3} {p : List Int} (h : DrS n v bs) (ho : OrdP v p) (hp : cs.Perm (bs.map (renB p))) : DrS n v cs := by
  refine ⟨h.1, fun b hb => ?_, by rw [hp.length_eq, List.length_map]; exact h.2.2⟩
  obtain ⟨d, hd, rfl⟩ := List.mem_map.1 (hp.mem_iff.1 hb)
  exact good_ren ho (h.2.1 d hd)
theorem third_good {v : Int} {bs : List B3} (hg : ∀ d ∈ bs, good v d) {a b : Int} (hab : a ≠ b) (h : ¬ third bs a b < 0) : (0 ≤ third bs a b ∧ third bs a b < v) ∧ third bs a b ≠ a ∧ third bs a b ≠ b := by
  unfold third at *
  split at h
  · exact absurd (by decide) h
  · rename_i hn
    rw [if_neg hn]
    unfold num at *
    obtain ⟨i, hi, q1, q2, _⟩ := idxP_at (p := fun c => has c a ∧ has c b) (xs := bs) (fun e => hn (by rw [e]; decide))
    rw [q1] at h ⊢
    rw [blk_get hi] at h ⊢
    have hgi := hg _ (List.getElem_mem hi)
    unfold good at hgi
    unfold has at q2
    omega
theorem DrS.cut {n : Nat} {v : Int} {bs cs : List B3} (h : DrS n v bs) {i : Nat} (hc : cs = bs.take i ++ bs.drop (i + 1)) : DrS n v cs := by
  subst hc
  refine ⟨h.1, fun b hb => ?_, ?_⟩
  · rcases List.mem_append.1 hb with hb | hb
    · exact h.2.1 b (List.mem_of_mem_take hb)
    · exact h.2.1 b (List.mem_of_mem_drop hb)
  · have := h.2.2
    rw [List.length_append, List.length_take, List.length_drop]
    omega
/-- The names of systems. -/
def nmL : List ByteArray := [ByteArray.mk #[115, 105, 110, 103, 108, 101], ByteArray.mk #[102, 97, 110, 111], ByteArray.mk #[97, 102, 102, 105, 110, 101], ByteArray.mk #[99, 121, 99, 108, 105, 99, 49, 51], ByteArray.mk #[99, 121, 99, 108, 105, 99, 49, 53], ByteArray.mk #[112, 114, 111, 106, 101, 99, 116, 105, 118, 101, 49, 53]]
theorem nm4 : ∀ x ∈ ([ByteArray.mk #[115, 105, 110, 103, 108, 101], ByteArray.mk #[102, 97, 110, 111], ByteArray.mk #[102, 97, 110, 111], ByteArray.mk #[97, 102, 102, 105, 110, 101]] : List ByteArray), x ∈ nmL := by
  intro x hx
  unfold nmL
  simp only [List.mem_cons, List.not_mem_nil, or_false] at hx ⊢
  rcases hx with h | h | h | h <;> simp [h]
theorem good_snoc {v : Int} {bs : List B3} (h : ∀ b ∈ bs, good v b) {d : B3} (hd : good v d) : ∀ b ∈ bs ++ [d], good v b := fun b hb => by
  rcases List.mem_append.1 hb with hb | hb
  · exact h b hb
  · rw [List.mem_singleton.1 hb]; exact hd
section
variable {P : Program} {w0 w : World} {H : List Assn} {σ : Sig} {o : Oper} {T T2 : TypeId} {x y : Operand} {m n : Nat}
theorem xor_lt {m n : Nat} (h : m < 9223372036854775808) (h' : n < 9223372036854775808) : m ^^^ n < 9223372036854775808 := Nat.xor_lt_two_pow (n := 63) h h'
theorem Pu.xor {k : IntKind} (hk : K64 k) (hm : m < 9223372036854775808) (hn : n < 9223372036854775808) (ho : o.op = .binOp .xor T x y T2) (hx : ev σ x = some (.int k (m : Int))) (hy : ev σ y = some (.int k (n : Int))) : Pu P w0 o σ H (.int k ((m ^^^ n : Nat) : Int)) :=
  Pu.bin ho hx hy fun w => by
    have h1 : (BitVec.ofInt k.bits (m : Int) ^^^ BitVec.ofInt k.bits (n : Int)).toNat = m ^^^ n := by
      rw [BitVec.toNat_xor, ofInt_nat (by rw [hk.bits]; omega), ofInt_nat (by rw [hk.bits]; omega)]
    simp only [Go.binOp, Op.intBits, h1, hk.wrap (xor_lt hm hn), ne_eq, not_true, if_false]
    rfl
end
end Go.Vc
/-
  The calculus, part 26: bytes as a statement's argument.
-/
namespace Go.Vc
open Go Go.RowKit Go.ChangeShapes Go.WideShapes
section
variable {H : Type} {enc : TypeId × Value → H} {P : Program} {w : World} {base : Nat} {spare : Nat → Bool} {held : Bool}
theorem open_bytes {t e : TypeId} {fuel : Nat} {cs : List Value} {x : DataW H × List MemPlace} (ht : P.underlying t = some (.slice e)) (he : P.underlying e = some (.int .u8)) (ce : P.cellsOf e = 1)
    (h : DataW.trod enc P w base spare held fuel t cs = some x) : ∃ (A : Option Addr) (c : Nat) (bs : List UInt8), cs = [.slice A bs.length c] ∧ bs.length ≤ 9223372036854775807 ∧ Rd U8C w A bs := by
  rcases Deep.open_slice ht h with ⟨rfl, _⟩ | ⟨a, len, cap, m, n, D, Pl, rfl, hb, hl, hm, hmm, _, hx⟩
  · exact ⟨none, 0, [], rfl, by simp, Rd.nil _ _ _⟩
  · have hlm : len ≤ m := by rw [hmm]; split <;> omega
    have each : ∀ i, i < len → ∃ b : UInt8, w.cells? base (a.add (i * U8C.sz)) U8C.sz = some (U8C.enc b) := by
      intro j hj
      obtain ⟨cs', h1, h2⟩ := hx j (by omega)
      obtain ⟨n, e0, _, hv⟩ := DataW.trod_int he h2
      subst e0
      simp [Lit.wf, IntKind.min, IntKind.max, IntKind.signed, IntKind.bits] at hv
      rw [ce] at h1
      refine ⟨UInt8.ofNat n.toNat, ?_⟩
      have e : ((UInt8.ofNat n.toNat).toNat : Int) = n := by
        rw [UInt8.toNat_ofNat']
        omega
      have e2 : U8C.enc (UInt8.ofNat n.toNat) = [.int .u8 n] := by
        show [Value.int .u8 ((UInt8.ofNat n.toNat).toNat : Int)] = _
        rw [e]
      rw [e2]
      exact h1
    obtain ⟨bs, hbl, hr⟩ := rd_of_cells each
    subst hbl
    simp only [maxLen] at hm
    exact ⟨some a, cap, bs, rfl, by omega, hr⟩
end
end Go.Vc
