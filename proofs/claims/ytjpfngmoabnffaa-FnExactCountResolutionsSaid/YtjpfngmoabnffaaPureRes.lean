/-
  Plain words: resolutions, by the numbers of their classes in a list.
-/
import Derived.Test.YtjpfngmoabnffaaPureCls
import Derived.Test.YtjpfngmoabnffaaPureSet
import Derived.Test.YtjpfngmoabnffaaVcRows
set_option linter.unusedVariables false
set_option linter.unusedSimpArgs false
namespace Go.Vc

/-- Class j may come next, with the blocks that are left. -/
def okC (cl : List (List Int)) (left : List Int) (j : Nat) : Prop := (cl.getD j []).head? = left.head? ∧ ∀ k ∈ cl.getD j [], k ∈ left
noncomputable instance (cl : List (List Int)) (left : List Int) (j : Nat) : Decidable (okC cl left j) := Classical.propDecidable _
/-- The blocks that are left behind it. -/
def lessL (left c : List Int) : List Int := left.filter fun x => !decide (x ∈ c)
open Classical in
/-- All resolutions that go on, by the numbers of their classes. -/
noncomputable def resN (cl : List (List Int)) : Nat → List Int → List (List Nat)
  | 0, left => if left = [] then [[]] else []
  | n + 1, left => if left = [] then [[]] else (List.range cl.length).flatMap fun j => if okC cl left j then (resN cl n (lessL left (cl.getD j []))).map (j :: ·) else []
/-- .. of the first classes. -/
noncomputable def resJ (cl : List (List Int)) (n : Nat) (left : List Int) (j : Nat) : List (List Nat) := (List.range j).flatMap fun j => if okC cl left j then (resN cl n (lessL left (cl.getD j []))).map (j :: ·) else []
section
variable {cl : List (List Int)} {left : List Int} {n j m : Nat}
theorem resN_nil : resN cl n [] = [[]] := by cases n <;> simp [resN]
theorem resN_step (h : left ≠ []) : resN cl (n + 1) left = resJ cl n left cl.length := by simp [resN, resJ, h]
theorem resJ_zero : resJ cl n left 0 = [] := rfl
theorem resJ_yes (h : okC cl left j) : resJ cl n left (j + 1) = resJ cl n left j ++ (resN cl n (lessL left (cl.getD j []))).map (j :: ·) := by
  unfold resJ
  rw [List.range_succ, List.flatMap_append]
  simp [h]
theorem resJ_no (h : ¬ okC cl left j) : resJ cl n left (j + 1) = resJ cl n left j := by
  unfold resJ
  rw [List.range_succ, List.flatMap_append]
  simp [h]
theorem resJ_prefix {i : Nat} (h : i ≤ j) : resJ cl n left i <+: resJ cl n left j := by
  induction j with
  | zero => have : i = 0 := by omega
            subst this; exact List.prefix_refl _
  | succ j ih =>
    by_cases e : i = j + 1
    · subst e; exact List.prefix_refl _
    · refine (ih (by omega)).trans ?_
      by_cases hk : okC cl left j
      · rw [resJ_yes hk]; exact List.prefix_append _ _
      · rw [resJ_no hk]; exact List.prefix_refl _
theorem resJ_full (hj : j ≤ cl.length) (hm : m ≤ (resJ cl n left j).length) : (resJ cl n left cl.length).take m = (resJ cl n left j).take m := by
  obtain ⟨t, ht⟩ := resJ_prefix (cl := cl) (n := n) (left := left) hj
  rw [← ht, List.take_append_of_le_length hm]
theorem lessL_len {c : List Int} (hl : left ≠ []) (h : c.head? = left.head?) : (lessL left c).length < left.length := by
  cases left with
  | nil => exact absurd rfl hl
  | cons x l =>
    cases c with
    | nil => simp at h
    | cons y c =>
      simp only [List.head?_cons, Option.some.injEq] at h
      subst h
      unfold lessL
      rw [List.filter_cons_of_neg (by simp)]
      have := List.length_filter_le (fun z => !decide (z ∈ y :: c)) l
      simp only [List.length_cons]
      omega
theorem take_step {α β : Type} {R A : List α} {f : α → β} {B C : List β} {m k : Nat} (h : B = C ++ (R.take m).map f) (hl : B.length < C.length + m) (hk : k = C.length + m - B.length) : B ++ (A.take k).map f = C ++ ((R ++ A).take m).map f := by
  have h1 : B.length = C.length + min m R.length := by rw [h]; simp
  have h2 : R.length < m := by omega
  have h3 : R.take m = R := List.take_of_length_le (by omega)
  rw [h3] at h
  rw [h, List.take_append, h3, List.map_append, List.append_assoc]
  congr 4
  omega
theorem resJ_stop {β : Type} {f : List Nat → β} {B C : List β} {m : Nat} {n j : Nat} {left : List Int} (h : B = C ++ ((resJ cl n left j).take m).map f) (hl : C.length + m ≤ B.length) (hj : j ≤ cl.length) : B = C ++ ((resJ cl n left cl.length).take m).map f := by
  rw [h, resJ_full hj]
  have h1 : B.length = C.length + min m (resJ cl n left j).length := by rw [h]; simp
  omega
theorem okC_of {c : List Int} (hc : cl.getD j [] = c) (h0 : 0 < c.length) (hl : 0 < left.length) (e : c[0] = left[0]) (hn : ¬ ∃ i ∈ c, ¬ i ∈ left) : okC cl left j := by
  unfold okC
  rw [hc]
  refine ⟨?_, fun k hk => ?_⟩
  · rw [List.head?_eq_getElem?, List.head?_eq_getElem?, List.getElem?_eq_getElem h0, List.getElem?_eq_getElem hl, e]
  · by_cases h : k ∈ left
    · exact h
    · exact absurd ⟨k, hk, h⟩ hn
theorem okC_not1 {c : List Int} (hc : cl.getD j [] = c) (h0 : 0 < c.length) (hl : 0 < left.length) (e : ¬ c[0] = left[0]) : ¬ okC cl left j := by
  unfold okC
  rw [hc]
  rintro ⟨h, _⟩
  rw [List.head?_eq_getElem?, List.head?_eq_getElem?, List.getElem?_eq_getElem h0, List.getElem?_eq_getElem hl] at h
  exact e (Option.some.inj h)
theorem okC_not2 {c : List Int} (hc : cl.getD j [] = c) (hn : ∃ i ∈ c, ¬ i ∈ left) : ¬ okC cl left j := by
  unfold okC
  rw [hc]
  rintro ⟨_, h⟩
  obtain ⟨i, hi, h2⟩ := hn
  exact h2 (h i hi)
/-- The slices of a list of numbers of classes. -/
def topJ (tp : List Sl) (js : List Nat) : List Sl := js.map fun j => tp.getD j ⟨none, 0, 0⟩
theorem topJ_cons (tp : List Sl) (j : Nat) (js : List Nat) : topJ tp (j :: js) = tp.getD j ⟨none, 0, 0⟩ :: topJ tp js := rfl
theorem resN_pos (h : 0 < left.length) (hn : left.length ≤ n) : resN cl n left = resJ cl (n - 1) left cl.length := by
  obtain ⟨n, rfl⟩ : ∃ k, n = k + 1 := ⟨n - 1, by omega⟩
  rw [resN_step (by intro e; subst e; simp at h)]
  rfl
theorem res_step {tp : List Sl} {k : Nat} {co cout cr : List (List Sl)} {now nw : List Sl} {r1 : List Int} {cc : Sl} (hok : okC cl left j) (ho : co = cout ++ ((resJ cl n left j).take m).map (fun q => now ++ topJ tp q)) (hl : co.length < cout.length + m) (hk : k = cout.length + m - co.length) (hr1 : r1 = lessL left (cl.getD j [])) (hnw : nw = now ++ [cc]) (hcc : tp.getD j ⟨none, 0, 0⟩ = cc) (hcr : cr = co ++ ((resN cl n r1).take k).map (fun q => nw ++ topJ tp q)) : cr = cout ++ ((resJ cl n left (j + 1)).take m).map (fun q => now ++ topJ tp q) := by
  rw [resJ_yes hok, ← take_step (A := (resN cl n (lessL left (cl.getD j []))).map (j :: ·)) ho hl hk, hcr, hr1, ← List.map_take, List.map_map, hnw, ← hcc]
  congr 2
  funext q
  simp [topJ_cons]
theorem topJ_get {classes : List (Sl × List Int)} (hj : j < classes.length) (hn : LenOk classes) : (tops classes).getD j ⟨none, 0, 0⟩ = ⟨(classes[j]).1.A, (classes[j]).2.length, (classes[j]).1.c⟩ := by
  have h1 : j < (tops classes).length := by rw [tops_len]; exact hj
  rw [List.getD_eq_getElem?_getD, List.getElem?_eq_getElem h1, Option.getD_some, tops_get]
  have h2 := (hn _ (List.getElem_mem hj)).1
  rw [← h2]
/-- The numbers of the blocks that are such. -/
def numsAt (p : B3 → Prop) [DecidablePred p] (bs : List B3) (i : Nat) : List Int := ((List.range i).filter fun j => decide (p (bs.getD j (0, 0, 0)))).map fun (j : Nat) => (j : Int)
end
section
variable {p : B3 → Prop} [DecidablePred p] {bs : List B3} {i : Nat}
theorem numsAt_yes (hi : i < bs.length) (h : p bs[i]) : numsAt p bs (i + 1) = numsAt p bs i ++ [(i : Int)] := by
  have e : bs[i]?.getD (0, 0, 0) = bs[i] := by simp [hi]
  unfold numsAt
  rw [List.range_succ, List.filter_append, List.map_append]
  congr 1
  simp [List.filter_cons, e, h]
theorem numsAt_no (hi : i < bs.length) (h : ¬ p bs[i]) : numsAt p bs (i + 1) = numsAt p bs i := by
  have e : bs[i]?.getD (0, 0, 0) = bs[i] := by simp [hi]
  unfold numsAt
  rw [List.range_succ, List.filter_append, List.map_append]
  simp [List.filter_cons, e, h]
theorem numsAt_len : (numsAt p bs i).length ≤ i := by
  unfold numsAt
  rw [List.length_map]
  exact Nat.le_trans (List.length_filter_le _ _) (by simp)
end
/-! ### The blocks that are left, by bits -/
def leftM (m len : Nat) : List Int := ((List.range len).filter fun i => !m.testBit i).map fun (i : Nat) => (i : Int)
theorem mem_leftM {m len : Nat} {k : Int} : k ∈ leftM m len ↔ 0 ≤ k ∧ k < len ∧ m.testBit k.toNat = false := by
  unfold leftM
  simp only [List.mem_map, List.mem_filter, List.mem_range, Bool.not_eq_true']
  constructor
  · rintro ⟨i, ⟨h1, h2⟩, rfl⟩
    exact ⟨by omega, by omega, by simpa using h2⟩
  · rintro ⟨h1, h2, h3⟩
    exact ⟨k.toNat, ⟨by omega, h3⟩, by omega⟩
theorem leftM_len (m len : Nat) : (leftM m len).length ≤ len := by
  unfold leftM
  rw [List.length_map]
  exact Nat.le_trans (List.length_filter_le _ _) (by simp)
theorem leftM_nil {m len : Nat} (h : ∀ i, i < len → m.testBit i = true) : leftM m len = [] := by
  unfold leftM
  rw [List.map_eq_nil_iff, List.filter_eq_nil_iff]
  intro i hi
  simp [h i (List.mem_range.1 hi)]
theorem leftM_head {m len b : Nat} (hb : b < len) (h0 : m.testBit b = false) (h : ∀ i, i < b → m.testBit i = true) : (leftM m len).head? = some (b : Int) := by
  unfold leftM
  have e : List.range len = List.range b ++ b :: (List.range (len - b - 1)).map (b + 1 + ·) := by
    have h1 : len = b + (1 + (len - b - 1)) := by omega
    conv => lhs; rw [h1]
    rw [List.range_add, List.range_add]
    simp [List.range_succ, Nat.add_assoc, Nat.add_comm, Nat.add_left_comm]
  have h2 : (List.range b).filter (fun i => !m.testBit i) = [] := by
    rw [List.filter_eq_nil_iff]
    intro i hi
    simp [h i (List.mem_range.1 hi)]
  rw [e, List.filter_append, h2, List.nil_append, List.filter_cons]
  simp [h0]
theorem leftM_zero (len : Nat) : leftM 0 len = (List.range len).map fun (i : Nat) => (i : Int) := by
  unfold leftM
  congr 1
  rw [List.filter_eq_self]
  intro i _
  simp
theorem numsAt_all (bs : List B3) (i : Nat) : numsAt (fun _ => True) bs i = leftM 0 i := by
  rw [leftM_zero]
  unfold numsAt
  congr 1
  rw [List.filter_eq_self]
  intro i _
  simp
theorem maskL_bit {xs : List Int} (h : ∀ p ∈ xs, 0 ≤ p) (q : Nat) : (maskL xs).testBit q = true ↔ (q : Int) ∈ xs := by
  have key : ∀ (xs : List Int) (m : Nat), (∀ p ∈ xs, 0 ≤ p) → ((xs.foldl (fun m p => m ||| 2 ^ p.toNat) m).testBit q = true ↔ m.testBit q = true ∨ (q : Int) ∈ xs) := by
    intro xs
    induction xs with
    | nil => intro m _; simp
    | cons x xs ih =>
      intro m hx
      rw [List.foldl_cons, ih _ (fun p hp => hx p (by simp [hp]))]
      have := hx x (by simp)
      simp only [Nat.testBit_or, Nat.testBit_two_pow, Bool.or_eq_true, decide_eq_true_eq, List.mem_cons, or_assoc]
      have e : x.toNat = q ↔ (q : Int) = x := by omega
      rw [e]
  unfold maskL
  rw [key xs 0 h]
  simp
theorem maskL_lt' {xs : List Int} {n : Nat} (h : ∀ p ∈ xs, 0 ≤ p ∧ p < n) : maskL xs < 2 ^ n := by
  have key : ∀ (xs : List Int) (m : Nat), m < 2 ^ n → (∀ p ∈ xs, 0 ≤ p ∧ p < n) → xs.foldl (fun m p => m ||| 2 ^ p.toNat) m < 2 ^ n := by
    intro xs
    induction xs with
    | nil => intro m hm _; exact hm
    | cons x xs ih =>
      intro m hm hx
      rw [List.foldl_cons]
      have := hx x (by simp)
      exact ih _ (Nat.or_lt_two_pow hm (Nat.pow_lt_pow_right (by decide) (by omega))) (fun p hp => hx p (by simp [hp]))
  exact key xs 0 (Nat.two_pow_pos n) h
theorem leftM_or {m len : Nat} {c : List Int} (h : ∀ p ∈ c, 0 ≤ p) : leftM (m ||| maskL c) len = lessL (leftM m len) c := by
  unfold leftM lessL
  rw [List.filter_map, List.filter_filter]
  congr 1
  refine List.filter_congr fun i _ => ?_
  simp only [Nat.testBit_or, Function.comp, Bool.not_or]
  rw [Bool.and_comm]
  congr 1
  cases hb : (maskL c).testBit i with
  | true => simp [(maskL_bit h i).1 hb]
  | false =>
    have : ¬ (i : Int) ∈ c := fun hm => by rw [(maskL_bit h i).2 hm] at hb; cases hb
    simp [this]
theorem okC_mask {cl : List (List Int)} {m len b j : Nat} {c : List Int} (hc : cl.getD j [] = c) (h0 : 0 < c.length) (hix : ∀ p ∈ c, 0 ≤ p ∧ p < len) (hh : (leftM m len).head? = some (b : Int)) : okC cl (leftM m len) j ↔ c[0] = (b : Int) ∧ maskL c &&& m = 0 := by
  unfold okC
  rw [hc, hh, List.head?_eq_getElem?, List.getElem?_eq_getElem h0, Option.some_inj, and_zero]
  refine and_congr Iff.rfl ⟨fun h p hp => ?_, fun h k hk => ?_⟩
  · have h1 := (maskL_bit (fun p hp => (hix p hp).1) p).1 hp.1
    have h2 := (mem_leftM.1 (h _ h1)).2.2
    simp only [Int.toNat_natCast] at h2
    rw [h2] at hp
    exact Bool.noConfusion hp.2
  · obtain ⟨h1, h2⟩ := hix k hk
    refine mem_leftM.2 ⟨h1, h2, ?_⟩
    cases hb : m.testBit k.toNat with
    | false => rfl
    | true =>
      have h3 := (maskL_bit (fun p hp => (hix p hp).1) k.toNat).2 (by rw [Int.toNat_of_nonneg h1]; exact hk)
      exact absurd ⟨h3, hb⟩ (h k.toNat)
theorem resN_ix : ∀ {n : Nat} {left : List Int} {q : List Nat} {cl : List (List Int)}, q ∈ resN cl n left → ∀ j ∈ q, j < cl.length := by
  intro n
  induction n with
  | zero => intro left q cl h j hj; unfold resN at h; split at h <;> simp at h; subst h; simp at hj
  | succ n ih =>
    intro left q cl h j hj
    unfold resN at h
    split at h
    · simp at h; subst h; simp at hj
    · simp only [List.mem_flatMap, List.mem_range] at h
      obtain ⟨i, hi, h⟩ := h
      split at h
      · obtain ⟨q', h1, rfl⟩ := List.mem_map.1 h
        rcases List.mem_cons.1 hj with rfl | hj
        · exact hi
        · exact ih h1 j hj
      · simp at h
/-- The lists that numbers of classes lead to. -/
def psJ (cl : List (Sl × List Int)) (q : List Nat) : List (Sl × List Int) := q.map fun j => cl.getD j (⟨none, 0, 0⟩, [])
theorem psJ_tops (cl : List (Sl × List Int)) (q : List Nat) : tops (psJ cl q) = topJ (tops cl) q := by
  unfold tops psJ topJ
  rw [List.map_map]
  refine List.map_congr_left fun j _ => ?_
  simp only [Function.comp, List.getD_eq_getElem?_getD, List.getElem?_map]
  cases cl[j]? <;> rfl
theorem psJ_conts (cl : List (Sl × List Int)) (q : List Nat) : conts (psJ cl q) = q.map fun j => (conts cl).getD j [] := by
  unfold conts psJ
  rw [List.map_map]
  refine List.map_congr_left fun j _ => ?_
  simp only [Function.comp, List.getD_eq_getElem?_getD, List.getElem?_map]
  cases cl[j]? <;> rfl
theorem psJ_mem {cl : List (Sl × List Int)} {q : List Nat} (hq : ∀ j ∈ q, j < cl.length) : ∀ p ∈ psJ cl q, p ∈ cl := by
  intro p hp
  obtain ⟨j, hj, rfl⟩ := List.mem_map.1 hp
  have := hq j hj
  rw [List.getD_eq_getElem?_getD, List.getElem?_eq_getElem this, Option.getD_some]
  exact List.getElem_mem _
theorem RdL.psJ {w : Go.World} {A : Option Go.Addr} {cl : List (Sl × List Int)} {q : List Nat} (htop : Rd SlC w A (topJ (tops cl) q)) (hn : LenOk cl) (hr : ∀ p ∈ cl, Rd I64 w p.1.A p.2) (hq : ∀ j ∈ q, j < cl.length) : RdL I64 w A (Vc.psJ cl q) :=
  ⟨by rw [psJ_tops]; exact htop, fun p hp => hn p (psJ_mem hq p hp), fun k hk => hr _ (psJ_mem hq _ (List.getElem_mem hk))⟩
def RSol (v : Int) (bs : List B3) (most : Nat) (cl : List (Sl × List Int)) (rs : List (List Sl)) (code : Int) : Prop :=
  (¬ STS v bs → code = 1 ∧ rs = []) ∧ (STS v bs → IsList (Cls v bs) (conts cl) ∧ ((80 < cl.length ∧ code = 3 ∧ rs = []) ∨ (cl.length ≤ 80 ∧ code = 0 ∧ rs = ((resN (conts cl) bs.length (leftM 0 bs.length)).take most).map (topJ (tops cl)))))
/-- What comes first. -/
theorem rsol_first {v : Int} {bs : List B3} {most : Nat} {cl : List (Sl × List Int)} {rs : List (List Sl)} {code : Int} (h : RSol v bs most cl rs code) (hm : 0 < most) (hc : code = 0) (hr : 0 < rs.length) : STS v bs ∧ IsList (Cls v bs) (conts cl) ∧ cl.length ≤ 80 ∧ ∃ q r, resN (conts cl) bs.length (leftM 0 bs.length) = q :: r ∧ rs[0] = topJ (tops cl) q ∧ ∀ j ∈ q, j < cl.length := by
  by_cases hS : STS v bs
  · obtain ⟨h1, h2⟩ := h.2 hS
    rcases h2 with ⟨_, h3, _⟩ | ⟨h2, _, h3⟩
    · omega
    · cases hres : resN (conts cl) bs.length (leftM 0 bs.length) with
      | nil => rw [hres] at h3; simp at h3; subst h3; simp at hr
      | cons q r =>
        rw [hres] at h3
        obtain ⟨m, rfl⟩ : ∃ m, most = m + 1 := ⟨most - 1, by omega⟩
        refine ⟨hS, h1, h2, q, r, rfl, by subst h3; rfl, fun j hj => ?_⟩
        have := resN_ix (cl := conts cl) (n := bs.length) (left := leftM 0 bs.length) (q := q) (by rw [hres]; simp) j hj
        rwa [conts_len] at this
  · have := (h.1 hS).1
    omega
/-! ### The results -/
def CRes (v : Int) (bs : List B3) (n code : Int) : Prop :=
  (¬ STS v bs → n = 0 ∧ code = 1) ∧ (STS v bs → ∃ cl, IsList (Cls v bs) cl ∧ ((80 < cl.length ∧ n = 0 ∧ code = 3) ∨ (cl.length ≤ 80 ∧ 300 < (resN cl bs.length (leftM 0 bs.length)).length ∧ n = 0 ∧ code = 3) ∨ (cl.length ≤ 80 ∧ (resN cl bs.length (leftM 0 bs.length)).length ≤ 300 ∧ n = (resN cl bs.length (leftM 0 bs.length)).length ∧ code = 0)))
theorem CRes.unique {v : Int} {bs : List B3} {n n' code code' : Int} (h1 : CRes v bs n code) (h2 : CRes v bs n' code') : n' = n ∧ code' = code := by
  by_cases h : STS v bs
  · obtain ⟨l, a1, a2⟩ := h1.2 h
    obtain ⟨m, b1, b2⟩ := h2.2 h
    have e := a1.unique b1
    subst e
    omega
  · have := h1.1 h
    have := h2.1 h
    omega
noncomputable def fres (bs : List B3) (cl : List (List Int)) : List (List Int) × Int :=
  if 80 < cl.length then ([], 3) else match resN cl bs.length (leftM 0 bs.length) with
    | [] => ([], 4)
    | q :: _ => (q.map (fun j => cl.getD j []), 0)
def FRes (v : Int) (bs : List B3) (ls : List (List Int)) (code : Int) : Prop :=
  (¬ STS v bs → ls = [] ∧ code = 1) ∧ (STS v bs → ∃ cl, IsList (Cls v bs) cl ∧ (ls, code) = fres bs cl)
theorem FRes.unique {v : Int} {bs : List B3} {ls ls' : List (List Int)} {code code' : Int} (h1 : FRes v bs ls code) (h2 : FRes v bs ls' code') : ls' = ls ∧ code' = code := by
  by_cases h : STS v bs
  · obtain ⟨l, a1, a2⟩ := h1.2 h
    obtain ⟨m, b1, b2⟩ := h2.2 h
    have e := a1.unique b1
    subst e
    rw [← a2] at b2
    exact Prod.mk.injEq .. ▸ b2
  · have a := h1.1 h
    have b := h2.1 h
    exact ⟨by rw [a.1, b.1], by rw [a.2, b.2]⟩
theorem fres_limit {bs : List B3} {cl : List (List Int)} (h : 80 < cl.length) : fres bs cl = ([], 3) := if_pos h
theorem fres_none {bs : List B3} {cl : List (List Int)} (h : cl.length ≤ 80) (h2 : resN cl bs.length (leftM 0 bs.length) = []) : fres bs cl = ([], 4) := by
  unfold fres
  rw [if_neg (by omega), h2]
theorem fres_some {bs : List B3} {cl : List (List Int)} {q : List Nat} {r : List (List Nat)} (h : cl.length ≤ 80) (h2 : resN cl bs.length (leftM 0 bs.length) = q :: r) : fres bs cl = (q.map (fun j => cl.getD j []), 0) := by
  unfold fres
  rw [if_neg (by omega), h2]
theorem rsol_count {v : Int} {bs : List B3} {cl : List (Sl × List Int)} {rs : List (List Sl)} {code : Int} (h : RSol v bs 301 cl rs code) : CRes v bs (if code = 0 ∧ rs.length ≤ 300 then rs.length else 0) (if code = 0 then (if 300 < rs.length then 3 else 0) else code) := by
  refine ⟨fun hS => ?_, fun hS => ?_⟩
  · obtain ⟨h1, h2⟩ := h.1 hS
    subst h1
    simp
  · obtain ⟨h1, h2⟩ := h.2 hS
    refine ⟨conts cl, h1, ?_⟩
    rw [conts_len]
    rcases h2 with ⟨h2, h3, h4⟩ | ⟨h2, h3, h4⟩
    · subst h3; simp [h2]
    · subst h3
      have hl : rs.length = min 301 (resN (conts cl) bs.length (leftM 0 bs.length)).length := by rw [h4]; simp
      right
      by_cases hb : 300 < (resN (conts cl) bs.length (leftM 0 bs.length)).length
      · left
        refine ⟨h2, hb, ?_, ?_⟩
        · rw [if_neg (by omega)]
        · rw [if_pos rfl, if_pos (by omega)]
      · right
        refine ⟨h2, by omega, ?_, ?_⟩
        · rw [if_pos ⟨rfl, by omega⟩]; omega
        · rw [if_pos rfl, if_neg (by omega)]
theorem rsol_codes {v : Int} {bs : List B3} {most : Nat} {cl : List (Sl × List Int)} {rs : List (List Sl)} {code : Int} (h : RSol v bs most cl rs code) (hm : 0 < most) : (¬ code = 0 → FRes v bs [] code) ∧ (code = 0 → rs = [] → FRes v bs [] 4) := by
  by_cases hS : STS v bs
  · obtain ⟨h1, h2⟩ := h.2 hS
    refine ⟨fun hc => ⟨fun hn => absurd hS hn, fun _ => ⟨conts cl, h1, ?_⟩⟩, fun hc hr => ⟨fun hn => absurd hS hn, fun _ => ⟨conts cl, h1, ?_⟩⟩⟩
    · rcases h2 with ⟨h2, h3, h4⟩ | ⟨h2, h3, h4⟩
      · rw [fres_limit (by rw [conts_len]; exact h2), h3]
      · exact absurd h3 hc
    · rcases h2 with ⟨h2, h3, h4⟩ | ⟨h2, h3, h4⟩
      · omega
      · rw [fres_none (by rw [conts_len]; exact h2)]
        rw [hr] at h4
        cases hres : resN (conts cl) bs.length (leftM 0 bs.length) with
        | nil => rfl
        | cons q r =>
          rw [hres] at h4
          obtain ⟨m, rfl⟩ : ∃ m, most = m + 1 := ⟨most - 1, by omega⟩
          simp at h4
  · obtain ⟨h1, h2⟩ := h.1 hS
    refine ⟨fun _ => ⟨fun _ => ⟨rfl, h1⟩, fun hn => absurd hn hS⟩, fun hc => by omega⟩
theorem resN_len : ∀ {n : Nat} {left : List Int} {q : List Nat} {cl : List (List Int)}, q ∈ resN cl n left → q.length ≤ n := by
  intro n
  induction n with
  | zero => intro left q cl h; unfold resN at h; split at h <;> simp at h; subst h; simp
  | succ n ih =>
    intro left q cl h
    unfold resN at h
    split at h
    · simp at h; subst h; simp
    · simp only [List.mem_flatMap, List.mem_range] at h
      obtain ⟨i, hi, h⟩ := h
      split at h
      · obtain ⟨q', h1, rfl⟩ := List.mem_map.1 h
        have := ih h1
        simp only [List.length_cons]
        omega
      · simp at h
theorem psJ_len (cl : List (Sl × List Int)) (q : List Nat) : (psJ cl q).length = q.length := by simp [psJ]
theorem cls_len5 {v : Int} {bs : List B3} (hS : STS v bs) {c : List Int} (h : Cls v bs c) : 0 < c.length ∧ c.length ≤ 5 := by
  have h1 := (cls_count hS.good (by have := hS.lo; omega) c).1 h
  have := hS.lo
  have := hS.hi
  omega
theorem fres_small {v : Int} {bs : List B3} {ls : List (List Int)} {code : Int} (h : FRes v bs ls code) : (∀ q ∈ ls, q.length ≤ 5) ∧ ls.length ≤ 35 := by
  by_cases hS : STS v bs
  · obtain ⟨cl, h1, h2⟩ := h.2 hS
    unfold fres at h2
    split at h2
    · simp at h2; rw [h2.1]; simp
    · split at h2
      · simp at h2; rw [h2.1]; simp
      · rename_i q r hres
        simp only [Prod.mk.injEq] at h2
        rw [h2.1]
        have hq := resN_len (cl := cl) (n := bs.length) (left := leftM 0 bs.length) (q := q) (by rw [hres]; simp)
        have := hS.few
        refine ⟨fun c hc => ?_, by rw [List.length_map]; omega⟩
        obtain ⟨j, _, rfl⟩ := List.mem_map.1 hc
        rw [List.getD_eq_getElem?_getD]
        cases hg : cl[j]? with
        | none => simp
        | some c =>
          simp only [Option.getD_some]
          exact (cls_len5 hS ((h1.2 c).1 (List.mem_of_getElem? hg))).2
  · have := (h.1 hS).1
    subst this
    simp
theorem Ld.psJ {w0 : Go.World} {H H' H2 : List Assn} {T T2 : Go.TypeId} {ps : List (Sl × List Sl)} {cl : List (Sl × List Int)} {q : List Nat} (i j : Nat) (hp : pull i H = some (RowsA T SlC ps, H')) (hq : pull j H = some (RowsA T2 I64 cl, H2)) (e0 : 0 < ps.length) (hr0 : (ps[0]).2 = tops (Vc.psJ cl q)) (hn : LenOk cl) (hqix : ∀ j ∈ q, j < cl.length) : ∀ w, St w0 H w → RdL I64 w (ps[0]).1.A (Vc.psJ cl q) :=
  fun w hw => RdL.psJ (by rw [← psJ_tops, ← hr0]; exact Ld.rows i hp e0 w hw) hn (fun p hp' => (RowsA.rd hw hq hp').2) hqix
end Go.Vc
