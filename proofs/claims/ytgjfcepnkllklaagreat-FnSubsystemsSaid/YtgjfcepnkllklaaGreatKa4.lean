/-
  The calculus and plain words, part 4.
-/
import Derived.Test.YtgjfcepnkllklaaGreatKa3
import Derived.Shelf.SortM.Plain
import Derived.Shelf.SortM.SortNone
import Derived.Laws.OwnMore
set_option linter.unusedVariables false
set_option linter.unusedSimpArgs false
/-
  The calculus, part 21: Go's own sorting of an owned row of one cell an element, and of an array of numbers.
-/
namespace Go.Vc
open Go Go.RowKit
open Go.Proofs (sortWorld CmpLays1 ltOf)
open Go.Sort (putCells putRow mapBlock onCells PermIn SortedIn SWO Holds)
section
variable {P : Program} {α : Type} {w0 w w' : World} {H : List Assn} {T c g : Nat} {A : Option Addr} {C : Cod α} {xs ys : List α} {enc : α → Value}
theorem flat1 (hC : ∀ x, C.enc x = [enc x]) : ∀ xs : List α, xs.flatMap C.enc = xs.map enc := by
  intro xs
  induction xs with
  | nil => rfl
  | cons x xs ih => rw [List.flatMap_cons, List.map_cons, hC, ih]; rfl
theorem own_holds1 [Inhabited α] (hC : ∀ x, C.enc x = [enc x]) (hz : C.sz = 1) (hw : St w0 (Own T C (some ⟨g, 0, none⟩) c xs :: H) w) : Holds enc w g 0 xs.toArray ∧ g < w.heap.size := by
  obtain ⟨F, ho, hF⟩ := hw.get 0 rfl
  rcases ho.2 with ⟨h1, h2⟩ | ⟨g', cap, cur, hvv, hbase, hh, hle, hmax, hcs, htake⟩
  · injection h1 with e1; cases e1
  · injection hvv with e1 e2 e3
    cases e1
    subst e3
    refine ⟨fun j hj => ?_, (Array.getElem?_eq_some_iff.1 hh).1⟩
    have hj' : j < xs.length := by simpa using hj
    rw [flat1 hC, hz, Nat.mul_one] at htake
    have e : cur[j]? = some (enc xs[j]) := by
      have h1 : (cur.toList.take xs.length)[j]? = cur.toList[j]? := by rw [List.getElem?_take, if_pos (by omega)]
      rw [htake, List.getElem?_map, List.getElem?_eq_getElem hj'] at h1
      rw [← Array.getElem?_toList, ← h1]
      rfl
    constructor
    · rw [getElem!_pos _ j hj]
      simp only [World.cell?, hh, Nat.zero_add, e]
      simp
    · simp [World.frozen?, hh]
theorem putCells1 [Inhabited α] {cur : Array Value} (hn : xs.length ≤ cur.size) : (putCells enc 0 xs.toArray cur).toList.take xs.length = xs.map enc := by
  apply List.ext_getElem
  · simp [putCells]; omega
  · intro j h1 h2
    simp only [List.getElem_take, Array.getElem_toList, putCells, Array.getElem_mapIdx]
    rw [if_pos ⟨Nat.zero_le _, by simpa using h2⟩, Nat.sub_zero, getElem!_pos _ j (by simpa using h2)]
    simp
theorem sort_heap [Inhabited α] {enc : α → Value} {n : Nat} {d : Array α} {os : Array Obj} {k : Nat} (hk : k < w.heap.size) : (Go.Sort.grow (putRow enc (Go.Sort.ahead w n) g 0 d) os).heap[k]? = if g = k then (w.heap[k]?).map (onCells (putCells enc 0 d)) else w.heap[k]? := by
  unfold Go.Sort.grow putRow mapBlock Go.Sort.ahead
  simp only
  rw [Array.getElem?_append_left (by simpa using hk), Array.getElem?_modify]
theorem sort_size [Inhabited α] {enc : α → Value} {n : Nat} {d : Array α} {os : Array Obj} : (Go.Sort.grow (putRow enc (Go.Sort.ahead w n) g 0 d) os).heap.size = w.heap.size + os.size := by
  unfold Go.Sort.grow putRow mapBlock Go.Sort.ahead
  simp
theorem St.sorted1 [Inhabited α] (hC : ∀ x, C.enc x = [enc x]) (hz : C.sz = 1) (hw : St w0 (Own T C (some ⟨g, 0, none⟩) c xs :: H) w) (hl : ys.length = xs.length) (n : Nat) (os : Array Obj) :
    St w0 (Own T C (some ⟨g, 0, none⟩) c ys :: H) (Go.Sort.grow (putRow enc (Go.Sort.ahead w n) g 0 ys.toArray) os) := by
  refine hw.upd ?_
  rintro F ⟨ho, hF⟩ hb
  rcases ho.2 with ⟨h1, h2⟩ | ⟨g', cap, cur, hvv, hbase, hh, hle, hmax, hcs, htake⟩
  · injection h1 with e1; cases e1
  · injection hvv with e1 e2 e3
    cases e1
    subst e3
    have hgs : g < w.heap.size := (Array.getElem?_eq_some_iff.1 hh).1
    rw [hz, Nat.mul_one] at hcs
    refine ⟨⟨rfl, rfl, rfl, by rw [sort_size]; omega, fun k hk hk' => ?_, Nat.le_add_right _ _⟩, F, ⟨⟨?_, .inr ⟨g, c, putCells enc 0 ys.toArray cur, by rw [hl], Nat.zero_le _, ?_, by omega, hmax, ?_, ?_⟩⟩, ?_⟩, ?_⟩
    · rw [sort_heap hk, if_neg (fun e => hk' ((hF k).2 (by subst e; rfl)))]
    · rw [length_flatMap_enc]
    · rw [sort_heap hgs, if_pos rfl, hh]; rfl
    · simp [putCells, hcs, hz]
    · rw [hz, Nat.mul_one, flat1 hC]
      exact putCells1 (by omega)
    · intro k
      rw [hF k]
      simp [Value.ownBlock]
    · intro k hk
      exact ⟨.inl hk, by have := (hb k hk).2; rw [sort_size]; omega⟩
/-- slices.SortFunc at elements of one cell, of which only some can be told apart by the comparison: those with p. -/
theorem sort1_does {ρ : Go.Shelf.Ren} (L : Go.Proofs.SlLaysF.n6 P ρ) (hC : ∀ x, C.enc x = [enc x]) (hz : C.sz = 1) (h1 : ∀ x, (enc x).oneCell' = true) (p : α → Prop) (hp : ∀ x ∈ xs, p x) (cf : {x // p x} → {x // p x} → Int) (hO : SWO (ltOf cf)) {f : Nat} {cb : Array Value} (hok : CallOk P f)
    (hcmp : ∀ zs W, (∀ x ∈ zs, p x) → St w0 (Own T C A c zs :: H) W → CmpD P f cb (fun x : {x // p x} => enc x.1) cf W) (hlen : xs.length < 4611686018427387904) :
    Does P (ρ.f 6) [.slice A xs.length c, .func (.func f) #[] cb] w0 (Own T C A c xs :: H) (fun v => [.exi fun ys : List α => .sep (.pur (v = .tuple #[] ∧ ys.Perm xs ∧ ys.Pairwise fun x y => ∀ hx : p x, ∀ hy : p y, ¬ cf ⟨y, hy⟩ ⟨x, hx⟩ < 0)) (Own T C A c ys)] ++ H) := by
  intro w hw
  have L0 : Go.Proofs.SlLaysF0.n6 P ρ := { L with }
  rcases own_cases hw with ⟨rfl, rfl, rfl⟩ | ⟨g, rfl⟩
  · refine (Go.Proofs.AnyF.slices_SortFunc_none L0 none 0 _ w).mono ?_
    rintro e w' ⟨rfl, rfl⟩
    exact ⟨_, rfl, St.mkExi [] (St.unsep (St.addPur ⟨rfl, List.Perm.refl _, List.Pairwise.nil⟩ hw))⟩
  · cases xs with
    | nil =>
      refine (Go.Proofs.AnyF.slices_SortFunc_none L0 (some ⟨g, 0, none⟩) c _ w).mono ?_
      rintro e w' ⟨rfl, rfl⟩
      exact ⟨_, rfl, St.mkExi [] (St.unsep (St.addPur ⟨rfl, List.Perm.refl _, List.Pairwise.nil⟩ hw))⟩
    | cons x0 xs0 =>
      generalize hxs : x0 :: xs0 = xs at *
      let _ : Inhabited α := ⟨x0⟩
      let _ : Inhabited {x // p x} := ⟨⟨x0, hp x0 (by rw [← hxs]; exact List.mem_cons_self ..)⟩⟩
      obtain ⟨ex, hex⟩ : ∃ ex : List {x // p x}, ex.map (·.1) = xs := ⟨xs.attach.map fun y => ⟨y.1, hp y.1 y.2⟩, by simp⟩
      have hexl : ex.length = xs.length := by rw [← hex]; simp
      obtain ⟨hH, hg⟩ := own_holds1 hC hz hw
      have hH' : Holds (fun x : {x // p x} => enc x.1) w g 0 ex.toArray := by
        intro j hj
        have hj1 : j < ex.length := by simpa using hj
        have hj2 : j < xs.length := by omega
        have h2 := hH j (by simpa using hj2)
        rw [getElem!_pos _ j (by simpa using hj2)] at h2
        rw [getElem!_pos _ j hj]
        have e : (ex[j]).1 = xs[j] := by subst hex; simp
        simpa [e] using h2
      have eg : ∀ args w, (callFunc f args).run P w = .ok (.enter f args) w := fun args w => run_callFunc hok args w
      have key : ∀ (m : Nat) (os : Array Obj) (dk : Array {x // p x}), putRow (fun x : {x // p x} => enc x.1) (Go.Sort.ahead w m) g 0 dk = putRow enc (Go.Sort.ahead w m) g 0 (dk.toList.map (·.1)).toArray := by
        intro m os dk
        unfold putRow
        congr 1
        funext cur
        unfold putCells
        congr 1
        funext k x
        by_cases hk : 0 ≤ k ∧ k < 0 + dk.size
        · rw [if_pos hk, if_pos (by simpa using hk)]
          rw [getElem!_pos _ _ (by simpa using hk.2), getElem!_pos _ _ (by simpa using hk.2)]
          simp
        · rw [if_neg hk, if_neg (by simpa using hk)]
      have hCL : CmpLays1 P f cb (fun x : {x // p x} => enc x.1) cf g 0 ex.toArray.size w := by
        intro m os dk hs x y
        have hs' : (dk.toList.map (·.1)).length = xs.length := by simpa [hexl] using hs
        have h1 := St.sorted1 hC hz hw hs' m os
        have e0 : sortWorld (fun x : {x // p x} => enc x.1) w g 0 m dk os = Go.Sort.grow (putRow enc (Go.Sort.ahead w m) g 0 (dk.toList.map (·.1)).toArray) os := by
          unfold sortWorld
          rw [key m os dk]
        rw [← e0] at h1
        have h2 := hcmp _ _ (fun z hz' => by obtain ⟨u, _, rfl⟩ := List.mem_map.1 hz'; exact u.2) h1 x y _ (St.start _)
        have e : ([enc x.1, enc y.1] ++ cb.toList).toArray = #[enc x.1, enc y.1] ++ cb := by
          apply Array.ext'
          simp
        rw [e] at h2
        refine h2.mono ?_
        rintro e w' ⟨v, rfl, hs3⟩
        exact ⟨by rw [hs3.pur.1], hs3.below.grown⟩
      have h := Go.Proofs.Any.slices_SortFunc L (fun x : {x // p x} => enc x.1) (fun x => h1 x.1) cf hO f cb g 0 c ex.toArray w eg hCL hH' hg (by simpa [hexl] using hlen)
      have e0 : ex.toArray.size = xs.length := by simp [hexl]
      rw [e0] at h
      refine h.mono ?_
      rintro e w' ⟨rfl, d', n, os, hpm, hs, rfl⟩
      rw [← e0] at hpm hs
      have hsz : d'.size = ex.toArray.size := hpm.1
      have hp' := permIn_perm hpm
      rw [← hsz] at hs
      have hs' := sorted_pair hs
      have e1 : sortWorld (fun x : {x // p x} => enc x.1) w g 0 n d' os = Go.Sort.grow (putRow enc (Go.Sort.ahead w n) g 0 (d'.toList.map (·.1)).toArray) os := by
        unfold sortWorld
        rw [key n os d']
      rw [e1]
      have hfin := St.sorted1 (ys := d'.toList.map (·.1)) hC hz hw (by simpa [hexl] using hsz) n os
      have hperm : (d'.toList.map (·.1)).Perm xs := by
        have := hp'.map (·.1)
        rw [show (ex.toArray).toList = ex from rfl, hex] at this
        exact this
      have hsrt : (d'.toList.map (·.1)).Pairwise fun x y => ∀ hx : p x, ∀ hy : p y, ¬ cf ⟨y, hy⟩ ⟨x, hx⟩ < 0 := by
        rw [List.pairwise_map]
        refine hs'.imp fun {a b} h hx hy => ?_
        simpa [ltOf] using h
      generalize d'.toList.map (·.1) = ys at hfin hperm hsrt
      generalize Go.Sort.grow (putRow enc (Go.Sort.ahead w n) g 0 ys.toArray) os = w2 at hfin
      exact ⟨_, rfl, St.mkExi ys (St.unsep (St.addPur ⟨rfl, hperm, hsrt⟩ hfin))⟩
/-- Numbers in order. -/
def sortI (xs : List Int) : List Int := xs.mergeSort fun x y => decide (x ≤ y)
end
end Go.Vc
/-
  Plain words: three numbers in order; systems that are turned.
-/
namespace Go.Vc
open Go Go.RowKit
section
variable {P : Program} {w0 w : World} {H : List Assn} {T c g : Nat}
end
/-- The points, turned. -/
def turnL (v k : Int) (n : Nat) : List Int := (List.range n).map fun a : Nat => ((a : Int) + k) % v
/-- The blocks, turned, in some order. -/
def turnB (v k : Int) (bs : List B3) : List B3 := bs.map (renB (turnL v k v.toNat))
/-- What both TurnSystem return. -/
def TSR (v : Int) (bs : List B3) (k : Int) (r : List B3) : Prop := if STS v bs ∧ 0 ≤ k ∧ k ≤ v - 1 then r.Perm (turnB v k bs) ∧ SrtB r else r = []
theorem TSR.unique {v : Int} {bs : List B3} {k : Int} {r s : List B3} (h : TSR v bs k r) (g : TSR v bs k s) : r = s := by
  unfold TSR at *
  split at h
  · rename_i hc
    rw [if_pos hc] at g
    exact srtB_unique h.2 g.2 (h.1.trans g.1.symm)
  · rename_i hc
    rw [if_neg hc] at g
    rw [h, g]
theorem TSR.len {v : Int} {bs : List B3} {k : Int} {r : List B3} (h : TSR v bs k r) : r.length ≤ bs.length := by
  unfold TSR at h
  split at h
  · rw [h.1.length_eq]; simp [turnB]
  · simp [h]
/-- No block is in common with the turned ones. -/
def apT (v : Int) (bs : List B3) (k : Int) : Prop := ∀ b ∈ bs, b ∉ turnB v k bs
instance (v : Int) (bs : List B3) (k : Int) : Decidable (apT v bs k) := inferInstanceAs (Decidable (∀ b ∈ bs, b ∉ turnB v k bs))
/-- The least turn that is apart, and the code: what both MateByTurning return. -/
def MTR (v : Int) (bs : List B3) (r code : Int) : Prop :=
  (¬ STS v bs → r = 0 ∧ code = 1) ∧ (STS v bs → (1 ≤ r ∧ r < v ∧ apT v bs r ∧ (∀ j, 1 ≤ j → j < r → ¬ apT v bs j) ∧ code = 0) ∨ ((∀ j, 1 ≤ j → j < v → ¬ apT v bs j) ∧ r = 0 ∧ code = 4))
theorem MTR.unique {v : Int} {bs : List B3} {r c s d : Int} (h : MTR v bs r c) (g : MTR v bs s d) : r = s ∧ c = d := by
  by_cases hS : STS v bs
  · rcases h.2 hS with ⟨a1, a2, a3, a4, a5⟩ | ⟨a1, a2, a3⟩ <;> rcases g.2 hS with ⟨b1, b2, b3, b4, b5⟩ | ⟨b1, b2, b3⟩
    · have e : r = s := by
        by_cases h1 : r < s
        · exact absurd a3 (b4 r a1 h1)
        · by_cases h2 : s < r
          · exact absurd b3 (a4 s b1 h2)
          · omega
      exact ⟨e, by omega⟩
    · exact absurd a3 (b1 r a1 a2)
    · exact absurd b3 (a1 s b1 b2)
    · omega
  · have := h.1 hS; have := g.1 hS; omega
end Go.Vc
/-
  Plain words: blocks that are turned around; the two systems of a new desk.
-/
namespace Go.Vc
open Go Go.RowKit
def bkT (v : Int) (b : B3) (i : Nat) : B3 := bk3 ((b.1 + i) % v) ((b.2.1 + i) % v) ((b.2.2 + i) % v)
def addT (v : Int) (b : B3) (l : List B3) (i : Nat) : List B3 := if bkT v b i ∈ l then l else l ++ [bkT v b i]
/-- The first n turns of a block, put behind a list, without equal ones. -/
def rowT (v : Int) (l : List B3) (b : B3) (n : Nat) : List B3 := (List.range n).foldl (addT v b) l
def tblT (v : Int) (bs : List B3) : List B3 := bs.foldl (fun l b => rowT v l b v.toNat) []
section
variable {v : Int} {l bs : List B3} {b : B3} {n i : Nat}
theorem rowT_succ : rowT v l b (n + 1) = addT v b (rowT v l b n) n := by
  unfold rowT
  rw [List.range_succ, List.foldl_append]
  rfl
theorem rowT_yes (h : bkT v b n ∈ rowT v l b n) : rowT v l b (n + 1) = rowT v l b n := by
  rw [rowT_succ]
  unfold addT
  rw [if_pos h]
theorem rowT_no (h : ¬ bkT v b n ∈ rowT v l b n) : rowT v l b (n + 1) = rowT v l b n ++ [bkT v b n] := by
  rw [rowT_succ]
  unfold addT
  rw [if_neg h]
theorem rowT_zero : rowT v l b 0 = l := rfl
theorem rowT_len : ∀ n, (rowT v l b n).length ≤ l.length + n := by
  intro n
  induction n with
  | zero => simp [rowT_zero]
  | succ n ih =>
    by_cases h : bkT v b n ∈ rowT v l b n
    · rw [rowT_yes h]; omega
    · rw [rowT_no h, List.length_append]; simp; omega
end
/-- What both make of the Fano plane. -/
def FanoR (r : List B3) : Prop := r.Perm (rowT 7 [] (0, 1, 3) 7) ∧ SrtB r
theorem FanoR.unique {r s : List B3} (h : FanoR r) (g : FanoR s) : r = s := srtB_unique h.2 g.2 (h.1.trans g.1.symm)
theorem FanoR.len {r : List B3} (h : FanoR r) : r.length ≤ 7 := by
  rw [h.1.length_eq]
  exact rowT_len 7
end Go.Vc
/-
  The calculus, part 23: pairs of numbers; the pairs of blocks.
-/
namespace Go.Vc
open Go Go.RowKit
def P2C : Cod (Int × Int) := ⟨2, fun p => [.int .i64 p.1, .int .i64 p.2], by decide, fun _ => rfl, fun _ u hu => by simp at hu; rcases hu with rfl | rfl <;> rfl⟩
def P2v (p : Int × Int) : Value := .agg #[.int .i64 p.1, .int .i64 p.2]
section
variable {P : Program} {w0 w : World} {H : List Assn} {σ : Sig} {o : Oper}
end
/-! ### The pairs of blocks -/
def ltP (p q : Int × Int) : Prop := p.1 < q.1 ∨ (p.1 = q.1 ∧ p.2 < q.2)
instance (p q : Int × Int) : Decidable (ltP p q) := inferInstanceAs (Decidable (_ ∨ _))
def leP (p q : Int × Int) : Prop := ¬ ltP q p
def SrtP (l : List (Int × Int)) : Prop := l.Pairwise leP
def prsB (bs : List B3) : List (Int × Int) := bs.flatMap fun b => [(b.1, b.2.1), (b.1, b.2.2), (b.2.1, b.2.2)]
theorem prsB_len (bs : List B3) : (prsB bs).length = 3 * bs.length := by
  unfold prsB
  induction bs with
  | nil => rfl
  | cons b bs ih => rw [List.flatMap_cons, List.length_append, ih]; simp; omega
theorem mem_prsB {bs : List B3} {p : Int × Int} : p ∈ prsB bs ↔ ∃ b ∈ bs, p = (b.1, b.2.1) ∨ p = (b.1, b.2.2) ∨ p = (b.2.1, b.2.2) := by
  unfold prsB
  simp [List.mem_flatMap]
section
variable {v : Nat} {bs cs : List B3}
theorem prsB_nodup (hv : v ≤ 15) (h : STS (v : Int) bs) : (prsB bs).Nodup := by
  have hr := sts_rest h
  unfold prsB
  unfold List.Nodup
  rw [List.flatMap_def, List.pairwise_flatten]
  constructor
  · intro l hl
    obtain ⟨b, hb, rfl⟩ := List.mem_map.1 hl
    have hg := h.good b hb
    unfold good at hg
    simp only [List.pairwise_cons, List.mem_cons, List.not_mem_nil, or_false, forall_eq_or_imp, forall_eq, ne_eq, Prod.mk.injEq, List.Pairwise.nil, and_true]
    refine ⟨⟨?_, ?_⟩, ?_, ?_⟩ <;> first | omega | (intro _ h; cases h)
  · rw [List.pairwise_map]
    refine List.Pairwise.imp_of_mem ?_ hr.fit
    intro a b ha hb hc
    have hga := h.good a ha
    have hgb := h.good b hb
    rw [common_le hga.three] at hc
    unfold good at hga hgb
    unfold has at hc
    intro p h1 q h2 e
    subst e
    simp only [List.mem_cons, List.not_mem_nil, or_false] at h1 h2
    rcases h1 with rfl | rfl | rfl <;> simp only [Prod.mk.injEq] at h2 <;> omega
end
end Go.Vc
namespace Go.Vc
/-- Which numbers of pairs are in some blocks. -/
def usedK (n : Nat) (bs : List B3) : List Bool := (List.range n).map fun k => decide (∃ p ∈ prsB bs, prI p.1.toNat p.2.toNat = k)
def usedL (bs : List B3) : List Bool := usedK 256 bs
/-- A trade. -/
def TRD (v : Int) (os ns : List B3) : Prop := STS v os ∧ STS v ns ∧ (∀ b ∈ os, b ∉ ns) ∧ (prsB os).Perm (prsB ns)
noncomputable instance (v : Int) (os ns : List B3) : Decidable (TRD v os ns) := Classical.propDecidable _
/-- The first n numbers that are points of blocks. -/
def ptsB (os : List B3) (n : Nat) : List Int := ((List.range n).filter fun p : Nat => decide (∃ b ∈ os, has b (p : Int))).map fun p : Nat => (p : Int)
theorem ptsB_len {os : List B3} {n : Nat} : (ptsB os n).length ≤ n := by
  unfold ptsB
  rw [List.length_map]
  exact Nat.le_trans (List.length_filter_le _ _) (by simp)
/-- What both PointsOfTrade return. -/
def PTR (v : Int) (os ns : List B3) (o : List Int) : Prop := (TRD v os ns → o = ptsB os v.toNat) ∧ (¬ TRD v os ns → o = [])
theorem PTR.unique {v : Int} {os ns : List B3} {a b : List Int} (h : PTR v os ns a) (g : PTR v os ns b) : a = b := by
  by_cases ht : TRD v os ns
  · rw [h.1 ht, g.1 ht]
  · rw [h.2 ht, g.2 ht]
theorem PTR.len {v : Int} {os ns : List B3} {a : List Int} (h : PTR v os ns a) : a.length ≤ 15 := by
  by_cases ht : TRD v os ns
  · rw [h.1 ht]
    have := ptsB_len (os := os) (n := v.toNat)
    have := ht.1.hi
    omega
  · rw [h.2 ht]; simp
end Go.Vc
/-
  Plain words: mitres: three blocks with a point in common, and two blocks that are apart and meet each of the three elsewhere.
-/
namespace Go.Vc
structure Cr (a : Int) (X Y Z P Q : B3) : Prop where
  pa : ¬ has P a
  qa : ¬ has Q a
  dis : ∀ t, has P t → ¬ has Q t
  xp : ∃ t, has X t ∧ has P t
  xq : ∃ t, has X t ∧ has Q t
  yp : ∃ t, has Y t ∧ has P t
  yq : ∃ t, has Y t ∧ has Q t
  zp : ∃ t, has Z t ∧ has P t
  zq : ∃ t, has Z t ∧ has Q t
section
variable {v : Int} {bs : List B3} {a b c d e f g : Int} {x y z : Nat} {r : List Int}
def MitT (bs : List B3) (a : Int) (X Y Z : B3) (xs : List Int) (r : List Int) : Prop := ∃ p q : Nat, ∃ (hp : p < bs.length) (hq : q < bs.length), Cr a X Y Z bs[p] bs[q] ∧ r.Perm (xs ++ [(p : Int), (q : Int)]) ∧ r.Pairwise (· ≤ ·)
/-- Two blocks, one with each of the points. -/
def HitM (bs : List B3) (b d f c e g : Int) (xs r : List Int) : Prop := ∃ p q : Nat, ∃ (hp : p < bs.length) (hq : q < bs.length), (has bs[p] b ∧ has bs[p] d ∧ has bs[p] f) ∧ (has bs[q] c ∧ has bs[q] e ∧ has bs[q] g) ∧ r.Perm (xs ++ [(p : Int), (q : Int)]) ∧ r.Pairwise (· ≤ ·)
/-- Three blocks through a. -/
structure Thr (bs : List B3) (a b c d e f g : Int) (x y z : Nat) : Prop where
  hx : x < bs.length
  hy : y < bs.length
  hz : z < bs.length
  xy : x ≠ y
  xz : x ≠ z
  yz : y ≠ z
  tx : Tri (bs[x]'hx) a b c
  ty : Tri (bs[y]'hy) a d e
  tz : Tri (bs[z]'hz) a f g
theorem far (h : STS v bs) {i j : Nat} (hi : i < bs.length) (hj : j < bs.length) (hne : i ≠ j) (ha : has bs[i] a) (hb : has bs[j] a) (t : Int) (h1 : has bs[i] t) (h2 : has bs[j] t) : t = a := by
  apply Decidable.byContradiction
  intro ht
  exact hne (h.two hi hj (fun e => ht e.symm) ha h1 hb h2)
def Sev (a b c d e f g : Int) : Prop := (a ≠ b ∧ a ≠ c ∧ a ≠ d ∧ a ≠ e ∧ a ≠ f ∧ a ≠ g) ∧ (b ≠ c ∧ b ≠ d ∧ b ≠ e ∧ b ≠ f ∧ b ≠ g) ∧ (c ≠ d ∧ c ≠ e ∧ c ≠ f ∧ c ≠ g) ∧ (d ≠ e ∧ d ≠ f ∧ d ≠ g) ∧ (e ≠ f ∧ e ≠ g) ∧ f ≠ g
end
end Go.Vc
/-
  Plain words: the lists of mitres.
-/
namespace Go.Vc
def fmR {α : Type} (f : Nat → List α) (n : Nat) : List α := (List.range n).flatMap f
abbrev W4 := Int × Int × Int × Int
noncomputable def ent (bs : List B3) (x y z b c : Int) (w : W4) : List (List Int) :=
  if idxP (fun t => bk3 b w.1 w.2.2.1 = t) bs < 0 ∨ idxP (fun t => bk3 c w.2.1 w.2.2.2 = t) bs < 0 then [] else [sortI [x, y, z, idxP (fun t => bk3 b w.1 w.2.2.1 = t) bs, idxP (fun t => bk3 c w.2.1 w.2.2.2 = t) bs]]
def wayL (d e f g : Int) : List W4 := [(d, e, f, g), (d, e, g, f), (e, d, f, g), (e, d, g, f)]
noncomputable def f3 (bs : List B3) (a x y z : Int) : List (List Int) := (wayL (oth1 (blk bs y) a) (oth2 (blk bs y) a) (oth1 (blk bs z) a) (oth2 (blk bs z) a)).flatMap (ent bs x y z (oth1 (blk bs x) a) (oth2 (blk bs x) a))
noncomputable def mt3 (bs : List B3) (a : Int) (l : List Int) (i j k : Nat) : List (List Int) := f3 bs a (l.getD i 0) (l.getD (i + 1 + j) 0) (l.getD (i + j + 2 + k) 0)
noncomputable def mt2 (bs : List B3) (a : Int) (l : List Int) (i j : Nat) : List (List Int) := fmR (mt3 bs a l i j) (l.length - (i + j + 2))
noncomputable def mt1 (bs : List B3) (a : Int) (l : List Int) (i : Nat) : List (List Int) := fmR (mt2 bs a l i) (l.length - (i + 1))
noncomputable def mitI (bs : List B3) (a : Int) : List (List Int) := fmR (mt1 bs a (numsAt (fun c => has c a) bs bs.length)) (numsAt (fun c => has c a) bs bs.length).length
section
variable {v : Int} {bs : List B3} {a b c d e f g : Int} {x y z : Nat} {r : List Int}
/-! ### The numbers of the blocks with a point -/
def atL (bs : List B3) (a : Int) : List Int := numsAt (fun c => has c a) bs bs.length
/-- The mitres with a centre. -/
def Mit (bs : List B3) (a : Int) (r : List Int) : Prop := ∃ (x y z : Nat) (hx : x < bs.length) (hy : y < bs.length) (hz : z < bs.length), x < y ∧ y < z ∧ has bs[x] a ∧ has bs[y] a ∧ has bs[z] a ∧ MitT bs a bs[x] bs[y] bs[z] [(x : Int), (y : Int), (z : Int)] r
end
end Go.Vc
/-
  The calculus, part 25: lists of lists in order; each once.
-/
namespace Go.Vc
open Go Go.RowKit
open Go.Proofs (ltOf)
open Go.Sort (SWO)
section
variable {P : Program} {w0 w : World} {H : List Assn} {T T2 c : Nat} {A : Option Addr} {ps : List (Sl × List Int)}
def RowC : Cod (Sl × List Int) := ⟨1, fun p => SlC.enc p.1, by decide, fun p => SlC.len p.1, fun p u hu => SlC.one p.1 u hu⟩
theorem own_tops : Own T SlC A c (tops ps) = Own T RowC A c ps := by
  have h1 : (tops ps).length = ps.length := tops_len ps
  have h2 : (tops ps).flatMap SlC.enc = ps.flatMap RowC.enc := by unfold tops; rw [List.flatMap_map]; rfl
  unfold Own
  simp only [h1, h2]
  rfl
/-- slices.SortFunc at lists of numbers. -/
theorem sortRows_does {ρ : Go.Shelf.Ren} (L : Go.Proofs.SlLaysF.n6 P ρ) (cf : List Int → List Int → Int) (hO : SWO (ltOf cf)) {f : Nat} {cb : Array Value} (hok : CallOk P f)
    (hcmp : ∀ W (x y : Sl × List Int), x ∈ ps → y ∈ ps → St w0 (RowsA T2 I64 ps :: H) W → Rd I64 W x.1.A x.2 → Rd I64 W y.1.A y.2 → x.2.length ≤ 9223372036854775807 → y.2.length ≤ 9223372036854775807 → Does P f ([.slice x.1.A x.2.length x.1.c, .slice y.1.A y.2.length y.1.c] ++ cb.toList) W [] (fun v => [.pur (v = .int .i64 (cf x.2 y.2))])) (hlen : ps.length < 4611686018427387904) :
    Does P (ρ.f 6) [.slice A (tops ps).length c, .func (.func f) #[] cb] w0 (Own T SlC A c (tops ps) :: RowsA T2 I64 ps :: H) (fun v => [.exi fun qs : List (Sl × List Int) => .sep (.pur (v = .tuple #[] ∧ qs.Perm ps ∧ (conts qs).Pairwise fun x y => ¬ cf y x < 0)) (.sep (Own T SlC A c (tops qs)) (RowsA T2 I64 qs))] ++ H) := by
  rw [own_tops, tops_len]
  have hO' : SWO (ltOf fun x y : {x // x ∈ ps} => cf x.1.2 y.1.2) := by
    obtain ⟨h1, h2, h3⟩ := hO
    exact ⟨fun x => h1 _, fun x y z => h2 _ _ _, fun x y z => h3 _ _ _⟩
  have h := sort1_does (C := RowC) (T := T) (A := A) (c := c) (w0 := w0) (H := RowsA T2 I64 ps :: H) (xs := ps) (enc := fun p : Sl × List Int => .slice p.1.A p.1.n p.1.c) L (fun x => rfl) rfl (fun x => rfl) (fun x => x ∈ ps) (fun x hx => hx) (fun x y => cf x.1.2 y.1.2) hO' hok (cb := cb) (fun zs W hz hw x y => by
    have k1 := RowsA.rd (i := 1) hw rfl x.2
    have k2 := RowsA.rd (i := 1) hw rfl y.2
    have hw2 := hw.sub (Sub.drop (Sub.refl _))
    have := hcmp W x.1 y.1 x.2 y.2 hw2 k1.2 k2.2 k1.1.2 k2.1.2
    rw [← k1.1.1, ← k2.1.1] at this
    exact this) hlen
  refine h.mono fun v w hs => ?_
  obtain ⟨ys, hs⟩ := St.exi hs
  have hs := hs.sep
  obtain ⟨⟨h1, h2, h3⟩, hs⟩ := hs.pur
  refine St.mkExi ys (St.unsep (St.addPur ⟨h1, h2, ?_⟩ (St.unsep ?_)))
  · unfold conts
    rw [List.pairwise_map]
    refine List.Pairwise.imp_of_mem ?_ h3
    intro a b ha hb hab
    exact hab (h2.mem_iff.1 ha) (h2.mem_iff.1 hb)
  · rw [own_tops]
    have := hs.perm (List.Perm.swap _ _ _)
    have := RowsA.perm h2.symm this
    exact this.perm (List.Perm.swap _ _ _)
end
instance decLtL (x y : List Int) : Decidable (ltL x y) := inferInstanceAs (Decidable (cmpL x y < 0))
/-! ### Each once -/
abbrev SL := Sl × List Int
def d0 : SL := (⟨none, 0, 0⟩, [])
def keepA (l : List SL) (j : Nat) : Prop := j = 0 ∨ (l.getD j d0).2 ≠ (l.getD (j - 1) d0).2
instance (l : List SL) (j : Nat) : Decidable (keepA l j) := inferInstanceAs (Decidable (_ ∨ _))
def kpt (l : List SL) (i : Nat) : List SL := ((List.range i).filter fun j => decide (keepA l j)).map fun j => l.getD j d0
section
variable {l : List SL} {i j k : Nat}
/-- What the row holds while its elements are moved. -/
def mvt (l : List SL) (i : Nat) : List Sl := tops (kpt l i) ++ (tops l).drop (kpt l i).length
end
end Go.Vc
/-
  Plain words: subsystems: sets with a block for each pair; told by the number of their blocks.
-/
namespace Go.Vc
theorem sub_full {α : Type} [DecidableEq α] : ∀ (l1 l2 : List α), l1.Nodup → (∀ x ∈ l1, x ∈ l2) → l2.length ≤ l1.length → ∀ x ∈ l2, x ∈ l1
  | [], l2, _, _, hl, x, hx => by
    have : l2 = [] := List.eq_nil_of_length_eq_zero (by simpa using hl)
    subst this
    exact hx
  | a :: l1, l2, hn, hs, hl, x, hx => by
    obtain ⟨h1, h2⟩ := List.nodup_cons.1 hn
    have ha := hs a (by simp)
    have he := List.length_erase_of_mem ha
    have hp := List.length_pos_of_mem ha
    by_cases e : x = a
    · subst e; simp
    · refine List.mem_cons_of_mem _ (sub_full l1 (l2.erase a) h2 (fun y hy => ?_) (by simp at hl; omega) x ((List.mem_erase_of_ne e).2 hx))
      exact (List.mem_erase_of_ne (fun e => by subst e; exact h1 hy)).2 (hs y (by simp [hy]))
/-! ### Pairs of a list -/
def prs2 : List Int → List (Int × Int)
  | [] => []
  | x :: l => l.map (fun y => (x, y)) ++ prs2 l
theorem prs2_len : ∀ l, 2 * (prs2 l).length = l.length * (l.length - 1)
  | [] => rfl
  | x :: l => by
    have ih := prs2_len l
    rw [prs2, List.length_append, List.length_map, List.length_cons, Nat.add_sub_cancel, Nat.mul_add, ih]
    generalize l.length = k
    cases k with
    | zero => rfl
    | succ m => rw [Nat.add_sub_cancel]; simp only [Nat.add_mul, Nat.mul_add]; omega
theorem prs2_mem : ∀ {l : List Int}, l.Pairwise (· < ·) → ∀ {p : Int × Int}, p ∈ prs2 l ↔ p.1 < p.2 ∧ p.1 ∈ l ∧ p.2 ∈ l
  | [], _, p => by simp [prs2]
  | x :: l, h, p => by
    obtain ⟨h1, h2⟩ := List.pairwise_cons.1 h
    obtain ⟨a, b⟩ := p
    rw [prs2, List.mem_append, List.mem_map, prs2_mem h2]
    simp only [List.mem_cons, Prod.mk.injEq]
    constructor
    · rintro (⟨y, hy, rfl, rfl⟩ | ⟨k1, k2, k3⟩)
      · exact ⟨h1 _ hy, .inl rfl, .inr hy⟩
      · exact ⟨k1, .inr k2, .inr k3⟩
    · rintro ⟨k1, k2, k3⟩
      rcases k2 with rfl | k2
      · rcases k3 with rfl | k3
        · omega
        · exact .inl ⟨b, k3, rfl, rfl⟩
      · rcases k3 with rfl | k3
        · have := h1 _ k2; omega
        · exact .inr ⟨k1, k2, k3⟩
theorem prs2_nodup : ∀ {l : List Int}, l.Pairwise (· < ·) → (prs2 l).Nodup
  | [], _ => List.nodup_nil
  | x :: l, h => by
    obtain ⟨h1, h2⟩ := List.pairwise_cons.1 h
    have hn : l.Nodup := h2.imp fun h => by omega
    rw [prs2, List.nodup_append]
    refine ⟨?_, prs2_nodup h2, fun p hp q hq e => ?_⟩
    · unfold List.Nodup
      rw [List.pairwise_map]
      exact hn.imp fun h e => h (by simpa using e)
    · subst e
      obtain ⟨y, hy, rfl⟩ := List.mem_map.1 hp
      have := (prs2_mem h2).1 hq
      have := h1 _ this.2.1
      simp at this
theorem prsB_sub {l m : List B3} (h : l.Sublist m) : (prsB l).Sublist (prsB m) := by
  unfold prsB
  induction h with
  | slnil => exact List.Sublist.refl _
  | cons a _ ih => rw [List.flatMap_cons]; exact ih.trans (List.sublist_append_right _ _)
  | cons_cons a _ ih => rw [List.flatMap_cons, List.flatMap_cons]; exact ih.append_left _
theorem prsI_mem {v : Int} {I : List B3} (hg : ∀ d ∈ I, good v d) {x y : Int} (hxy : x < y) : (x, y) ∈ prsB I ↔ ∃ d ∈ I, has d x ∧ has d y := by
  rw [mem_prsB]
  constructor
  · rintro ⟨b, hb, h1⟩
    refine ⟨b, hb, ?_⟩
    unfold has
    rcases h1 with h1 | h1 | h1 <;> (simp only [Prod.mk.injEq] at h1; omega)
  · rintro ⟨b, hb, h1, h2⟩
    refine ⟨b, hb, ?_⟩
    have hg := hg b hb
    unfold good at hg
    unfold has at h1 h2
    simp only [Prod.mk.injEq]
    omega
section
variable {v : Int} {bs : List B3} {s : Nat}
theorem two_mem (h : STS v bs) {d e : B3} (hd : d ∈ bs) (he : e ∈ bs) {x y : Int} (hxy : x ≠ y) (h1 : has d x) (h2 : has d y) (h3 : has e x) (h4 : has e y) : d = e := by
  obtain ⟨i, hi, rfl⟩ := List.mem_iff_getElem.1 hd
  obtain ⟨j, hj, rfl⟩ := List.mem_iff_getElem.1 he
  have := h.two hi hj hxy h1 h2 h3 h4
  subst this
  rfl
theorem tabPut_val {G : Int → Int → Int} {b : B3} (hb : three b) {x y : Int} : tabPut G b x y = if has b x ∧ has b y ∧ x ≠ y then b.1 + b.2.1 + b.2.2 - x - y else G x y := by
  obtain ⟨p, q, r⟩ := b
  unfold tabPut gset has
  unfold three at hb
  simp only at *
  (repeat' split) <;> first | rfl | omega
/-- The table's third point. -/
theorem tab_tri (h : STS v bs) {d : B3} (hd : d ∈ bs) {x y z : Int} (t : Tri d x y z) : tab bs x y = z := by
  have key : ∀ (l : List B3) (G : Int → Int → Int), (∀ b ∈ l, three b) → (∀ b ∈ l, has b x → has b y → b = d) → (d ∈ l ∨ G x y = z) → l.foldl tabPut G x y = z := by
    intro l
    induction l with
    | nil => intro G _ _ hz; exact hz.elim (fun h => by simp at h) id
    | cons b l ih =>
      intro G hb hu hz
      rw [List.foldl_cons]
      refine ih _ (fun c hc => hb c (by simp [hc])) (fun c hc => hu c (by simp [hc])) ?_
      by_cases hdl : d ∈ l
      · exact .inl hdl
      · right
        by_cases e : has b x ∧ has b y
        · have eb := hu b (by simp) e.1 e.2
          rw [tabPut_val (hb b (by simp)), if_pos ⟨e.1, e.2, t.1⟩, eb, tri_sum (h.good d hd) t]
          omega
        · have hG : G x y = z := by
            rcases hz with hz | hz
            · rw [List.mem_cons] at hz
              rcases hz with rfl | hz
              · exact absurd ⟨t.h1, t.h2⟩ e
              · exact absurd hz hdl
            · exact hz
          rw [← hG, tabPut_val (hb b (by simp)), if_neg (fun q => e ⟨q.1, q.2.1⟩)]
  refine key bs _ (fun b hb => (h.good b hb).three) (fun b hb h1 h2 => two_mem h hb hd t.1 h1 h2 t.h1 t.h2) (.inl hd)
def SubQ (bs : List B3) (s : Nat) : Prop := ∀ x y : Int, x ∈ pts s → y ∈ pts s → x ≠ y → ∃ d ∈ bs, has d x ∧ has d y ∧ ∀ z, has d z → z ∈ pts s
def Clo (bs : List B3) (s : Nat) : Prop := ∀ d ∈ bs, ¬ ones (bmask d &&& s) = 2
def insB (bs : List B3) (s : Nat) : List B3 := bs.filter fun d => decide (bmask d &&& s = bmask d)
theorem insB_len : (insB bs s).length = inside bs s bs.length := by
  unfold insB inside
  rw [List.take_of_length_le (Nat.le_refl _)]
theorem pts_lt (s : Nat) : (pts s).Pairwise (· < ·) := ptsAt_sorted _ _
theorem mem_pts {s : Nat} {z : Int} : z ∈ pts s ↔ 0 ≤ z ∧ z < 15 ∧ s.testBit z.toNat = true := ptsAt_mem s 15
theorem bit_has {d : B3} (hg : good v d) {z : Int} (hz : 0 ≤ z) : (bmask d).testBit z.toNat = true ↔ has d z := by
  rw [bmask_bit hg, Int.toNat_of_nonneg hz]
theorem mem_bl {d : B3} {z : Int} : z ∈ bl d ↔ has d z := by
  unfold bl has
  simp only [List.mem_cons, List.not_mem_nil, or_false]
  omega
theorem pts_and {d : B3} (hg : good 15 d) : pts (bmask d &&& s) = (bl d).filter fun z => decide (z ∈ pts s) := by
  have hp := good.pts hg
  refine asc_ext (pts_lt _) ?_ fun z => ?_
  · refine List.Pairwise.filter _ ?_
    have := hg
    unfold good at this
    unfold bl
    simp
    omega
  · rw [List.mem_filter, mem_bl, decide_eq_true_eq, mem_pts, mem_pts, Nat.testBit_and, Bool.and_eq_true]
    constructor
    · rintro ⟨h1, h2, h3, h4⟩
      exact ⟨(bit_has hg h1).1 h3, h1, h2, h4⟩
    · rintro ⟨h1, h2, h3, h4⟩
      exact ⟨h2, h3, (bit_has hg h2).2 h1, h4⟩
theorem pts_ones {m : Nat} (h : m < 32768) : (pts m).length = ones m := by
  unfold pts
  rw [ptsAt_len, cov_ones (by simpa using h)]
theorem ones_and {d : B3} (hg : good 15 d) (hs : s < 32768) : ones (bmask d &&& s) = ((bl d).filter fun z => decide (z ∈ pts s)).length := by
  rw [← pts_and hg, pts_ones (by have := Nat.and_le_right (n := bmask d) (m := s); omega)]
theorem ins_iff {d : B3} (hg : good 15 d) : bmask d &&& s = bmask d ↔ ∀ z, has d z → z ∈ pts s := by
  have hp := good.pts hg
  constructor
  · intro h z hz
    have hzz : 0 ≤ z ∧ z < 15 := by unfold has at hz; omega
    have h1 := (bit_has hg hzz.1).2 hz
    rw [← h, Nat.testBit_and, Bool.and_eq_true] at h1
    exact mem_pts.2 ⟨hzz.1, hzz.2, h1.2⟩
  · intro h
    apply Nat.eq_of_testBit_eq
    intro i
    rw [Nat.testBit_and]
    cases hb : (bmask d).testBit i with
    | false => rfl
    | true =>
      have := h i ((bmask_bit hg i).1 hb)
      rw [mem_pts] at this
      simpa using this.2.2
theorem mem_insB (h : STS v bs) {d : B3} : d ∈ insB bs s ↔ d ∈ bs ∧ ∀ z, has d z → z ∈ pts s := by
  unfold insB
  rw [List.mem_filter, decide_eq_true_eq]
  constructor
  · rintro ⟨h1, h2⟩; exact ⟨h1, (ins_iff ((h.good d h1).mono h.hi)).1 h2⟩
  · rintro ⟨h1, h2⟩; exact ⟨h1, (ins_iff ((h.good d h1).mono h.hi)).2 h2⟩
theorem ins_nodup (h : STS v bs) : (prsB (insB bs s)).Nodup := by
  have hv := h.lo
  have hh := h.hi
  have h' : STS ((v.toNat : Nat) : Int) bs := by rw [show ((v.toNat : Nat) : Int) = v by omega]; exact h
  exact (prsB_nodup (by omega) h').sublist (prsB_sub List.filter_sublist)
theorem ins_pair (h : STS v bs) {p : Int × Int} (hp : p ∈ prsB (insB bs s)) : p ∈ prs2 (pts s) := by
  rw [prs2_mem (pts_lt s)]
  obtain ⟨d, hd, e⟩ := mem_prsB.1 hp
  obtain ⟨h1, h2⟩ := (mem_insB h).1 hd
  have hg := h.good d h1
  unfold good at hg
  have k1 := h2 d.1 (.inl rfl)
  have k2 := h2 d.2.1 (.inr (.inl rfl))
  have k3 := h2 d.2.2 (.inr (.inr rfl))
  rcases e with rfl | rfl | rfl
  · exact ⟨by simp only; omega, k1, k2⟩
  · exact ⟨by simp only; omega, k1, k3⟩
  · exact ⟨by simp only; omega, k2, k3⟩
theorem subq_pair (h : STS v bs) (hq : SubQ bs s) {p : Int × Int} : p ∈ prs2 (pts s) → p ∈ prsB (insB bs s) := by
  intro hp
  obtain ⟨x, y⟩ := p
  obtain ⟨h1, h2, h3⟩ := (prs2_mem (pts_lt s)).1 hp
  obtain ⟨d, hd, k1, k2, k3⟩ := hq x y h2 h3 (by simp only at h1; omega)
  exact (prsI_mem (fun e he => h.good e ((mem_insB h).1 he).1) h1).2 ⟨d, (mem_insB h).2 ⟨hd, k3⟩, k1, k2⟩
theorem subq_count (h : STS v bs) (hq : SubQ bs s) : 6 * inside bs s bs.length = (pts s).length * ((pts s).length - 1) := by
  have hp : (prsB (insB bs s)).Perm (prs2 (pts s)) := (List.perm_ext_iff_of_nodup (ins_nodup h) (prs2_nodup (pts_lt s))).2 fun p => ⟨ins_pair h, subq_pair h hq⟩
  have hl := hp.length_eq
  rw [prsB_len, insB_len] at hl
  have := prs2_len (pts s)
  omega
theorem count_subq (h : STS v bs) (hc : 6 * inside bs s bs.length = (pts s).length * ((pts s).length - 1)) : SubQ bs s := by
  have h1 := prs2_len (pts s)
  have h2 := prsB_len (insB bs s)
  rw [insB_len] at h2
  have hall := sub_full (prsB (insB bs s)) (prs2 (pts s)) (ins_nodup h) (fun p hp => ins_pair h hp) (by omega)
  have key : ∀ x y : Int, x ∈ pts s → y ∈ pts s → x < y → ∃ d ∈ bs, has d x ∧ has d y ∧ ∀ z, has d z → z ∈ pts s := fun x y hx hy hxy => by
    have := hall (x, y) ((prs2_mem (pts_lt s)).2 ⟨hxy, hx, hy⟩)
    obtain ⟨d, hd, k1, k2⟩ := (prsI_mem (fun e he => h.good e ((mem_insB h).1 he).1) hxy).1 this
    obtain ⟨k3, k4⟩ := (mem_insB h).1 hd
    exact ⟨d, k3, k1, k2, k4⟩
  intro x y hx hy hxy
  rcases Int.lt_or_gt_of_ne hxy with h3 | h3
  · exact key x y hx hy h3
  · obtain ⟨d, hd, k1, k2, k3⟩ := key y x hy hx h3
    exact ⟨d, hd, k2, k1, k3⟩
theorem flat2_len {β : Type} {f g : B3 → β} : ∀ l : List B3, (l.flatMap fun d => [f d, g d]).length = 2 * l.length
  | [] => rfl
  | d :: l => by
    rw [List.flatMap_cons, List.length_append, flat2_len l]
    simp
    omega
theorem subq_odd (h : STS v bs) (hq : SubQ bs s) (hn : 1 ≤ (pts s).length) : ∃ k, (pts s).length = 2 * k + 1 := by
  obtain ⟨x, hx⟩ : ∃ x, x ∈ pts s := ⟨(pts s)[0], List.getElem_mem _⟩
  have hnd : (pts s).Nodup := (pts_lt s).imp fun h => by omega
  have hbn : bs.Nodup := by
    have h1 : bs.Pairwise B3.lt := by
      have h' : STS ((v.toNat : Nat) : Int) bs := by have := h.lo; rw [show ((v.toNat : Nat) : Int) = v by omega]; exact h
      exact (sts_rest h').lt
    exact h1.imp fun h => by rintro rfl; exact lt_irrefl _ h
  let K := (insB bs s).filter fun d => decide (has d x)
  have hK : ∀ d, d ∈ K ↔ d ∈ bs ∧ (∀ z, has d z → z ∈ pts s) ∧ has d x := fun d => by
    show d ∈ (insB bs s).filter _ ↔ _
    rw [List.mem_filter, mem_insB h, decide_eq_true_eq, and_assoc]
  have hKn : K.Nodup := (hbn.sublist List.filter_sublist).sublist List.filter_sublist
  have tri : ∀ d ∈ K, Tri d x (oth1 d x) (oth2 d x) := fun d hd => tri_oth (h.good d ((hK d).1 hd).1) ((hK d).1 hd).2.2
  have qn : (K.flatMap fun d => [oth1 d x, oth2 d x]).Nodup := by
    unfold List.Nodup
    rw [List.pairwise_flatMap]
    constructor
    · intro d hd
      have := (tri d hd).2.2.1
      simp [this]
    · refine List.Pairwise.imp_of_mem ?_ hKn
      intro d e hd he hne u hu w hw euw
      subst euw
      have t1 := tri d hd
      have t2 := tri e he
      have g1 : has d u ∧ x ≠ u := by
        simp only [List.mem_cons, List.not_mem_nil, or_false] at hu
        rcases hu with rfl | rfl
        · exact ⟨t1.h2, t1.1⟩
        · exact ⟨t1.h3, t1.2.1⟩
      have g2 : has e u := by
        simp only [List.mem_cons, List.not_mem_nil, or_false] at hw
        rcases hw with rfl | rfl
        · exact t2.h2
        · exact t2.h3
      exact hne (two_mem h ((hK d).1 hd).1 ((hK e).1 he).1 g1.2 t1.h1 g1.1 t2.h1 g2)
  have hm : ∀ u, u ∈ (K.flatMap fun d => [oth1 d x, oth2 d x]) ↔ u ∈ (pts s).erase x := fun u => by
    rw [hnd.mem_erase_iff, List.mem_flatMap]
    constructor
    · rintro ⟨d, hd, hu⟩
      have t1 := tri d hd
      simp only [List.mem_cons, List.not_mem_nil, or_false] at hu
      rcases hu with rfl | rfl
      · exact ⟨fun e => t1.1 e.symm, ((hK d).1 hd).2.1 _ t1.h2⟩
      · exact ⟨fun e => t1.2.1 e.symm, ((hK d).1 hd).2.1 _ t1.h3⟩
    · rintro ⟨h1, h2⟩
      obtain ⟨d, hd, k1, k2, k3⟩ := hq x u hx h2 (fun e => h1 e.symm)
      have hdK := (hK d).2 ⟨hd, k3, k1⟩
      refine ⟨d, hdK, ?_⟩
      have := (tri d hdK).2.2.2 u |>.1 k2
      simp only [List.mem_cons, List.not_mem_nil, or_false]
      rcases this with e | e | e
      · exact absurd e h1
      · exact .inl e
      · exact .inr e
  have hp := ((List.perm_ext_iff_of_nodup qn (hnd.erase x)).2 hm).length_eq
  rw [flat2_len, List.length_erase_of_mem hx] at hp
  exact ⟨K.length, by omega⟩
theorem subq_clo (h : STS v bs) (hs : s < 32768) (hq : SubQ bs s) : Clo bs s := by
  intro d hd
  have hg := (h.good d hd).mono h.hi
  rw [ones_and hg hs]
  intro h2
  obtain ⟨p, q, r⟩ := d
  have hgg := hg
  unfold good at hgg
  simp only at hgg
  have key : ∀ x y z : Int, x ≠ y → has (p, q, r) x → has (p, q, r) y → has (p, q, r) z → x ∈ pts s → y ∈ pts s → z ∈ pts s := fun x y z hxy hx hy hz h3 h4 => by
    obtain ⟨e, he, k1, k2, k3⟩ := hq x y h3 h4 hxy
    have := two_mem h hd he hxy hx hy k1 k2
    subst this
    exact k3 z hz
  have i1 : has (p, q, r) p := .inl rfl
  have i2 : has (p, q, r) q := .inr (.inl rfl)
  have i3 : has (p, q, r) r := .inr (.inr rfl)
  unfold bl at h2
  by_cases a1 : p ∈ pts s <;> by_cases a2 : q ∈ pts s <;> by_cases a3 : r ∈ pts s <;> simp [List.filter_cons, a1, a2, a3] at h2
  · exact a3 (key p q r (by omega) i1 i2 i3 a1 a2)
  · exact a2 (key p r q (by omega) i1 i3 i2 a1 a3)
  · exact a1 (key q r p (by omega) i2 i3 i1 a2 a3)
/-- Both ways to tell a subsystem. -/
theorem subq_iff (h : STS v bs) (hs : s < 32768) : (3 ≤ ones s ∧ SubQ bs s) ↔ ((ones s = 3 ∨ ones s = 7 ∨ ones s = 9 ∨ ones s = 13 ∨ ones s = 15) ∧ 3 ≤ ones s ∧ 6 * inside bs s bs.length = ones s * (ones s - 1) ∧ Clo bs s) := by
  have hl := pts_ones hs
  have h15 : ones s ≤ 15 := by rw [← hl]; exact pts_len s
  constructor
  · rintro ⟨h3, hq⟩
    have hc := subq_count h hq
    have ho := subq_odd h hq (by omega)
    rw [hl] at hc ho
    refine ⟨?_, h3, hc, subq_clo h hs hq⟩
    obtain ⟨k, hk⟩ := ho
    generalize ones s = n at *
    have : n = 3 ∨ n = 5 ∨ n = 7 ∨ n = 9 ∨ n = 11 ∨ n = 13 ∨ n = 15 := by omega
    rcases this with rfl | rfl | rfl | rfl | rfl | rfl | rfl <;> omega
  · rintro ⟨_, h3, hc, _⟩
    exact ⟨h3, count_subq h (by rw [hl]; exact hc)⟩
end
end Go.Vc
/-
  Plain words: the list of subsystems.
-/
namespace Go.Vc
open Go.Proofs (ltOf)
open Go.Sort (SWO)
def PairOk (bs : List B3) (s : Nat) (x y : Int) : Prop := ∃ d ∈ bs, has d x ∧ has d y ∧ ∀ z, has d z → z ∈ pts s
def SubI (bs : List B3) (s i j : Nat) : Prop := ∀ a b, a < b → (b < i ∨ (b = i ∧ a < j)) → b < (pts s).length → PairOk bs s ((pts s).getD b 0) ((pts s).getD a 0)
section
variable {v : Int} {bs : List B3} {s i j : Nat}
theorem subI_zero : SubI bs s 0 0 := fun a b h1 h2 h3 => by omega
theorem subI_row (h : SubI bs s i j) (hj : i ≤ j) : SubI bs s (i + 1) 0 := fun a b h1 h2 h3 => h a b h1 (by omega) h3
theorem subI_step (h : SubI bs s i j) (hp : PairOk bs s ((pts s).getD i 0) ((pts s).getD j 0)) : SubI bs s i (j + 1) := fun a b h1 h2 h3 => by
  by_cases e : b = i ∧ a = j
  · obtain ⟨rfl, rfl⟩ := e; exact hp
  · exact h a b h1 (by omega) h3
theorem PairOk.symm {x y : Int} (h : PairOk bs s x y) : PairOk bs s y x := by
  obtain ⟨d, h1, h2, h3, h4⟩ := h
  exact ⟨d, h1, h3, h2, h4⟩
theorem subI_all (hi : (pts s).length ≤ i) : SubI bs s i 0 ↔ SubQ bs s := by
  constructor
  · intro h x y hx hy hxy
    obtain ⟨a, ha, rfl⟩ := List.mem_iff_getElem.1 hx
    obtain ⟨b, hb, rfl⟩ := List.mem_iff_getElem.1 hy
    have e1 : (pts s).getD a 0 = (pts s)[a] := by simp [List.getD, ha]
    have e2 : (pts s).getD b 0 = (pts s)[b] := by simp [List.getD, hb]
    rw [← e1, ← e2]
    rcases Nat.lt_trichotomy a b with h1 | h1 | h1
    · exact (h a b h1 (by omega) hb).symm
    · subst h1; exact absurd rfl hxy
    · exact h b a h1 (by omega) ha
  · intro h a b h1 h2 h3
    have e1 : (pts s).getD a 0 = (pts s)[a] := by simp [List.getD, show a < (pts s).length by omega]
    have e2 : (pts s).getD b 0 = (pts s)[b] := by simp [List.getD, h3]
    rw [e1, e2]
    have := List.pairwise_iff_getElem.1 (pts_lt s) a b (by omega) h3 h1
    exact h _ _ (List.getElem_mem _) (List.getElem_mem _) (by omega)
theorem subI_not {a b : Nat} (h1 : a < b) (hb : b < (pts s).length) (hn : ¬ PairOk bs s ((pts s).getD b 0) ((pts s).getD a 0)) : ¬ SubQ bs s := fun h => hn ((subI_all (Nat.le_refl _)).2 h a b h1 (by omega) hb)
theorem tri_third {d : B3} (hg : good v d) {x y : Int} (hxy : x ≠ y) (hx : has d x) (hy : has d y) : ∃ z, Tri d x y z := by
  have t := tri_oth hg hx
  rcases (t.2.2.2 y).1 hy with e | e | e
  · exact absurd e.symm hxy
  · exact ⟨_, e ▸ t⟩
  · exact ⟨_, e ▸ t.swap⟩
theorem tab_some (h : STS v bs) {x y : Int} (hxy : x ≠ y) (hn : ¬ tab bs x y = -1) : ∃ d ∈ bs, Tri d x y (tab bs x y) := by
  have h2 : ∃ d ∈ bs, has d x ∧ has d y := by
    apply Classical.byContradiction
    intro hc
    exact hn ((tab_left (fun b hb => (h.good b hb).three) x y).2 fun b hb hh => hc ⟨b, hb, hh.1, hh.2.1⟩)
  obtain ⟨d, hd, hx, hy⟩ := h2
  obtain ⟨z, t⟩ := tri_third (h.good d hd) hxy hx hy
  rw [tab_tri h hd t]
  exact ⟨d, hd, t⟩
theorem tab_pair (h : STS v bs) {x y : Int} (hxy : x ≠ y) (hx : x ∈ pts s) (hy : y ∈ pts s) : PairOk bs s x y ↔ ¬ tab bs x y = -1 ∧ s.testBit (tab bs x y).toNat = true := by
  constructor
  · rintro ⟨d, hd, k1, k2, k3⟩
    obtain ⟨z, t⟩ := tri_third (h.good d hd) hxy k1 k2
    rw [tab_tri h hd t]
    have := mem_pts.1 (k3 z t.h3)
    exact ⟨by omega, this.2.2⟩
  · rintro ⟨h1, h2⟩
    obtain ⟨d, hd, t⟩ := tab_some h hxy h1
    have hg := good.pts ((h.good d hd).mono h.hi)
    refine ⟨d, hd, t.h1, t.h2, fun z hz => ?_⟩
    rcases (t.2.2.2 z).1 hz with rfl | rfl | rfl
    · exact hx
    · exact hy
    · exact mem_pts.2 ⟨by unfold has at hz; omega, by unfold has at hz; omega, h2⟩
noncomputable instance (bs : List B3) (s : Nat) : Decidable (SubQ bs s) := Classical.propDecidable _
/-- The subsystems among the first n sets. -/
noncomputable def subsL (bs : List B3) (n : Nat) : List (List Int) := ((List.range n).filter fun s => decide (3 ≤ ones s ∧ SubQ bs s)).map pts
theorem subsL_yes {n : Nat} (h : 3 ≤ ones n ∧ SubQ bs n) : subsL bs (n + 1) = subsL bs n ++ [pts n] := by
  unfold subsL
  rw [List.range_succ, List.filter_append, List.map_append]
  simp only [List.filter_cons, List.filter_nil, decide_eq_true h, if_true, List.map_cons, List.map_nil]
theorem subsL_no {n : Nat} (h : ¬ (3 ≤ ones n ∧ SubQ bs n)) : subsL bs (n + 1) = subsL bs n := by
  unfold subsL
  rw [List.range_succ, List.filter_append, List.map_append]
  simp only [List.filter_cons, List.filter_nil, decide_eq_false h, List.append_nil, List.map_nil, if_neg (show ¬ false = true by decide), Bool.false_eq_true, if_false]
theorem subsL_len {n : Nat} : (subsL bs n).length ≤ n := by
  unfold subsL
  rw [List.length_map]
  exact Nat.le_trans (List.length_filter_le _ _) (by simp)
theorem subsL_small {n : Nat} : ∀ q ∈ subsL bs n, q.length ≤ 15 := by
  intro q hq
  obtain ⟨s, _, rfl⟩ := List.mem_map.1 hq
  exact pts_len s
end
/-- Shorter lists first, then in their order. -/
def cfB (a b : List Int) : Int := if ¬ (a.length : Int) = b.length then (a.length : Int) - b.length else cmpL a b
def leQ (a b : List Int) : Prop := ¬ cfB b a < 0
theorem cfB_lt {a b : List Int} : cfB a b < 0 ↔ a.length < b.length ∨ (a.length = b.length ∧ ltL a b) := by
  unfold cfB ltL
  split <;> omega
theorem swoQ : SWO (ltOf cfB) := by
  have e : ∀ x y : List Int, ltOf cfB x y = decide (x.length < y.length ∨ (x.length = y.length ∧ ltL x y)) := fun x y => by
    unfold ltOf
    exact decide_eq_decide.2 cfB_lt
  refine ⟨fun x => ?_, fun x y z h1 h2 => ?_, fun x y z h1 h2 => ?_⟩
  · rw [e]; exact decide_eq_false (fun h => h.elim (fun h => by omega) (fun h => ltL_irrefl x h.2))
  · rw [e] at *
    simp only [decide_eq_true_eq] at *
    rcases h1 with h1 | ⟨h1, h1'⟩
    · left; omega
    · rcases h2 with h2 | ⟨h2, h2'⟩
      · left; omega
      · exact .inr ⟨by omega, ltL_trans h1' h2'⟩
  · rw [e] at *
    simp only [decide_eq_false_iff_not] at *
    rintro (h3 | ⟨h3, h3'⟩)
    · by_cases h4 : x.length < y.length
      · exact h1 (.inl h4)
      · exact h2 (.inl (by omega))
    · have h4 : x.length = y.length := by
        rcases Nat.lt_trichotomy x.length y.length with h | h | h
        · exact absurd (.inl h) h1
        · exact h
        · exact absurd (.inl (by omega)) h2
      have g1 : ¬ ltL x y := fun h => h1 (.inr ⟨h4, h⟩)
      have g2 : ¬ ltL y z := fun h => h2 (.inr ⟨by omega, h⟩)
      by_cases h5 : ltL y x
      · exact g2 (ltL_trans h5 h3')
      · have := ltL_tri g1 h5
        subst this
        exact g2 h3'
theorem leQ_anti {a b : List Int} (h1 : leQ a b) (h2 : leQ b a) : a = b := by
  unfold leQ at *
  rw [cfB_lt] at *
  have h4 : a.length = b.length := by
    rcases Nat.lt_trichotomy a.length b.length with h | h | h
    · exact absurd (.inl h) h2
    · exact h
    · exact absurd (.inl h) h1
  exact ltL_tri (fun h => h2 (.inr ⟨h4, h⟩)) (fun h => h1 (.inr ⟨h4.symm, h⟩))
/-- What both Subsystems return. -/
def SubR (v : Int) (bs : List B3) (l : List (List Int)) : Prop := (STS v bs → l.Perm (subsL bs (2 ^ v.toNat)) ∧ l.Pairwise leQ) ∧ (¬ STS v bs → l = [])
theorem SubR.unique {v : Int} {bs : List B3} {l m : List (List Int)} (h1 : SubR v bs l) (h2 : SubR v bs m) : l = m := by
  by_cases h : STS v bs
  · obtain ⟨p1, s1⟩ := h1.1 h
    obtain ⟨p2, s2⟩ := h2.1 h
    exact (p1.trans p2.symm).eq_of_pairwise (fun a b _ _ k1 k2 => leQ_anti k1 k2) s1 s2
  · rw [h1.2 h, h2.2 h]
theorem SubR.small {v : Int} {bs : List B3} {l : List (List Int)} (h1 : SubR v bs l) : (∀ q ∈ l, q.length ≤ 15) ∧ l.length ≤ 32768 := by
  by_cases h : STS v bs
  · obtain ⟨p1, s1⟩ := h1.1 h
    have hv := h.hi
    refine ⟨fun q hq => subsL_small q (p1.mem_iff.1 hq), ?_⟩
    rw [p1.length_eq]
    exact Nat.le_trans subsL_len (Nat.pow_le_pow_right (by decide) (by omega : v.toNat ≤ 15))
  · rw [h1.2 h]; simp
end Go.Vc
namespace Go.Vc
theorem tab_bd {v : Int} {bs : List B3} (h : STS v bs) {x y : Int} (hxy : x ≠ y) (hn : ¬ tab bs x y = -1) : 0 ≤ tab bs x y ∧ tab bs x y < 15 := by
  obtain ⟨d, hd, t⟩ := tab_some h hxy hn
  have hg := good.pts ((h.good d hd).mono h.hi)
  have h3 := t.h3
  unfold has at h3
  omega
end Go.Vc
namespace Go.Vc
theorem Ld.takeK {α : Type} {C : Cod α} {w0 : World} {H : List Assn} {A : Option Addr} {xs : List α} {k : Nat} (h : ∀ w, St w0 H w → Rd C w A xs) : ∀ w, St w0 H w → Rd C w A (xs.take k) := fun w hw => (h w hw).take k
end Go.Vc
namespace Go.Vc
theorem leQ_trans {a b c : List Int} (h1 : leQ a b) (h2 : leQ b c) : leQ a c := by
  have h := swoQ.ntrans c b a
  unfold Go.Proofs.ltOf at h
  simp only [decide_eq_false_iff_not] at h
  exact h h2 h1
theorem leQ_of_lt {a b : List Int} (h : cfB a b < 0) : leQ a b := by
  intro h2
  have k1 := swoQ.trans a b a
  have k2 := swoQ.irrefl a
  unfold Go.Proofs.ltOf at k1 k2
  simp only [decide_eq_true_eq, decide_eq_false_iff_not] at k1 k2
  exact k2 (k1 h h2)
theorem insQ {L : List (List Int)} {q : List Int} {y : Nat} (hs : L.Pairwise leQ) (hy : y ≤ L.length) (hhi : ∀ j (hj : j < L.length), y ≤ j → cfB q L[j] < 0) (hlo : ∀ (h : 0 < y), ¬ cfB q (L[y - 1]'(by omega)) < 0) : (L.take y ++ q :: L.drop y).Pairwise leQ := by
  have hp := List.pairwise_iff_getElem.1 hs
  rw [List.pairwise_append]
  refine ⟨hs.sublist (List.take_sublist _ _), List.pairwise_cons.2 ⟨fun x hx => ?_, hs.sublist (List.drop_sublist _ _)⟩, fun a ha b hb => ?_⟩
  · obtain ⟨j, hj, rfl⟩ := List.mem_iff_getElem.1 hx
    rw [List.getElem_drop]
    rw [List.length_drop] at hj
    exact leQ_of_lt (hhi _ (by omega) (by omega))
  · obtain ⟨j, hj, rfl⟩ := List.mem_iff_getElem.1 ha
    rw [List.getElem_take]
    rw [List.length_take] at hj
    rcases List.mem_cons.1 hb with rfl | hb
    · have h1 : leQ (L[y - 1]'(by omega)) b := hlo (by omega)
      by_cases e : j = y - 1
      · subst e; exact h1
      · exact leQ_trans (hp j (y - 1) (by omega) (by omega) (by omega)) h1
    · obtain ⟨k, hk, rfl⟩ := List.mem_iff_getElem.1 hb
      rw [List.getElem_drop]
      rw [List.length_drop] at hk
      exact hp j (y + k) (by omega) (by omega) (by omega)
theorem insQ_perm {out : List SL} {S : List (List Int)} {s : Sl} {q : List Int} {y : Nat} (h : (conts out).Perm S) : (conts (out.take y ++ (s, q) :: out.drop y)).Perm (S ++ [q]) := by
  rw [conts_put]
  refine List.perm_middle.trans ?_
  rw [List.take_append_drop]
  exact (h.cons q).trans (List.perm_append_comm (l₁ := [q]))
theorem shift_v {out : List SL} {z : Sl} {y : Nat} (hn : LenOk out) (hy : y ≤ out.length) (h0 : 0 < y) (h2 : y - 1 < (shiftAt (tops out) z y).length) : ((shiftAt (tops out) z y)[y - 1]).v = .slice (out[y - 1]'(by omega)).1.A (out[y - 1]'(by omega)).2.length (out[y - 1]'(by omega)).1.c := by
  rw [shiftAt_lt (by rw [tops_len]; exact hy) (by omega), tops_get]
  unfold Sl.v
  rw [(hn _ (List.getElem_mem _)).1]
end Go.Vc
namespace Go.Vc
noncomputable instance (bs : List B3) (s : Nat) : Decidable (Clo bs s) := Classical.propDecidable _
theorem mul15 : ∀ n : Nat, n < 16 → (0 ≤ (n : Int) * ((n : Int) - 1) ∧ (n : Int) * ((n : Int) - 1) ≤ 210) ∧ (n : Int) * ((n : Int) - 1) = ((n * (n - 1) : Nat) : Int) := by decide
end Go.Vc
namespace Go.Vc
theorem subsL_one {bs : List B3} : subsL bs 1 = [] := by
  rw [subsL_no (n := 0) (fun h => by have := h.1; rw [ones_zero] at this; omega)]
  rfl
end Go.Vc
/-
  Plain words: cycles of a point by two others in a full system.
-/
namespace Go.Vc
def Pt (v x : Int) : Prop := 0 ≤ x ∧ x < v
noncomputable instance (v x : Int) : Decidable (Pt v x) := Classical.propDecidable _
/-- Each pair is in a block. -/
def AllP (v : Int) (bs : List B3) : Prop := ∀ x y, Pt v x → Pt v y → x ≠ y → ∃ d ∈ bs, has d x ∧ has d y
section
variable {v : Int} {bs : List B3} {a b p x y : Int} {m n N : Nat}
/-- The third point: what is known of it. -/
structure Th (v : Int) (bs : List B3) (x y z : Int) : Prop where
  blk : ∃ d ∈ bs, Tri d x y z
  pt : Pt v z
  nx : z ≠ x
  ny : z ≠ y
theorem th_of (h : STS v bs) (hf : AllP v bs) (hx : Pt v x) (hy : Pt v y) (hxy : x ≠ y) : Th v bs x y (third bs x y) := by
  obtain ⟨d, hd, k1, k2⟩ := hf x y hx hy hxy
  obtain ⟨z, t⟩ := tri_third (h.good d hd) hxy k1 k2
  obtain ⟨k, hk, rfl⟩ := List.mem_iff_getElem.1 hd
  rw [(third_tri h hk t).2]
  have hg := h.good _ hd
  have h3 := t.h3
  refine ⟨⟨_, hd, t⟩, ?_, fun e => t.2.1 e.symm, fun e => t.2.2.1 e.symm⟩
  unfold good at hg
  unfold has at h3
  unfold Pt
  omega
theorem Th.eq (h : STS v bs) {z : Int} (t : Th v bs x y z) : third bs x y = z ∧ tab bs x y = z := by
  obtain ⟨d, hd, t⟩ := t.blk
  refine ⟨?_, tab_tri h hd t⟩
  obtain ⟨k, hk, rfl⟩ := List.mem_iff_getElem.1 hd
  exact (third_tri h hk t).2
theorem Th.back {z : Int} (h : STS v bs) (t : Th v bs x y z) : third bs x z = y := by
  obtain ⟨d, hd, t⟩ := t.blk
  obtain ⟨k, hk, rfl⟩ := List.mem_iff_getElem.1 hd
  exact (third_tri h hk t.swap).2
/-- The points that can be in a cycle. -/
structure Cy (v : Int) (bs : List B3) (a b x : Int) : Prop where
  pt : Pt v x
  na : x ≠ a
  nb : x ≠ b
  nc : x ≠ third bs a b
structure Ab (v : Int) (bs : List B3) (a b : Int) : Prop where
  h : STS v bs
  f : AllP v bs
  pa : Pt v a
  pb : Pt v b
  ne : a ≠ b
theorem Ab.symm (g : Ab v bs a b) : Ab v bs b a := ⟨g.h, g.f, g.pb, g.pa, fun e => g.ne e.symm⟩
theorem Ab.third (g : Ab v bs a b) : third bs b a = third bs a b := by
  have t := th_of g.h g.f g.pa g.pb g.ne
  obtain ⟨d, hd, t⟩ := t.blk
  obtain ⟨k, hk, rfl⟩ := List.mem_iff_getElem.1 hd
  exact (third_tri g.h hk t.rot).2
theorem Cy.symm (g : Ab v bs a b) (c : Cy v bs a b x) : Cy v bs b a x := ⟨c.pt, c.nb, c.na, by rw [g.third]; exact c.nc⟩
theorem Cy.step (g : Ab v bs a b) (c : Cy v bs a b x) : Th v bs a x (third bs a x) ∧ Cy v bs a b (third bs a x) := by
  have t := th_of g.h g.f g.pa c.pt (fun e => c.na e.symm)
  have bk := t.back g.h
  refine ⟨t, t.pt, t.nx, fun e => ?_, fun e => ?_⟩
  · rw [e] at bk
    exact c.nc bk.symm
  · have t2 := th_of g.h g.f g.pa g.pb g.ne
    rw [e, t2.back g.h] at bk
    exact c.nb bk.symm
/-- The cycle: by a and by b in turn. -/
def cm (a b : Int) (m : Nat) : Int := if m % 2 = 0 then a else b
noncomputable def uc (bs : List B3) (a b p : Int) : Nat → Int
  | 0 => p
  | m + 1 => third bs (cm a b m) (uc bs a b p m)
/-- The length of the cycle is 2 N. -/
structure Per (bs : List B3) (a b p : Int) (N : Nat) : Prop where
  pos : 0 < N
  le : N ≤ 15
  ret : uc bs a b p (2 * N) = p
  least : ∀ k, 0 < k → k < N → uc bs a b p (2 * k) ≠ p
end
end Go.Vc
/-
  The calculus, part 25: numbers that are drawn from a code: words of 64 bits that wrap around, bytes, the source.
-/
namespace Go.Vc
open Go Go.RowKit
theorem wrapU (n : Nat) : IntKind.u64.wrap (n : Int) = ((n % 18446744073709551616 : Nat) : Int) := by
  simp only [IntKind.wrap, IntKind.bits, IntKind.signed, Bool.false_and, Bool.false_eq_true, if_false]
  omega
theorem dec_ne {p q : Prop} [Decidable p] [Decidable q] (h : p ↔ q) (c : (!decide p == decide q) = true) : False := by
  have e : decide p = decide q := decide_eq_decide.2 h
  rw [e] at c
  simp at c
/-- Bytes. -/
def U8C : Cod UInt8 := ⟨1, fun x => [.int .u8 (x.toNat : Int)], by decide, fun _ => rfl, fun _ u hu => by simp at hu; subst hu; rfl⟩
/-- Texts. -/
def StrC : Cod ByteArray := ⟨1, fun x => [.string x], by decide, fun _ => rfl, fun _ u hu => by simp at hu; subst hu; rfl⟩
section
variable {P : Program} {w0 w : World} {H : List Assn} {σ : Sig} {o : Oper} {T T2 : TypeId} {x y : Operand} {m n : Nat}
theorem Pu.mulU (ho : o.op = .binOp .mul T x y T2) (hx : ev σ x = some (.int .u64 (m : Int))) (hy : ev σ y = some (.int .u64 (n : Int))) : Pu P w0 o σ H (.int .u64 ((m * n % 18446744073709551616 : Nat) : Int)) := by
  have := Pu.mulW (P := P) (w0 := w0) (H := H) ho hx hy
  rwa [show (m : Int) * (n : Int) = ((m * n : Nat) : Int) by push_cast; rfl, wrapU] at this
theorem Pu.addU (ho : o.op = .binOp .add T x y T2) (hx : ev σ x = some (.int .u64 (m : Int))) (hy : ev σ y = some (.int .u64 (n : Int))) : Pu P w0 o σ H (.int .u64 (((m + n) % 18446744073709551616 : Nat) : Int)) := by
  have := Pu.add (P := P) (w0 := w0) (H := H) ho hx hy
  rwa [show (m : Int) + (n : Int) = ((m + n : Nat) : Int) by push_cast; rfl, wrapU] at this
theorem Pu.andU (hm : m < 18446744073709551616) (hn : n < 18446744073709551616) (ho : o.op = .binOp .and T x y T2) (hx : ev σ x = some (.int .u64 (m : Int))) (hy : ev σ y = some (.int .u64 (n : Int))) : Pu P w0 o σ H (.int .u64 ((m &&& n : Nat) : Int)) :=
  Pu.bin ho hx hy fun w => by
    have h1 : (BitVec.ofInt IntKind.u64.bits (m : Int) &&& BitVec.ofInt IntKind.u64.bits (n : Int)).toNat = m &&& n := by
      rw [BitVec.toNat_and, ofInt_nat (by show m < 2 ^ 64; omega), ofInt_nat (by show n < 2 ^ 64; omega)]
    have h2 : m &&& n < 18446744073709551616 := Nat.lt_of_le_of_lt Nat.and_le_left hm
    simp only [Go.binOp, Op.intBits, h1, wrap_u64 h2, ne_eq, not_true, if_false]
    rfl
theorem and_le_r {m n : Nat} : m &&& n ≤ n := Nat.and_le_right
end
/-- One of three comes next. -/
theorem D.either3 {P : Program} {w0 : World} {Q : Exit → Act → World → Prop} {σ : Sig} {H : List Assn} {N : Nat} {ops : Array Oper} {Hs : List Assn} (hwf : wfB ops = true) {effs done : List Nat} {e1 e2 e3 : Nat} (hcl : closedL ops done [e1, e2, e3] = true) (h1 : Cand P N w0 ops Q effs done σ Hs H e1) (h2 : Cand P N w0 ops Q effs done σ Hs H e2) (h3 : Cand P N w0 ops Q effs done σ Hs H e3) : D P N w0 ops Q effs done σ Hs H := by
  refine D.effS hwf [e1, e2, e3] e1 (by simp) hcl ?_
  intro e he
  simp only [List.mem_cons, List.not_mem_nil, or_false] at he
  rcases he with rfl | rfl | rfl
  · exact h1
  · exact h2
  · exact h3
/-! ### append(s, ys...) where ys may be nil -/
section
variable {α : Type} {P : Program} {w0 w : World} {Q : Exit → Act → World → Prop} {H H' : List Assn} {σ : Sig} {o : Oper}
theorem Own.nilc {w : World} {T i c : Nat} {C : Cod α} {A : Option Addr} {xs : List α} (hw : St w0 H w) (hp : pull i H = Option.some (Own T C A c xs, H')) (hA : A = none) : xs.length = 0 ∧ c = 0 := by
  obtain ⟨F, ho, hF⟩ := hw.get i hp
  subst hA
  rcases ho.2 with ⟨h1, h2⟩ | ⟨g, cap, cur, hvv, _⟩
  · injection h1 with h3 h4 h5
    exact ⟨h2, h5⟩
  · injection hvv with h3
    cases h3
theorem Ef.appendN {T e sz bytes c c2 m : Nat} {x y : Operand} {z : Value} {C : Cod α} {A A2 : Option Addr} {xs ys : List α} (i : Nat) (ho : o.op = .call { callee := .builtin .append, args := #[x, y], argTypes := #[T, T] }) (hT : P.underlying T = some (.slice e)) (hi : Inf P e sz bytes z) (hs : sz = C.sz) (hzc : z.cells.size = sz)
    (hx : ev σ x = some (.slice A xs.length c)) (hy : ev σ y = some (.slice A2 m c2)) (hp : pull i H = some (Own e C A c xs, H')) (hm : m = ys.length) (hA2 : ∀ w, St w0 H w → A2 = none → ys.length = 0 ∧ c2 = 0) (hr : ∀ w, St w0 H w → Rd C w A2 ys) (hb : (xs.length + ys.length) * bytes ≤ 140737488355328) (hbp : 0 < bytes) :
    Ef P w0 o σ H Q (fun v H'' => ∃ A' c', v = .slice A' (xs ++ ys).length c' ∧ H'' = repl i H (Own e C A' c' (xs ++ ys)) ∧ (A.isSome = true ∨ 0 < ys.length → A'.isSome = true)) := by
  cases A2 with
  | some q => exact Ef.append i ho hT hi hs hzc hx hy hp hm rfl hr hb hbp
  | none =>
    refine Ef.mk fun w hw a ha => ?_
    have h1 := ha x (by simp [ho, Op.operands, Call.operands]) _ hx
    have h2 := ha y (by simp [ho, Op.operands, Call.operands]) _ hy
    obtain ⟨h3, h4⟩ := hA2 w hw rfl
    subst hs
    subst hm
    subst h4
    have hys : ys = [] := List.length_eq_zero_iff.1 h3
    subst hys
    obtain ⟨i0, hi1, hi2, hi3, hi4⟩ := hi.parts
    obtain ⟨F, hown, hF⟩ := hw.get i hp
    have hrun := run_append_owned_none (P := P) (w := w) 0 T o.type e i0 C.sz hT hi1 _ xs.length (xs.flatMap C.enc) hown
    refine ⟨.slice A xs.length c, w, by simp only [List.length_nil] at h2; simp [execOp, ho, resolve, invoke, builtin, h1, h2, hrun], repl i H (Own e C A c (xs ++ [])), ?_, A, c, by rw [List.append_nil], rfl, fun h => by rcases h with h | h; (· exact h); (· simp at h)⟩
    rw [List.append_nil]
    exact (hw.perm (pull_perm hp)).perm (repl_perm hp)
end
/-- The source: the code, how much of it is used, a word. -/
def SrcK (T : TypeId) (cA : Option Addr) (cc : Nat) (code : List UInt8) (s : Nat) : Assn :=
  .exi fun q : Nat × Nat => .sep (.pur (q.1 ≤ code.length ∧ q.2 < 18446744073709551616)) (Blk s [.slice cA code.length cc, .int .i64 (q.1 : Int), .int .u64 (q.2 : Int)] T)
section
variable {P : Program} {N : Nat} {w0 w : World} {Q : Exit → Act → World → Prop} {σ : Sig} {H H' : List Assn} {T : TypeId} {cA : Option Addr} {cc s : Nat} {code : List UInt8}
theorem SrcK.elim (hw : St w0 (SrcK T cA cc code s :: H) w) : ∃ a h : Nat, (a ≤ code.length ∧ h < 18446744073709551616) ∧ St w0 (Blk s [.slice cA code.length cc, .int .i64 (a : Int), .int .u64 (h : Int)] T :: H) w := by
  obtain ⟨q, hw⟩ := hw.exi
  have h := hw.sep.pur
  exact ⟨q.1, q.2, h.1, h.2⟩
theorem SrcK.mk {a h : Nat} (hp : a ≤ code.length ∧ h < 18446744073709551616) (hw : St w0 (Blk s [.slice cA code.length cc, .int .i64 (a : Int), .int .u64 (h : Int)] T :: H) w) : St w0 (SrcK T cA cc code s :: H) w :=
  St.mkExi (a, h) (St.unsep (St.addPur hp hw))
theorem V.srcK {c : Code} (h : ∀ a h : Nat, a ≤ code.length → h < 18446744073709551616 → V P N w0 c Q σ (Blk s [.slice cA code.length cc, .int .i64 (a : Int), .int .u64 (h : Int)] T :: H)) : V P N w0 c Q σ (SrcK T cA cc code s :: H) := by
  intro w hw
  obtain ⟨a, h', h1, h2⟩ := SrcK.elim hw
  exact h a h' h1.1 h1.2 w h2
end
end Go.Vc
/-
  Plain words: systems that are drawn: their blocks are blocks.
-/
namespace Go.Vc
open Go
/-- A list of blocks on 3 to 15 points. -/
def DrS (n : Nat) (v : Int) (bs : List B3) : Prop := (3 ≤ v ∧ v ≤ 15) ∧ (∀ b ∈ bs, good v b) ∧ bs.length ≤ n
theorem DrS.mono {n m : Nat} {v : Int} {bs : List B3} (h : DrS n v bs) (hm : n ≤ m) : DrS m v bs := ⟨h.1, h.2.1, Nat.le_trans h.2.2 hm⟩
theorem DrS.perm {n : Nat} {v : Int} {bs cs : List B3} (h : DrS n v bs) (hp : cs.Perm bs) : DrS n v cs := ⟨h.1, fun b hb => h.2.1 b (hp.mem_iff.1 hb), by rw [hp.length_eq]; exact h.2.2⟩
theorem DrS.g15 {n : Nat} {v : Int} {bs : List B3} (h : DrS n v bs) : ∀ b ∈ bs, good 15 b := fun b hb => (h.2.1 b hb).mono h.1.2
/-- The numbers below n, each once. -/
def OrdP (n : Int) (p : List Int) : Prop := (p.length : Int) = n ∧ p.Nodup ∧ ∀ q ∈ p, 0 ≤ q ∧ q < n
theorem ord_nil : OrdP 0 [] := ⟨rfl, List.nodup_nil, fun q h => by simp at h⟩
theorem ord_ins {p : List Int} {k i : Nat} (h : OrdP (i : Int) p) : OrdP ((i + 1 : Nat) : Int) (p.take k ++ [(i : Int)] ++ p.drop k) := by
  have hp : (p.take k ++ [(i : Int)] ++ p.drop k).Perm ((i : Int) :: p) := by
    rw [List.append_assoc]
    have h1 : (p.take k ++ ([(i : Int)] ++ p.drop k)).Perm ((i : Int) :: (p.take k ++ p.drop k)) := List.perm_middle
    rwa [List.take_append_drop] at h1
  refine ⟨?_, ?_, fun q hq => ?_⟩
  · have h1 := h.1
    have h2 := hp.length_eq
    rw [List.length_cons] at h2
    omega
  · rw [hp.nodup_iff, List.nodup_cons]
    exact ⟨fun hm => by have := (h.2.2 _ hm).2; omega, h.2.1⟩
  · rcases List.mem_cons.1 (hp.mem_iff.1 hq) with rfl | hq
    · omega
    · have := h.2.2 q hq; omega
theorem good_bk3 {v a b c : Int} (ha : 0 ≤ a ∧ a < v) (hb : 0 ≤ b ∧ b < v) (hc : 0 ≤ c ∧ c < v) (h1 : a ≠ b) (h2 : a ≠ c) (h3 : b ≠ c) : good v (bk3 a b c) := by
  unfold good bk3 mi3 lo3 hi3
  simp only
  omega
theorem ord_ne {n : Int} {p : List Int} (h : OrdP n p) {i j : Nat} (hi : i < p.length) (hj : j < p.length) (hij : i ≠ j) : p[i] ≠ p[j] := fun e => hij ((List.getElem_inj h.2.1).1 e)
theorem ord_at {n : Int} {p : List Int} (h : OrdP n p) {i : Nat} (hi : i < p.length) : 0 ≤ p[i] ∧ p[i] < n := h.2.2 _ (List.getElem_mem hi)
theorem good_ren {v : Int} {p : List Int} (h : OrdP v p) {b : B3} (hb : good v b) : good v (renB p b) := by
  have hl := h.1
  unfold good at hb
  unfold renB
  rw [getD_at (by omega), getD_at (by omega), getD_at (by omega)]
  exact good_bk3 (ord_at h _) (ord_at h _) (ord_at h _) (ord_ne h _ _ (by omega)) (ord_ne h _ _ (by omega)) (ord_ne h _ _ (by omega))
theorem DrS.ren {n : Nat} {v : Int} {bs cs : List B3} {p : List Int} (h : DrS n v bs) (ho : OrdP v p) (hp : cs.Perm (bs.map (renB p))) : DrS n v cs := by
  refine ⟨h.1, fun b hb => ?_, by rw [hp.length_eq, List.length_map]; exact h.2.2⟩
  obtain ⟨d, hd, rfl⟩ := List.mem_map.1 (hp.mem_iff.1 hb)
  exact good_ren ho (h.2.1 d hd)
theorem third_good {v : Int} {bs : List B3} (hg : ∀ d ∈ bs, good v d) {a b : Int} (hab : a ≠ b) (h : ¬ third bs a b < 0) : (0 ≤ third bs a b ∧ third bs a b < v) ∧ third bs a b ≠ a ∧ third bs a b ≠ b := by
  unfold third at *
  split at h
  · exact absurd (by decide) h
  · rename_i hn
    rw [if_neg hn]
    unfold num at *
    obtain ⟨i, hi, q1, q2, _⟩ := idxP_at (p := fun c => has c a ∧ has c b) (xs := bs) (fun e => hn (by rw [e]; decide))
    rw [q1] at h ⊢
    rw [blk_get hi] at h ⊢
    have hgi := hg _ (List.getElem_mem hi)
    unfold good at hgi
    unfold has at q2
    omega
theorem DrS.cut {n : Nat} {v : Int} {bs cs : List B3} (h : DrS n v bs) {i : Nat} (hc : cs = bs.take i ++ bs.drop (i + 1)) : DrS n v cs := by
  subst hc
  refine ⟨h.1, fun b hb => ?_, ?_⟩
  · rcases List.mem_append.1 hb with hb | hb
    · exact h.2.1 b (List.mem_of_mem_take hb)
    · exact h.2.1 b (List.mem_of_mem_drop hb)
  · have := h.2.2
    rw [List.length_append, List.length_take, List.length_drop]
    omega
/-- The names of systems. -/
def nmL : List ByteArray := [ByteArray.mk #[115, 105, 110, 103, 108, 101], ByteArray.mk #[102, 97, 110, 111], ByteArray.mk #[97, 102, 102, 105, 110, 101], ByteArray.mk #[99, 121, 99, 108, 105, 99, 49, 51], ByteArray.mk #[99, 121, 99, 108, 105, 99, 49, 53], ByteArray.mk #[112, 114, 111, 106, 101, 99, 116, 105, 118, 101, 49, 53]]
theorem good_snoc {v : Int} {bs : List B3} (h : ∀ b ∈ bs, good v b) {d : B3} (hd : good v d) : ∀ b ∈ bs ++ [d], good v b := fun b hb => by
  rcases List.mem_append.1 hb with hb | hb
  · exact h b hb
  · rw [List.mem_singleton.1 hb]; exact hd
section
variable {P : Program} {w0 w : World} {H : List Assn} {σ : Sig} {o : Oper} {T T2 : TypeId} {x y : Operand} {m n : Nat}
theorem xor_lt {m n : Nat} (h : m < 9223372036854775808) (h' : n < 9223372036854775808) : m ^^^ n < 9223372036854775808 := Nat.xor_lt_two_pow (n := 63) h h'
theorem Pu.xor {k : IntKind} (hk : K64 k) (hm : m < 9223372036854775808) (hn : n < 9223372036854775808) (ho : o.op = .binOp .xor T x y T2) (hx : ev σ x = some (.int k (m : Int))) (hy : ev σ y = some (.int k (n : Int))) : Pu P w0 o σ H (.int k ((m ^^^ n : Nat) : Int)) :=
  Pu.bin ho hx hy fun w => by
    have h1 : (BitVec.ofInt k.bits (m : Int) ^^^ BitVec.ofInt k.bits (n : Int)).toNat = m ^^^ n := by
      rw [BitVec.toNat_xor, ofInt_nat (by rw [hk.bits]; omega), ofInt_nat (by rw [hk.bits]; omega)]
    simp only [Go.binOp, Op.intBits, h1, hk.wrap (xor_lt hm hn), ne_eq, not_true, if_false]
    rfl
end
end Go.Vc
/-
  The calculus, part 26: bytes as a statement's argument.
-/
namespace Go.Vc
open Go Go.RowKit Go.ChangeShapes Go.WideShapes
section
variable {H : Type} {enc : TypeId × Value → H} {P : Program} {w : World} {base : Nat} {spare : Nat → Bool} {held : Bool}
theorem open_bytes {t e : TypeId} {fuel : Nat} {cs : List Value} {x : DataW H × List MemPlace} (ht : P.underlying t = some (.slice e)) (he : P.underlying e = some (.int .u8)) (ce : P.cellsOf e = 1)
    (h : DataW.trod enc P w base spare held fuel t cs = some x) : ∃ (A : Option Addr) (c : Nat) (bs : List UInt8), cs = [.slice A bs.length c] ∧ bs.length ≤ 9223372036854775807 ∧ Rd U8C w A bs := by
  rcases Deep.open_slice ht h with ⟨rfl, _⟩ | ⟨a, len, cap, m, n, D, Pl, rfl, hb, hl, hm, hmm, _, hx⟩
  · exact ⟨none, 0, [], rfl, by simp, Rd.nil _ _ _⟩
  · have hlm : len ≤ m := by rw [hmm]; split <;> omega
    have each : ∀ i, i < len → ∃ b : UInt8, w.cells? base (a.add (i * U8C.sz)) U8C.sz = some (U8C.enc b) := by
      intro j hj
      obtain ⟨cs', h1, h2⟩ := hx j (by omega)
      obtain ⟨n, e0, _, hv⟩ := DataW.trod_int he h2
      subst e0
      simp [Lit.wf, IntKind.min, IntKind.max, IntKind.signed, IntKind.bits] at hv
      rw [ce] at h1
      refine ⟨UInt8.ofNat n.toNat, ?_⟩
      have e : ((UInt8.ofNat n.toNat).toNat : Int) = n := by
        rw [UInt8.toNat_ofNat']
        omega
      have e2 : U8C.enc (UInt8.ofNat n.toNat) = [.int .u8 n] := by
        show [Value.int .u8 ((UInt8.ofNat n.toNat).toNat : Int)] = _
        rw [e]
      rw [e2]
      exact h1
    obtain ⟨bs, hbl, hr⟩ := rd_of_cells each
    subst hbl
    simp only [maxLen] at hm
    exact ⟨some a, cap, bs, rfl, by omega, hr⟩
end
end Go.Vc
/-
  Plain words: spans: the least closed set that has some points.
-/
namespace Go.Vc
section
variable {v : Int} {bs : List B3} {s t u s0 : Nat} {d : B3} {x y z : Int}
/-- All points of s are in t. -/
def Inc (s t : Nat) : Prop := ∀ i, s.testBit i = true → t.testBit i = true
theorem Inc.refl (s : Nat) : Inc s s := fun _ h => h
theorem Inc.trans (h1 : Inc s t) (h2 : Inc t u) : Inc s u := fun i h => h2 i (h1 i h)
theorem Inc.antisymm (h1 : Inc s t) (h2 : Inc t s) : s = t := by
  apply Nat.eq_of_testBit_eq
  intro i
  cases h3 : s.testBit i with
  | true => exact (h1 i h3).symm
  | false =>
    cases h4 : t.testBit i with
    | false => rfl
    | true => rw [h2 i h4] at h3; cases h3
theorem inc_pts (h : Inc s t) (hx : x ∈ pts s) : x ∈ pts t := by
  obtain ⟨h1, h2, h3⟩ := mem_pts.1 hx
  exact mem_pts.2 ⟨h1, h2, h _ h3⟩
theorem inc_or : Inc (s ||| t) u ↔ Inc s u ∧ Inc t u := by
  unfold Inc
  constructor
  · intro h
    exact ⟨fun i hi => h i (by rw [Nat.testBit_or, hi]; rfl), fun i hi => h i (by rw [Nat.testBit_or, hi, Bool.or_true])⟩
  · rintro ⟨h1, h2⟩ i hi
    rw [Nat.testBit_or, Bool.or_eq_true] at hi
    exact hi.elim (h1 i) (h2 i)
theorem inc_left : Inc s (s ||| t) := fun i h => by rw [Nat.testBit_or, h]; rfl
theorem clo_third (h : STS v bs) (hd : d ∈ bs) (hs : s < 32768) (hc : Clo bs s) (t : Tri d x y z) (hx : x ∈ pts s) (hy : y ∈ pts s) : z ∈ pts s := by
  apply Decidable.byContradiction
  intro hz
  have hg := h.good d hd
  refine hc d hd ?_
  rw [ones_and (hg.mono h.hi) hs]
  have ha := (t.2.2.2 d.1).1 (.inl rfl)
  have hb := (t.2.2.2 d.2.1).1 (.inr (.inl rfl))
  have hcc := (t.2.2.2 d.2.2).1 (.inr (.inr rfl))
  unfold good at hg
  unfold bl
  rcases ha with e1 | e1 | e1 <;> rcases hb with e2 | e2 | e2 <;> rcases hcc with e3 | e3 | e3 <;> first | (exfalso; omega) | (rw [e1, e2, e3]; simp [List.filter_cons, hx, hy, hz])
theorem clo_of (h : STS v bs) (hs : s < 32768) (hc : ∀ d ∈ bs, ∀ x y z, Tri d x y z → x ∈ pts s → y ∈ pts s → z ∈ pts s) : Clo bs s := by
  intro d hd h2
  have hg := h.good d hd
  rw [ones_and (hg.mono h.hi) hs] at h2
  have hg' := hg
  unfold good at hg'
  have t : Tri d d.1 d.2.1 d.2.2 := tri_of hg (.inl rfl) (.inr (.inl rfl)) (.inr (.inr rfl)) (by omega) (by omega) (by omega)
  have k1 := hc d hd _ _ _ t
  have k2 := hc d hd _ _ _ t.swap
  have k3 := hc d hd _ _ _ t.rot.swap
  unfold bl at h2
  by_cases a : d.1 ∈ pts s <;> by_cases b : d.2.1 ∈ pts s <;> by_cases c : d.2.2 ∈ pts s <;> simp_all [List.filter_cons]
/-- A span on its way. -/
structure SpI (bs : List B3) (s0 s : Nat) : Prop where
  lt : s < 32768
  inc : Inc s0 s
  least : ∀ u, u < 32768 → Inc s0 u → Clo bs u → Inc s u
theorem spi_start (h : s0 < 32768) : SpI bs s0 s0 := ⟨h, Inc.refl _, fun _ _ h _ => h⟩
theorem inc_pow {c : Nat} : Inc (2 ^ c) u ↔ u.testBit c = true := by
  unfold Inc
  constructor
  · intro h; exact h c (by simp)
  · intro h i hi
    rw [Nat.testBit_two_pow, decide_eq_true_eq] at hi
    subst hi
    exact h
theorem or_lt15 (h1 : s < 32768) (h2 : t < 32768) : s ||| t < 32768 := Nat.or_lt_two_pow (n := 15) h1 h2
theorem spi_add (h : STS v bs) (hI : SpI bs s0 s) (hd : d ∈ bs) (t : Tri d x y z) (hx : x ∈ pts s) (hy : y ∈ pts s) : SpI bs s0 (s ||| 2 ^ z.toNat) := by
  have hp := good.pts ((h.good d hd).mono h.hi)
  have hz : 0 ≤ z ∧ z < 15 := by have := t.h3; unfold has at this; omega
  refine ⟨or_lt15 hI.lt (by have : 2 ^ z.toNat ≤ 2 ^ 14 := Nat.pow_le_pow_right (by decide) (by omega); omega), hI.inc.trans inc_left, fun u hu h1 h2 => inc_or.2 ⟨hI.least u hu h1 h2, inc_pow.2 ?_⟩⟩
  have hi := hI.least u hu h1 h2
  exact (mem_pts.1 (clo_third h hd hu h2 t (inc_pts hi hx) (inc_pts hi hy))).2.2
theorem two_in (hg : good 15 d) (hs : s < 32768) (h2 : ones (bmask d &&& s) = 2) : ∃ x y z, Tri d x y z ∧ x ∈ pts s ∧ y ∈ pts s ∧ z ∉ pts s := by
  rw [ones_and hg hs] at h2
  have hg' := hg
  unfold good at hg'
  have t : Tri d d.1 d.2.1 d.2.2 := tri_of hg (.inl rfl) (.inr (.inl rfl)) (.inr (.inr rfl)) (by omega) (by omega) (by omega)
  unfold bl at h2
  by_cases a : d.1 ∈ pts s <;> by_cases b : d.2.1 ∈ pts s <;> by_cases c : d.2.2 ∈ pts s <;> first | (exfalso; simp [List.filter_cons, a, b, c] at h2; done) | exact ⟨_, _, _, t, a, b, c⟩ | exact ⟨_, _, _, t.swap, a, c, b⟩ | exact ⟨_, _, _, t.rot.swap, b, c, a⟩
theorem spi_block (h : STS v bs) (hI : SpI bs s0 s) (hd : d ∈ bs) (h2 : ones (bmask d &&& s) = 2) : SpI bs s0 (s ||| bmask d) ∧ s < s ||| bmask d := by
  have hg := (h.good d hd).mono h.hi
  have hp := good.pts hg
  obtain ⟨x, y, z, t, hx, hy, hz⟩ := two_in hg hI.lt h2
  have hzb : 0 ≤ z ∧ z < 15 := by have := t.h3; unfold has at this; omega
  have e : s ||| bmask d = s ||| 2 ^ z.toNat := by
    apply Inc.antisymm
    · refine inc_or.2 ⟨inc_left, fun i hi => ?_⟩
      have hi2 := (bmask_bit hg i).1 hi
      rcases (t.2.2.2 _).1 hi2 with e | e | e
      · subst e; exact inc_left _ (mem_pts.1 hx).2.2
      · subst e; exact inc_left _ (mem_pts.1 hy).2.2
      · rw [Nat.testBit_or, ← e]; simp
    · refine inc_or.2 ⟨inc_left, inc_pow.2 ?_⟩
      rw [Nat.testBit_or, (bit_has hg hzb.1).2 t.h3, Bool.or_true]
  rw [e]
  refine ⟨spi_add h hI hd t hx hy, ?_⟩
  have hnb : s.testBit z.toNat = false := by
    cases hh : s.testBit z.toNat with
    | false => rfl
    | true => exact absurd (mem_pts.2 ⟨hzb.1, hzb.2, hh⟩) hz
  have hle := Nat.left_le_or (n := s) (m := 2 ^ z.toNat)
  have hne : s ≠ s ||| 2 ^ z.toNat := fun e2 => by
    have := congrArg (fun m => m.testBit z.toNat) e2
    simp [hnb] at this
  omega
theorem lt_add {c : Nat} (h : s.testBit c = false) : s < s ||| 2 ^ c := by
  have hle := Nat.left_le_or (n := s) (m := 2 ^ c)
  have hne : s ≠ s ||| 2 ^ c := fun e2 => by
    have := congrArg (fun m => m.testBit c) e2
    simp [h] at this
  omega
/-- A span. -/
structure SpanP (bs : List B3) (s0 t : Nat) : Prop extends SpI bs s0 t where
  clo : Clo bs t
theorem SpanP.unique (h1 : SpanP bs s0 s) (h2 : SpanP bs s0 t) : s = t := (h1.least t h2.lt h2.inc h2.clo).antisymm (h2.least s h1.lt h1.inc h1.clo)
theorem SpanP.again (h : SpanP bs s0 t) : SpanP bs t t := ⟨⟨h.lt, Inc.refl _, fun _ _ h _ => h⟩, h.clo⟩
theorem span_self (h : SpanP bs s t) : t = s ↔ Clo bs s := by
  constructor
  · intro e; rw [← e]; exact h.clo
  · intro hc
    by_cases hs : s < 32768
    · exact (h.least s hs (Inc.refl _) hc).antisymm h.inc
    · exfalso
      have hle : s ≤ t := by
        apply Nat.le_of_not_lt
        intro hlt
        have h3 : s ||| t = t := Inc.antisymm (inc_or.2 ⟨h.inc, Inc.refl _⟩) (fun i hi => by rw [Nat.testBit_or, hi, Bool.or_true])
        have := Nat.left_le_or (n := s) (m := t)
        omega
      have := h.lt
      omega
/-- Each pair that was seen leads into the set. -/
def PrOk (bs : List B3) (s : Nat) (x y : Int) : Prop := tab bs x y = -1 ∨ s.testBit (tab bs x y).toNat = true
theorem tab_diag (h : STS v bs) (x : Int) : tab bs x x = -1 := (tab_left (fun b hb => (h.good b hb).three) x x).2 fun b hb hh => hh.2.2 rfl
theorem clo_pairs (h : STS v bs) (hs : s < 32768) (hp : ∀ i j, (hi : i < (pts s).length) → (hj : j < (pts s).length) → PrOk bs s (pts s)[i] (pts s)[j]) : Clo bs s := by
  refine clo_of h hs fun d hd x y z t hx hy => ?_
  obtain ⟨i, hi, rfl⟩ := List.getElem_of_mem hx
  obtain ⟨j, hj, rfl⟩ := List.getElem_of_mem hy
  have hg := good.pts ((h.good d hd).mono h.hi)
  have hz : 0 ≤ z ∧ z < 15 := by have := t.h3; unfold has at this; omega
  have h1 := hp i j hi hj
  unfold PrOk at h1
  rw [tab_tri h hd t] at h1
  exact mem_pts.2 ⟨hz.1, hz.2, by rcases h1 with h1 | h1; (· omega); (· exact h1)⟩
theorem span_round (h : STS v bs) (hI : SpI bs s0 s) (hx : x ∈ pts t) (hy : y ∈ pts t) (ht : Inc t s) (hn : ¬ tab bs x y = -1) (hb : s.testBit (tab bs x y).toNat = false) : SpI bs s0 (s ||| 2 ^ (tab bs x y).toNat) ∧ s < s ||| 2 ^ (tab bs x y).toNat := by
  have hne : x ≠ y := fun e => hn (by rw [e]; exact tab_diag h y)
  obtain ⟨d, hd, tr⟩ := tab_some h hne hn
  exact ⟨spi_add h hI hd tr (inc_pts ht hx) (inc_pts ht hy), lt_add hb⟩
/-- A set of points, as a list. -/
def SetL (v : Int) (q : List Int) : Prop := q.Pairwise (· < ·) ∧ ∀ p ∈ q, 0 ≤ p ∧ p < v
theorem setL_pts {q : List Int} (h : SetL v q) (hv : v ≤ 15) : pts (maskL q) = q := by
  refine asc_ext (pts_lt _) h.1 fun z => ?_
  rw [mem_pts]
  constructor
  · rintro ⟨h0, h1, h2⟩
    have := (maskL_bit (fun p hp => (h.2 p hp).1) z.toNat).1 h2
    rwa [Int.toNat_of_nonneg h0] at this
  · intro hz
    have hb := h.2 z hz
    exact ⟨hb.1, by omega, (maskL_bit (fun p hp => (h.2 p hp).1) z.toNat).2 (by rwa [Int.toNat_of_nonneg hb.1])⟩
theorem maskL_pts' (hs : s < 32768) : maskL (pts s) = s := by
  refine pts_inj (maskL_lt fun p hp => ?_) hs (setL_pts (v := 15) ⟨pts_lt s, fun p hp => ?_⟩ (by decide))
  · obtain ⟨h1, h2, _⟩ := mem_pts.1 hp; exact ⟨h1, h2⟩
  · obtain ⟨h1, h2, _⟩ := mem_pts.1 hp; exact ⟨h1, h2⟩
theorem full_clo (h : STS v bs) : Clo bs (2 ^ v.toNat - 1) := by
  have hlo := h.lo
  have hhi := h.hi
  have hp : 2 ^ v.toNat ≤ 2 ^ 15 := Nat.pow_le_pow_right (by decide) (by omega)
  refine clo_of h (by omega) fun d hd x y z t hx hy => ?_
  have hg := h.good d hd
  have hz : 0 ≤ z ∧ z < v := by have := t.h3; unfold good at hg; unfold has at this; omega
  exact mem_pts.2 ⟨hz.1, by omega, by rw [Nat.testBit_two_pow_sub_one]; exact decide_eq_true (by omega)⟩
theorem span_setL (h : STS v bs) {q : List Int} (hq : SetL v q) (hs : SpanP bs (maskL q) t) : SetL v (pts t) := by
  refine ⟨pts_lt t, fun p hp => ?_⟩
  have hlo := h.lo
  have hhi := h.hi
  have h2 : 2 ^ v.toNat ≤ 2 ^ 15 := Nat.pow_le_pow_right (by decide) (by omega)
  have hi := hs.least (2 ^ v.toNat - 1) (by omega) (fun i hi => by
    have := (maskL_bit (fun p hp => (hq.2 p hp).1) i).1 hi
    have := hq.2 _ this
    rw [Nat.testBit_two_pow_sub_one]
    exact decide_eq_true (by omega)) (full_clo h)
  obtain ⟨h0, h1, h3⟩ := mem_pts.1 hp
  have := hi _ h3
  rw [Nat.testBit_two_pow_sub_one] at this
  have := of_decide_eq_true this
  omega
noncomputable instance (v : Int) (q : List Int) : Decidable (SetL v q) := Classical.propDecidable _
/-- The code of a system and a set of points. -/
noncomputable def scode (v : Int) (bs : List B3) (q : List Int) : Int := if STS v bs then if SetL v q then 0 else 2 else 1
theorem sc_1 {q : List Int} (h : ¬ STS v bs) : scode v bs q = 1 := by unfold scode; rw [if_neg h]
theorem sc_2 {q : List Int} (h : STS v bs) (hq : ¬ SetL v q) : scode v bs q = 2 := by unfold scode; rw [if_pos h, if_neg hq]
theorem sc_0 {q : List Int} (h : STS v bs) (hq : SetL v q) : scode v bs q = 0 := by unfold scode; rw [if_pos h, if_pos hq]
theorem sc_ok {q : List Int} (h0 : scode v bs q = 0) : STS v bs ∧ SetL v q := by
  by_cases h : STS v bs
  · by_cases hq : SetL v q
    · exact ⟨h, hq⟩
    · rw [sc_2 h hq] at h0; exact absurd h0 (by decide)
  · rw [sc_1 h] at h0; exact absurd h0 (by decide)
/-- What both SpanOf return. -/
def SpanL (v : Int) (bs : List B3) (q o : List Int) : Prop := (scode v bs q = 0 → ∃ t, SpanP bs (maskL q) t ∧ o = pts t) ∧ (¬ scode v bs q = 0 → o = [])
theorem SpanL.unique {q o p : List Int} (h1 : SpanL v bs q o) (h2 : SpanL v bs q p) : o = p := by
  by_cases h : scode v bs q = 0
  · obtain ⟨t, k1, rfl⟩ := h1.1 h
    obtain ⟨u, k2, rfl⟩ := h2.1 h
    rw [k1.unique k2]
  · rw [h1.2 h, h2.2 h]
theorem SpanL.len {q o : List Int} (h1 : SpanL v bs q o) : o.length ≤ 15 := by
  by_cases h : scode v bs q = 0
  · obtain ⟨t, k1, rfl⟩ := h1.1 h; exact pts_len t
  · rw [h1.2 h]; simp
theorem rises_set {q : List Int} : rises v q ↔ SetL v q := by
  rw [rises_iff]
  constructor
  · intro h
    have key : ∀ d i, (hi : i + d + 1 < q.length) → q[i] < q[i + d + 1] := by
      intro d
      induction d with
      | zero => intro i hi; exact (h (i + 1) (by omega) (by omega)).2 i (by omega) rfl
      | succ d ih =>
        intro i hi
        have h1 := ih i (by omega)
        have h2 := (h (i + (d + 1) + 1) hi (by omega)).2 (i + d + 1) (by omega) (by omega)
        omega
    refine ⟨List.pairwise_iff_getElem.2 fun i j hi hj hij => ?_, fun p hp => ?_⟩
    · have := key (j - i - 1) i (by omega)
      have e : i + (j - i - 1) + 1 = j := by omega
      simp only [e] at this
      exact this
    · obtain ⟨i, hi, rfl⟩ := List.getElem_of_mem hp
      exact (h i hi (by omega)).1
  · intro h i hi _
    exact ⟨h.2 _ (List.getElem_mem hi), fun j hj e => List.pairwise_iff_getElem.1 h.1 j i hj hi (by omega)⟩
theorem setL_lt {q : List Int} (h : SetL v q) (hv : v ≤ 15) : ∀ p ∈ q, 0 ≤ p ∧ p < 15 := fun p hp => by have := h.2 p hp; omega
theorem setL_len {q : List Int} (h : SetL v q) (hv : v ≤ 15) : q.length ≤ 15 := by
  rw [← setL_pts h hv]
  exact pts_len _
theorem tab_bd' (h : STS v bs) (hn : ¬ tab bs x y = -1) : 0 ≤ tab bs x y ∧ tab bs x y < 15 := tab_bd h (fun e => hn (by rw [e]; exact tab_diag h y)) hn
/-! ### The rounds -/
def spM (s : Nat) (b : Bool) : Nat := 2 * (32768 - s) + if b then 1 else 0
/-- Within a round of the program: s is what has been reached, from sr. -/
structure RdI (bs : List B3) (s0 sr s : Nat) (b : Bool) (i j : Nat) : Prop where
  sp : SpI bs s0 s
  inc : Inc sr s
  up : b = true → sr < s
  eq : b = false → s = sr
  pr : b = false → ∀ k l, (hk : k < (pts sr).length) → (hl : l < (pts sr).length) → (k < i ∨ (k = i ∧ l < j)) → PrOk bs sr (pts sr)[k] (pts sr)[l]
section
variable {sr i j : Nat} {b : Bool}
theorem rdi_start (h : SpI bs s0 sr) : RdI bs s0 sr sr false 0 0 := ⟨h, Inc.refl _, (fun h => by cases h), fun _ => rfl, fun _ k l _ _ h => by omega⟩
theorem rdi_row (h : RdI bs s0 sr s b i j) (hj : (pts sr).length ≤ j) : RdI bs s0 sr s b (i + 1) 0 := ⟨h.sp, h.inc, h.up, h.eq, fun hb k l hk hl hh => h.pr hb k l hk hl (by omega)⟩
theorem rdi_no (h : RdI bs s0 sr s b i j) (hi : i < (pts sr).length) (hj : j < (pts sr).length) (hp : PrOk bs s (pts sr)[i] (pts sr)[j]) : RdI bs s0 sr s b i (j + 1) :=
  ⟨h.sp, h.inc, h.up, h.eq, fun hb k l hk hl hh => by
    by_cases e : k = i ∧ l = j
    · obtain ⟨rfl, rfl⟩ := e
      rwa [h.eq hb] at hp
    · exact h.pr hb k l hk hl (by omega)⟩
theorem rdi_yes (hS : STS v bs) (h : RdI bs s0 sr s b i j) (hx : x ∈ pts sr) (hy : y ∈ pts sr) (hn : ¬ tab bs x y = -1) (hb : ¬ s.testBit (tab bs x y).toNat = true) : RdI bs s0 sr (s ||| 2 ^ (tab bs x y).toNat) true i (j + 1) := by
  have h1 := span_round hS h.sp hx hy h.inc hn (by simpa using hb)
  refine ⟨h1.1, h.inc.trans inc_left, fun _ => ?_, (fun h => by cases h), (fun h => by cases h)⟩
  cases b with
  | true => have := h.up rfl; omega
  | false => have := h.eq rfl; omega
theorem rdi_end (hS : STS v bs) (h : RdI bs s0 sr s b i 0) (hi : (pts sr).length ≤ i) : SpI bs s0 s ∧ (b = false → Clo bs s) ∧ spM s b < spM sr true := by
  have hlt := h.sp.lt
  refine ⟨h.sp, fun hb => ?_, ?_⟩
  · have e := h.eq hb
    subst e
    exact clo_pairs hS hlt fun k l hk hl => h.pr hb k l hk hl (by omega)
  · unfold spM
    cases b with
    | true => have := h.up rfl; simp; omega
    | false => have := h.eq rfl; simp; omega
/-- .. of the reference: block after block. -/
structure RdS (v : Int) (bs : List B3) (s0 sr s : Nat) (b : Bool) (i : Nat) : Prop where
  lt : s < 32768
  sp : STS v bs → SpI bs s0 s
  up : b = true → sr < s
  eq : b = false → s = sr
  pr : b = false → ∀ k, (hk : k < bs.length) → k < i → ¬ ones (bmask bs[k] &&& sr) = 2
theorem rds_start (hl : sr < 32768) (h : STS v bs → SpI bs s0 sr) : RdS v bs s0 sr sr false 0 := ⟨hl, h, (fun h => by cases h), fun _ => rfl, fun _ k _ h => by omega⟩
theorem rds_no (h : RdS v bs s0 sr s b i) (hi : i < bs.length) (hn : ¬ ones (bmask bs[i] &&& s) = 2) : RdS v bs s0 sr s b (i + 1) :=
  ⟨h.lt, h.sp, h.up, h.eq, fun hb k hk hh => by
    by_cases e : k = i
    · subst e; rwa [h.eq hb] at hn
    · exact h.pr hb k hk (by omega)⟩
theorem blk_grow (hg : good 15 d) (hs : s < 32768) (h2 : ones (bmask d &&& s) = 2) : s < s ||| bmask d := by
  obtain ⟨x, y, z, t, hx, hy, hz⟩ := two_in hg hs h2
  have hp := good.pts hg
  have hzb : 0 ≤ z ∧ z < 15 := by have := t.h3; unfold has at this; omega
  have hle := Nat.left_le_or (n := s) (m := bmask d)
  have hne : s ≠ s ||| bmask d := fun e2 => by
    have h3 := congrArg (fun m => m.testBit z.toNat) e2
    simp only [Nat.testBit_or, (bit_has hg hzb.1).2 t.h3, Bool.or_true] at h3
    exact hz (mem_pts.2 ⟨hzb.1, hzb.2, h3⟩)
  omega
theorem bmask_lt15 (hg : good 15 d) : bmask d < 32768 := by
  rw [← maskL_block hg]
  refine maskL_lt fun p hp => ?_
  have := mem_bl.1 hp
  have hq := good.pts hg
  unfold has at this
  omega
theorem rds_yes (h : RdS v bs s0 sr s b i) (hi : i < bs.length) (hg : good 15 bs[i]) (h2 : ones (bmask bs[i] &&& s) = 2) : RdS v bs s0 sr (s ||| bmask bs[i]) true (i + 1) := by
  have h1 := blk_grow hg h.lt h2
  refine ⟨or_lt15 h.lt (bmask_lt15 hg), fun hS => (spi_block hS (h.sp hS) (List.getElem_mem hi) h2).1, fun _ => ?_, (fun h => by cases h), (fun h => by cases h)⟩
  cases b with
  | true => have := h.up rfl; omega
  | false => have := h.eq rfl; omega
theorem rds_end (h : RdS v bs s0 sr s b i) (hi : bs.length ≤ i) : (b = false → Clo bs s) ∧ spM s b < spM sr true := by
  have hlt := h.lt
  refine ⟨fun hb d hd => ?_, ?_⟩
  · obtain ⟨k, hk, rfl⟩ := List.getElem_of_mem hd
    have e := h.eq hb
    subst e
    exact h.pr hb k hk (by omega)
  · unfold spM
    cases b with
    | true => have := h.up rfl; simp; omega
    | false => have := h.eq rfl; simp; omega
end
theorem span_own (h : STS v bs) {q : List Int} (hq : SetL v q) {t : Nat} (hs : SpanP bs (maskL q) t) : pts t = q ↔ Clo bs (maskL q) := by
  rw [← span_self hs]
  constructor
  · intro e
    have h1 := maskL_pts' hs.lt
    rw [e] at h1
    exact h1.symm
  · intro e; rw [e]; exact setL_pts hq h.hi
end
end Go.Vc
/-
  Plain words: the blocks on a subsystem's points, and how many subsystems are blocks.
-/
namespace Go.Vc
section
variable {v : Int} {bs : List B3} {s : Nat} {q : List Int} {d e : B3}
theorem pts_code (h : (if STS v bs then if ∀ p ∈ q, Pt v p then (0 : Int) else 2 else 1) = 0) : STS v bs ∧ ∀ p ∈ q, Pt v p := by
  by_cases h1 : STS v bs
  · by_cases h2 : ∀ p ∈ q, Pt v p
    · exact ⟨h1, h2⟩
    · rw [if_pos h1, if_neg h2] at h; exact absurd h (by decide)
  · rw [if_neg h1] at h; exact absurd h (by decide)
theorem set_of_chain (hP : ∀ p ∈ q, Pt v p) (h : ∀ j (hj : j < q.length) (h2 : j + 1 < q.length), q[j] < q[j + 1]) : SetL v q := by
  have key : ∀ d i, (hi : i + d + 1 < q.length) → q[i] < q[i + d + 1] := by
    intro d
    induction d with
    | zero => intro i hi; exact h i (by omega) hi
    | succ d ih =>
      intro i hi
      have h1 := ih i (by omega)
      have h2 := h (i + d + 1) (by omega) hi
      have e : i + (d + 1) + 1 = i + d + 1 + 1 := by omega
      simp only [e]
      omega
  refine ⟨List.pairwise_iff_getElem.2 fun i j hi hj hij => ?_, fun p hp => hP p hp⟩
  have := key (j - i - 1) i (by omega)
  have e : i + (j - i - 1) + 1 = j := by omega
  simp only [e] at this
  exact this
theorem sts_mk {T : List B3} (h3 : 3 ≤ v) (hv : v ≤ 15) (hl : T.length ≤ 35) (hg : ∀ d ∈ T, good v d) (ho : T.Pairwise B3.lt) (hf : T.Pairwise fun d e => common e d ≤ 1) : STS v T := by
  refine ⟨h3, hv, hl, ?_, ?_⟩
  · intro i hi _
    exact ⟨hg _ (List.getElem_mem hi), fun j hj hji => List.pairwise_iff_getElem.1 ho j i hj hi (by omega)⟩
  · intro i hi _ j hj hji
    exact List.pairwise_iff_getElem.1 hf j i hj hi hji
theorem sts_fit (h : STS v bs) : bs.Pairwise fun d e => common e d ≤ 1 := List.pairwise_iff_getElem.2 fun i j hi hj hij => h.fits j hj hj i hi hij
/-- The place of a point in a list. -/
noncomputable def posQ (q : List Int) (p : Int) : Int := idxP (fun x => x = p) q
theorem pos_at (hq : q.Pairwise (· < ·)) {i : Nat} (hi : i < q.length) : posQ q q[i] = i :=
  idxP_found (p := fun x => x = q[i]) hi rfl (fun j hj hji e => by
    have := List.pairwise_iff_getElem.1 hq j i hj hi hji
    omega)
theorem pos_in (hq : q.Pairwise (· < ·)) {p : Int} (hp : p ∈ q) : ∃ i, ∃ hi : i < q.length, q[i] = p ∧ posQ q p = i := by
  obtain ⟨i, hi, rfl⟩ := List.getElem_of_mem hp
  exact ⟨i, hi, rfl, pos_at hq hi⟩
theorem pos_no {p : Int} (hp : p ∉ q) : posQ q p = -1 := idxP_none (fun j hj e => hp (e ▸ List.getElem_mem hj))
theorem pos_iff (hq : q.Pairwise (· < ·)) {p : Int} : 0 ≤ posQ q p ↔ p ∈ q := by
  constructor
  · intro h
    apply Decidable.byContradiction
    intro hn
    rw [pos_no hn] at h
    omega
  · intro h
    obtain ⟨i, _, _, e⟩ := pos_in hq h
    omega
theorem pos_lt (hq : q.Pairwise (· < ·)) {p r : Int} (hp : p ∈ q) (hr : r ∈ q) : posQ q p < posQ q r ↔ p < r := by
  obtain ⟨i, hi, rfl, e1⟩ := pos_in hq hp
  obtain ⟨j, hj, rfl, e2⟩ := pos_in hq hr
  rw [e1, e2]
  have hp := List.pairwise_iff_getElem.1 hq
  rcases Nat.lt_trichotomy i j with h | h | h
  · have := hp i j hi hj h; omega
  · subst h; omega
  · have := hp j i hj hi h; omega
theorem pos_eq (hq : q.Pairwise (· < ·)) {p r : Int} (hp : p ∈ q) (hr : r ∈ q) : posQ q p = posQ q r ↔ p = r := by
  have h1 := pos_lt hq hp hr
  have h2 := pos_lt hq hr hp
  omega
noncomputable def renI (q : List Int) (d : B3) : B3 := (posQ q d.1, posQ q d.2.1, posQ q d.2.2)
/-- All points of a block are in a list. -/
def onQ (q : List Int) (d : B3) : Prop := d.1 ∈ q ∧ d.2.1 ∈ q ∧ d.2.2 ∈ q
instance (q : List Int) (d : B3) : Decidable (onQ q d) := inferInstanceAs (Decidable (_ ∧ _))
noncomputable def onB (q : List Int) (bs : List B3) : List B3 := (bs.filter fun d => decide (onQ q d)).map (renI q)
theorem ren_lt (hq : q.Pairwise (· < ·)) (hd : onQ q d) (he : onQ q e) (h : B3.lt d e) : B3.lt (renI q d) (renI q e) := by
  have a1 := pos_lt hq hd.1 he.1
  have a2 := pos_eq hq hd.1 he.1
  have b1 := pos_lt hq hd.2.1 he.2.1
  have b2 := pos_eq hq hd.2.1 he.2.1
  have c1 := pos_lt hq hd.2.2 he.2.2
  have c2 := pos_eq hq hd.2.2 he.2.2
  unfold B3.lt renI at *
  simp only
  omega
theorem ren_common (hq : q.Pairwise (· < ·)) (hd : onQ q d) (he : onQ q e) : common (renI q d) (renI q e) = common d e := by
  unfold common renI
  simp only [pos_eq hq hd.1 he.1, pos_eq hq hd.1 he.2.1, pos_eq hq hd.1 he.2.2, pos_eq hq hd.2.1 he.1, pos_eq hq hd.2.1 he.2.1, pos_eq hq hd.2.1 he.2.2, pos_eq hq hd.2.2 he.1, pos_eq hq hd.2.2 he.2.1, pos_eq hq hd.2.2 he.2.2]
theorem ren_good (hq : q.Pairwise (· < ·)) (hd : onQ q d) (hg : good v d) : good (q.length : Int) (renI q d) := by
  have a1 := pos_lt hq hd.1 hd.2.1
  have a2 := pos_lt hq hd.2.1 hd.2.2
  obtain ⟨i, hi, _, e1⟩ := pos_in hq hd.1
  obtain ⟨j, hj, _, e2⟩ := pos_in hq hd.2.2
  unfold good renI at *
  simp only
  omega
theorem onB_len : (onB q bs).length ≤ bs.length := by
  unfold onB
  rw [List.length_map]
  exact List.length_filter_le _ _
theorem on_ins (h : STS v bs) : (bs.filter fun d => decide (onQ (pts s) d)) = insB bs s := by
  unfold insB
  refine List.filter_congr fun d hd => ?_
  rw [decide_eq_decide, ins_iff ((h.good d hd).mono h.hi)]
  unfold onQ has
  constructor
  · rintro ⟨h1, h2, h3⟩ z (rfl | rfl | rfl) <;> assumption
  · intro hh; exact ⟨hh _ (.inl rfl), hh _ (.inr (.inl rfl)), hh _ (.inr (.inr rfl))⟩
theorem pairwise_mem {α : Type} {R : α → α → Prop} {l : List α} (h : l.Pairwise R) : l.Pairwise fun a b => R a b ∧ a ∈ l ∧ b ∈ l :=
  List.pairwise_iff_getElem.2 fun i j hi hj hij => ⟨List.pairwise_iff_getElem.1 h i j hi hj hij, List.getElem_mem hi, List.getElem_mem hj⟩
theorem on_sts (h : STS v bs) (hs : s < 32768) (hq : SubQ bs s) (h3 : 3 ≤ (pts s).length) : STS ((pts s).length : Int) (onB (pts s) bs) ∧ 6 * ((onB (pts s) bs).length : Int) = ((pts s).length : Int) * (((pts s).length : Int) - 1) := by
  have hp := pts_lt s
  have hl := pts_len s
  refine ⟨sts_mk (by omega) (by omega) (Nat.le_trans onB_len h.few) ?_ ?_ ?_, ?_⟩
  · intro e he
    obtain ⟨d, hd, rfl⟩ := List.mem_map.1 he
    obtain ⟨h1, h2⟩ := List.mem_filter.1 hd
    exact ren_good hp (of_decide_eq_true h2) (h.good d h1)
  · unfold onB
    rw [List.pairwise_map]
    refine (pairwise_mem ((sts_lt h).filter _)).imp fun {a b} hh => ?_
    exact ren_lt hp (of_decide_eq_true (List.mem_filter.1 hh.2.1).2) (of_decide_eq_true (List.mem_filter.1 hh.2.2).2) hh.1
  · unfold onB
    rw [List.pairwise_map]
    refine (pairwise_mem ((sts_fit h).filter _)).imp fun {a b} hh => ?_
    rw [ren_common hp (of_decide_eq_true (List.mem_filter.1 hh.2.2).2) (of_decide_eq_true (List.mem_filter.1 hh.2.1).2)]
    exact hh.1
  · have hc := subq_count h hq
    have e : (onB (pts s) bs).length = inside bs s bs.length := by
      unfold onB
      rw [List.length_map, on_ins h, insB_len]
    rw [e, (mul15 (pts s).length (by omega)).2, ← hc]
    push_cast
    rfl
/-! ### Subsystems of three points -/
theorem bl_pts (hg : good 15 d) : pts (bmask d) = bl d := by
  have hp := good.pts hg
  refine asc_ext (pts_lt _) ?_ fun z => ?_
  · unfold good at hg
    unfold bl
    simp
    omega
  · rw [mem_pts, mem_bl]
    constructor
    · rintro ⟨h1, h2, h3⟩; exact (bit_has hg h1).1 h3
    · intro hz
      have hz2 : 0 ≤ z ∧ z < 15 := by unfold has at hz; omega
      exact ⟨hz2.1, hz2.2, (bit_has hg hz2.1).2 hz⟩
theorem bmask_ltv (h : STS v bs) (hd : d ∈ bs) : bmask d < 2 ^ v.toNat := by
  have hlo := h.lo
  rw [← maskL_block (h.good d hd)]
  refine maskL_lt' fun p hp => ?_
  have hg := h.good d hd
  have := mem_bl.1 hp
  unfold good at hg
  unfold has at this
  omega
theorem subq_blk (h : STS v bs) (hd : d ∈ bs) : SubQ bs (bmask d) := by
  have hg := (h.good d hd).mono h.hi
  intro x y hx hy hxy
  rw [bl_pts hg] at hx hy
  exact ⟨d, hd, mem_bl.1 hx, mem_bl.1 hy, fun z hz => by rw [bl_pts hg]; exact mem_bl.2 hz⟩
theorem subs_mem {n : Nat} : q ∈ subsL bs n ↔ ∃ m, m < n ∧ 3 ≤ ones m ∧ SubQ bs m ∧ pts m = q := by
  unfold subsL
  simp only [List.mem_map, List.mem_filter, List.mem_range, decide_eq_true_eq, and_assoc]
theorem three_mem (h : STS v bs) : (q ∈ subsL bs (2 ^ v.toNat) ∧ q.length = 3) ↔ ∃ d ∈ bs, bl d = q := by
  have hpw : 2 ^ v.toNat ≤ 2 ^ 15 := Nat.pow_le_pow_right (by decide) (by have := h.hi; omega)
  constructor
  · rintro ⟨hq, hl⟩
    obtain ⟨m, hm, h3, hs, rfl⟩ := subs_mem.1 hq
    have hp := pts_lt m
    have hlt := List.pairwise_iff_getElem.1 hp 0 1 (by omega) (by omega) (by omega)
    obtain ⟨d, hd, k1, k2, k3⟩ := hs (pts m)[0] (pts m)[1] (List.getElem_mem _) (List.getElem_mem _) (by omega)
    have hg := h.good d hd
    have hasc : (bl d).Pairwise (· < ·) := by unfold good at hg; unfold bl; simp; omega
    refine ⟨d, hd, asc_ext hasc hp fun z => ⟨fun hz => k3 z (mem_bl.1 hz), fun hz => ?_⟩⟩
    refine sub_full (bl d) (pts m) (hasc.imp fun hh => by omega) (fun x hx => k3 x (mem_bl.1 hx)) ?_ z hz
    rw [hl]
    exact Nat.le_refl _
  · rintro ⟨d, hd, rfl⟩
    have hg := (h.good d hd).mono h.hi
    have hb := bmask_ltv h hd
    refine ⟨subs_mem.2 ⟨bmask d, hb, ?_, subq_blk h hd, bl_pts hg⟩, rfl⟩
    rw [← pts_ones (by omega), bl_pts hg]
    exact Nat.le_refl _
theorem subs_nodup (h : STS v bs) : (subsL bs (2 ^ v.toNat)).Nodup := by
  have hpw : 2 ^ v.toNat ≤ 2 ^ 15 := Nat.pow_le_pow_right (by decide) (by have := h.hi; omega)
  unfold subsL
  rw [List.nodup_iff_pairwise_ne, List.pairwise_map]
  refine (pairwise_mem ((List.pairwise_lt_range (n := 2 ^ v.toNat)).filter _)).imp fun {a b} hh e => ?_
  have ha := List.mem_range.1 (List.mem_filter.1 hh.2.1).1
  have hb := List.mem_range.1 (List.mem_filter.1 hh.2.2).1
  have := pts_inj (by omega) (by omega) e
  omega
theorem three_count (h : STS v bs) {l : List (List Int)} (hl : l.Perm (subsL bs (2 ^ v.toNat))) : (l.filter fun q => decide (q.length = 3)).length = bs.length := by
  have n1 : (l.filter fun q => decide (q.length = 3)).Nodup := (hl.nodup_iff.2 (subs_nodup h)).filter _
  have n2 : (bs.map bl).Nodup := by
    rw [List.nodup_iff_pairwise_ne, List.pairwise_map]
    refine (sts_lt h).imp fun {a b} hh e => ?_
    unfold bl at e
    simp only [List.cons.injEq, and_true] at e
    unfold B3.lt at hh
    omega
  have hp : (l.filter fun q => decide (q.length = 3)).Perm (bs.map bl) := (List.perm_ext_iff_of_nodup n1 n2).2 fun q => by
    rw [List.mem_filter, decide_eq_true_eq, hl.mem_iff, three_mem h, List.mem_map]
  rw [hp.length_eq, List.length_map]
theorem cnt3_step {l : List (List Int)} {i : Nat} (hi : i < l.length) : ((l.take (i + 1)).filter fun q => decide (q.length = 3)).length = ((l.take i).filter fun q => decide (q.length = 3)).length + if l[i].length = 3 then 1 else 0 := by
  rw [take_snoc hi, List.filter_append, List.length_append]
  by_cases h : l[i].length = 3
  · simp [h]
  · simp [h]
/-- A subsystem of the list. -/
theorem sub_at (h : STS v bs) {l : List (List Int)} (hl : l.Perm (subsL bs (2 ^ v.toNat))) (hq : q ∈ l) : ∃ s, s < 32768 ∧ SubQ bs s ∧ q = pts s ∧ 3 ≤ q.length ∧ SetL v q := by
  have hpw : 2 ^ v.toNat ≤ 2 ^ 15 := Nat.pow_le_pow_right (by decide) (by have := h.hi; omega)
  have hlo := h.lo
  obtain ⟨m, hm, h3, hs, rfl⟩ := subs_mem.1 (hl.mem_iff.1 hq)
  refine ⟨m, by omega, hs, rfl, by rw [pts_ones (by omega)]; exact h3, pts_lt m, fun p hp => ?_⟩
  obtain ⟨h1, h2, h4⟩ := mem_pts.1 hp
  refine ⟨h1, ?_⟩
  apply Decidable.byContradiction
  intro hn
  have := Nat.testBit_lt_two_pow (x := m) (i := p.toNat) (Nat.lt_of_lt_of_le hm (Nat.pow_le_pow_right (by decide) (by omega)))
  rw [this] at h4
  cases h4
end
end Go.Vc
