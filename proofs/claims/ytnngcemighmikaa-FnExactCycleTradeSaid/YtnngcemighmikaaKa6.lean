/-
  The calculus and plain words, part 6.
-/
import Derived.Test.YtnngcemighmikaaKa5
import Derived.Shelf.SlSortCmp.NoneTotal
import Derived.Shelf.SortM.Plain
import Derived.Shelf.SortM.SortNone
set_option linter.unusedVariables false
set_option linter.unusedSimpArgs false
/-
  The calculus, part 20: Go's own sorting of an owned row.
-/
namespace Go.Vc
open Go Go.RowKit
open Go.Proofs (sortWorldK CmpLays ltOf)
open Go.Sort (flatK HoldsK putRowK get_flatK size_flatK putCells putRow mapBlock onCells PermIn SortedIn SWO)
section
variable {P : Program} {α : Type} {w0 w w' : World} {H : List Assn} {T c g : Nat} {A : Option Addr} {C : Cod α} {xs ys : List α}
theorem flatK_flat [Inhabited α] (C : Cod α) (xs : List α) : flatK C.enc C.sz xs.toArray = (xs.flatMap C.enc).toArray := by
  have hl := length_flatMap_enc C xs
  apply Array.ext
  · rw [size_flatK]; simp only [List.size_toArray]; omega
  · intro i h1 h2
    have hlt : i < xs.length * C.sz := by simpa [size_flatK] using h1
    have hp := C.pos
    have hq : i / C.sz < xs.length := Nat.div_lt_of_lt_mul (by rw [Nat.mul_comm]; exact hlt)
    have hme : i / C.sz * C.sz + i % C.sz = i := by rw [Nat.mul_comm]; exact Nat.div_add_mod i C.sz
    have hg := getElem?_flatMap_enc C xs (i / C.sz) (i % C.sz) hq (Nat.mod_lt _ hp)
    rw [hme] at hg
    have e1 := get_flatK C.enc C.sz xs.toArray i (by simpa using hlt)
    rw [getElem!_pos _ i h1] at e1
    rw [e1]
    have e2 : xs.toArray[i / C.sz]! = xs[i / C.sz] := by rw [getElem!_pos _ _ (by simpa using hq)]; simp
    rw [e2]
    have h3 : i % C.sz < (C.enc xs[i / C.sz]).length := by rw [C.len]; exact Nat.mod_lt _ hp
    rw [getElem!_pos (C.enc xs[i / C.sz]) _ h3]
    have h4 : (xs.flatMap C.enc)[i]? = some (C.enc xs[i / C.sz])[i % C.sz] := by rw [hg, List.getElem?_eq_getElem h3]
    have h5 : i < (xs.flatMap C.enc).length := by rw [hl]; exact hlt
    rw [List.getElem?_eq_getElem h5] at h4
    simpa using (Option.some.inj h4).symm
theorem own_cases (hw : St w0 (Own T C A c xs :: H) w) : (A = none ∧ c = 0 ∧ xs = []) ∨ ∃ g, A = some ⟨g, 0, none⟩ := by
  obtain ⟨F, ho, hF⟩ := hw.get 0 rfl
  rcases ho.2 with ⟨h1, h2⟩ | ⟨g, cap, cur, hvv, _⟩
  · injection h1 with e1 e2 e3
    exact .inl ⟨e1, e3, List.eq_nil_of_length_eq_zero h2⟩
  · injection hvv with e1
    exact .inr ⟨g, e1⟩
theorem own_holdsK [Inhabited α] (hw : St w0 (Own T C (some ⟨g, 0, none⟩) c xs :: H) w) : HoldsK C.enc C.sz w g 0 xs.toArray ∧ g < w.heap.size := by
  obtain ⟨F, ho, hF⟩ := hw.get 0 rfl
  rcases ho.2 with ⟨h1, h2⟩ | ⟨g', cap, cur, hvv, hbase, hh, hle, hmax, hcs, htake⟩
  · injection h1 with e1; cases e1
  · injection hvv with e1 e2 e3
    cases e1
    subst e3
    refine ⟨fun j hj => ?_, (Array.getElem?_eq_some_iff.1 hh).1⟩
    rw [flatK_flat] at hj ⊢
    have hl := length_flatMap_enc C xs
    have hj' : j < (xs.flatMap C.enc).length := by simpa using hj
    have e : cur[j]? = some (xs.flatMap C.enc)[j] := by
      have h1 : (cur.toList.take (xs.length * C.sz))[j]? = cur.toList[j]? := by rw [List.getElem?_take, if_pos (by omega)]
      rw [htake, List.getElem?_eq_getElem hj'] at h1
      rw [← Array.getElem?_toList, ← h1]
    constructor
    · rw [getElem!_pos _ j (by simpa using hj')]
      simp only [World.cell?, hh, Nat.zero_add, e, id]
      simp
    · simp [World.frozen?, hh]
theorem putCells_toList [Inhabited α] {cur : Array Value} (hn : xs.length * C.sz ≤ cur.size) : (putCells id 0 (flatK C.enc C.sz xs.toArray) cur).toList.take (xs.length * C.sz) = xs.flatMap C.enc := by
  have hl := length_flatMap_enc C xs
  rw [flatK_flat]
  apply List.ext_getElem
  · simp [putCells, hl]; omega
  · intro j h1 h2
    simp only [List.getElem_take, Array.getElem_toList, putCells, Array.getElem_mapIdx]
    rw [if_pos ⟨Nat.zero_le _, by simpa using h2⟩, Nat.sub_zero, getElem!_pos _ j (by simpa using h2)]
    simp
theorem St.sortedK [Inhabited α] (hw : St w0 (Own T C (some ⟨g, 0, none⟩) c xs :: H) w) (hl : ys.length = xs.length) (n : Nat) (os : Array Obj) :
    St w0 (Own T C (some ⟨g, 0, none⟩) c ys :: H) (sortWorldK C.enc C.sz w g 0 n ys.toArray os) := by
  refine hw.upd ?_
  rintro F ⟨ho, hF⟩ hb
  rcases ho.2 with ⟨h1, h2⟩ | ⟨g', cap, cur, hvv, hbase, hh, hle, hmax, hcs, htake⟩
  · injection h1 with e1; cases e1
  · injection hvv with e1 e2 e3
    cases e1
    subst e3
    have hgs : g < w.heap.size := (Array.getElem?_eq_some_iff.1 hh).1
    have hn : xs.length * C.sz ≤ cur.size := by rw [hcs]; exact Nat.mul_le_mul_right _ hle
    have heap : ∀ k, k < w.heap.size → (sortWorldK C.enc C.sz w g 0 n ys.toArray os).heap[k]? = if g = k then (w.heap[k]?).map (onCells (putCells id 0 (flatK C.enc C.sz ys.toArray))) else w.heap[k]? := by
      intro k hk
      unfold sortWorldK Go.Sort.grow putRowK putRow mapBlock Go.Sort.ahead
      simp only
      rw [Array.getElem?_append_left (by simpa using hk), Array.getElem?_modify]
    have hsize : (sortWorldK C.enc C.sz w g 0 n ys.toArray os).heap.size = w.heap.size + os.size := by
      unfold sortWorldK Go.Sort.grow putRowK putRow mapBlock Go.Sort.ahead
      simp
    refine ⟨⟨rfl, rfl, rfl, by omega, fun k hk hk' => ?_, Nat.le_add_right _ _⟩, F, ⟨⟨?_, .inr ⟨g, c, putCells id 0 (flatK C.enc C.sz ys.toArray) cur, by rw [hl], Nat.zero_le _, ?_, by omega, hmax, ?_, ?_⟩⟩, ?_⟩, ?_⟩
    · rw [heap k hk, if_neg (fun e => hk' ((hF k).2 (by subst e; rfl)))]
    · rw [length_flatMap_enc]
    · rw [heap g hgs, if_pos rfl, hh]; rfl
    · simp [putCells, hcs]
    · exact putCells_toList (by rw [hl]; exact hn)
    · intro k
      rw [hF k]
      simp [Value.ownBlock]
    · intro k hk
      exact ⟨.inl hk, by have := (hb k hk).2; omega⟩
/-- A world that has only grown. -/
theorem Bel.grown (h : Bel w.heap.size w w') : ∃ q os', w' = Go.Sort.grow (w.drewN q) os' := by
  refine ⟨w'.drawn - w.drawn, w'.heap.extract w.heap.size w'.heap.size, ?_⟩
  have hd := h.drawn
  have hs := h.size
  have e : w'.heap = w.heap ++ w'.heap.extract w.heap.size w'.heap.size := by
    apply Array.ext_getElem?
    intro k
    by_cases hk : k < w.heap.size
    · rw [Array.getElem?_append_left hk, h.block k hk]
    · rw [Array.getElem?_append_right (by omega), Array.getElem?_extract]
      by_cases h2 : k < w'.heap.size
      · rw [if_pos (by omega)]
        congr 1
        omega
      · rw [Array.getElem?_eq_none (by omega), if_neg (by omega)]
  cases w'
  cases w
  simp only [Go.Sort.grow, World.drewN] at *
  have h1 := h.os
  have h2 := h.tape
  have h3 := h.output
  simp only at h1 h2 h3 hd
  subst h1 h2 h3
  rw [← e]
  congr 1
  omega
/-- What a comparison hands back. -/
def CmpD (P : Program) (f : Nat) (cb : Array Value) (enc : α → Value) (cf : α → α → Int) (W : World) : Prop :=
  ∀ x y : α, Does P f ([enc x, enc y] ++ cb.toList) W [] (fun v => [.pur (v = .int .i64 (cf x y))])
theorem sorted_pair [Inhabited α] {lt : α → α → Bool} {d : Array α} (h : SortedIn lt 0 d.size d) : d.toList.Pairwise fun x y => lt y x = false := by
  rw [List.pairwise_iff_getElem]
  intro i j hi hj hij
  have h1 := h i j (Nat.zero_le _) hij (by simpa using hj)
  rw [getElem!_pos d i (by simpa using hi), getElem!_pos d j (by simpa using hj)] at h1
  simpa using h1
theorem permIn_perm [Inhabited α] {d d' : Array α} (h : PermIn 0 d.size d d') : d'.toList.Perm d.toList := by
  obtain ⟨h1, _, h3⟩ := h
  have e1 : d.extract 0 d.size = d := by simp
  have e2 : d'.extract 0 d.size = d' := by rw [← h1]; simp
  rwa [e1, e2] at h3
/-- slices.SortFunc at elements of several cells. -/
theorem sortK_does [Inhabited α] {ρ : Go.Shelf.Ren} (L : Go.Proofs.SlLaysF0.n6 P ρ) (aE : ∀ w, (isAgg (ρ.t 24)).run P w = .ok true w) (zE : ∀ w, (Go.sizeOf (ρ.t 24)).run P w = .ok C.sz w) (cf : α → α → Int) (hO : SWO (ltOf cf)) {f : Nat} {cb : Array Value} (hok : CallOk P f)
    (hcmp : ∀ zs W, St w0 (Own T C A c zs :: H) W → CmpD P f cb (fun x => .agg (C.enc x).toArray) cf W) (hlen : xs.length < 4611686018427387904) :
    Does P (ρ.f 6) [.slice A xs.length c, .func (.func f) #[] cb] w0 (Own T C A c xs :: H) (fun v => [.exi fun ys : List α => .sep (.pur (v = .tuple #[] ∧ ys.Perm xs ∧ ys.Pairwise fun x y => ¬ cf y x < 0)) (Own T C A c ys)] ++ H) := by
  intro w hw
  rcases own_cases hw with ⟨rfl, rfl, rfl⟩ | ⟨g, rfl⟩
  · refine (Go.Proofs.AnyF.slices_SortFunc_none L none 0 _ w).mono ?_
    rintro e w' ⟨rfl, rfl⟩
    exact ⟨_, rfl, St.mkExi [] (St.unsep (St.addPur ⟨rfl, List.Perm.refl _, List.Pairwise.nil⟩ hw))⟩
  · obtain ⟨hH, hg⟩ := own_holdsK hw
    have eg : ∀ args w, (callFunc f args).run P w = .ok (.enter f args) w := fun args w => run_callFunc hok args w
    have hC : CmpLays P f cb C.enc C.sz cf g 0 xs.toArray.size w := by
      intro m os dk hs x y
      have hs' : dk.toList.length = xs.length := by simpa using hs
      have h1 := St.sortedK hw hs' m os
      have h2 := hcmp _ _ h1 x y _ (St.start _)
      have e : ([Value.agg (C.enc x).toArray, Value.agg (C.enc y).toArray] ++ cb.toList).toArray = #[.agg (C.enc x).toArray, .agg (C.enc y).toArray] ++ cb := by
        apply Array.ext'
        simp
      rw [e] at h2
      refine h2.mono ?_
      rintro e w' ⟨v, rfl, hs3⟩
      exact ⟨by rw [hs3.pur.1], hs3.below.grown⟩
    have h := Go.Proofs.AnyQ.slices_SortFunc L C.sz aE zE C.enc C.len C.one cf hO f cb g 0 c xs.toArray w eg hC hH hg (by simpa using hlen)
    have e0 : xs.toArray.size = xs.length := by simp
    rw [e0] at h
    refine h.mono ?_
    rintro e w' ⟨rfl, d', n, os, hp, hs, rfl⟩
    rw [← e0] at hp hs
    have hsz : d'.size = xs.toArray.size := hp.1
    have hp' := permIn_perm hp
    rw [← hsz] at hs
    have hs' := sorted_pair hs
    refine ⟨_, rfl, St.mkExi d'.toList (St.unsep (St.addPur ⟨rfl, by simpa using hp', hs'.imp fun h => ?_⟩ (St.sortedK hw (by simpa using hsz) n os)))⟩
    simpa [ltOf] using h
end
end Go.Vc
/-
  The calculus, part 21: Go's own sorting of an owned row of one cell an element, and of an array of numbers.
-/
namespace Go.Vc
open Go Go.RowKit
open Go.Proofs (sortWorld CmpLays1 ltOf)
open Go.Sort (putCells putRow mapBlock onCells PermIn SortedIn SWO Holds)
section
variable {P : Program} {α : Type} {w0 w w' : World} {H : List Assn} {T c g : Nat} {A : Option Addr} {C : Cod α} {xs ys : List α} {enc : α → Value}
theorem flat1 (hC : ∀ x, C.enc x = [enc x]) : ∀ xs : List α, xs.flatMap C.enc = xs.map enc := by
  intro xs
  induction xs with
  | nil => rfl
  | cons x xs ih => rw [List.flatMap_cons, List.map_cons, hC, ih]; rfl
theorem own_holds1 [Inhabited α] (hC : ∀ x, C.enc x = [enc x]) (hz : C.sz = 1) (hw : St w0 (Own T C (some ⟨g, 0, none⟩) c xs :: H) w) : Holds enc w g 0 xs.toArray ∧ g < w.heap.size := by
  obtain ⟨F, ho, hF⟩ := hw.get 0 rfl
  rcases ho.2 with ⟨h1, h2⟩ | ⟨g', cap, cur, hvv, hbase, hh, hle, hmax, hcs, htake⟩
  · injection h1 with e1; cases e1
  · injection hvv with e1 e2 e3
    cases e1
    subst e3
    refine ⟨fun j hj => ?_, (Array.getElem?_eq_some_iff.1 hh).1⟩
    have hj' : j < xs.length := by simpa using hj
    rw [flat1 hC, hz, Nat.mul_one] at htake
    have e : cur[j]? = some (enc xs[j]) := by
      have h1 : (cur.toList.take xs.length)[j]? = cur.toList[j]? := by rw [List.getElem?_take, if_pos (by omega)]
      rw [htake, List.getElem?_map, List.getElem?_eq_getElem hj'] at h1
      rw [← Array.getElem?_toList, ← h1]
      rfl
    constructor
    · rw [getElem!_pos _ j hj]
      simp only [World.cell?, hh, Nat.zero_add, e]
      simp
    · simp [World.frozen?, hh]
theorem putCells1 [Inhabited α] {cur : Array Value} (hn : xs.length ≤ cur.size) : (putCells enc 0 xs.toArray cur).toList.take xs.length = xs.map enc := by
  apply List.ext_getElem
  · simp [putCells]; omega
  · intro j h1 h2
    simp only [List.getElem_take, Array.getElem_toList, putCells, Array.getElem_mapIdx]
    rw [if_pos ⟨Nat.zero_le _, by simpa using h2⟩, Nat.sub_zero, getElem!_pos _ j (by simpa using h2)]
    simp
theorem sort_heap [Inhabited α] {enc : α → Value} {n : Nat} {d : Array α} {os : Array Obj} {k : Nat} (hk : k < w.heap.size) : (Go.Sort.grow (putRow enc (Go.Sort.ahead w n) g 0 d) os).heap[k]? = if g = k then (w.heap[k]?).map (onCells (putCells enc 0 d)) else w.heap[k]? := by
  unfold Go.Sort.grow putRow mapBlock Go.Sort.ahead
  simp only
  rw [Array.getElem?_append_left (by simpa using hk), Array.getElem?_modify]
theorem sort_size [Inhabited α] {enc : α → Value} {n : Nat} {d : Array α} {os : Array Obj} : (Go.Sort.grow (putRow enc (Go.Sort.ahead w n) g 0 d) os).heap.size = w.heap.size + os.size := by
  unfold Go.Sort.grow putRow mapBlock Go.Sort.ahead
  simp
theorem St.sorted1 [Inhabited α] (hC : ∀ x, C.enc x = [enc x]) (hz : C.sz = 1) (hw : St w0 (Own T C (some ⟨g, 0, none⟩) c xs :: H) w) (hl : ys.length = xs.length) (n : Nat) (os : Array Obj) :
    St w0 (Own T C (some ⟨g, 0, none⟩) c ys :: H) (Go.Sort.grow (putRow enc (Go.Sort.ahead w n) g 0 ys.toArray) os) := by
  refine hw.upd ?_
  rintro F ⟨ho, hF⟩ hb
  rcases ho.2 with ⟨h1, h2⟩ | ⟨g', cap, cur, hvv, hbase, hh, hle, hmax, hcs, htake⟩
  · injection h1 with e1; cases e1
  · injection hvv with e1 e2 e3
    cases e1
    subst e3
    have hgs : g < w.heap.size := (Array.getElem?_eq_some_iff.1 hh).1
    rw [hz, Nat.mul_one] at hcs
    refine ⟨⟨rfl, rfl, rfl, by rw [sort_size]; omega, fun k hk hk' => ?_, Nat.le_add_right _ _⟩, F, ⟨⟨?_, .inr ⟨g, c, putCells enc 0 ys.toArray cur, by rw [hl], Nat.zero_le _, ?_, by omega, hmax, ?_, ?_⟩⟩, ?_⟩, ?_⟩
    · rw [sort_heap hk, if_neg (fun e => hk' ((hF k).2 (by subst e; rfl)))]
    · rw [length_flatMap_enc]
    · rw [sort_heap hgs, if_pos rfl, hh]; rfl
    · simp [putCells, hcs, hz]
    · rw [hz, Nat.mul_one, flat1 hC]
      exact putCells1 (by omega)
    · intro k
      rw [hF k]
      simp [Value.ownBlock]
    · intro k hk
      exact ⟨.inl hk, by have := (hb k hk).2; rw [sort_size]; omega⟩
/-- slices.SortFunc at elements of one cell, of which only some can be told apart by the comparison: those with p. -/
theorem sort1_does {ρ : Go.Shelf.Ren} (L : Go.Proofs.SlLaysF.n6 P ρ) (hC : ∀ x, C.enc x = [enc x]) (hz : C.sz = 1) (h1 : ∀ x, (enc x).oneCell' = true) (p : α → Prop) (hp : ∀ x ∈ xs, p x) (cf : {x // p x} → {x // p x} → Int) (hO : SWO (ltOf cf)) {f : Nat} {cb : Array Value} (hok : CallOk P f)
    (hcmp : ∀ zs W, (∀ x ∈ zs, p x) → St w0 (Own T C A c zs :: H) W → CmpD P f cb (fun x : {x // p x} => enc x.1) cf W) (hlen : xs.length < 4611686018427387904) :
    Does P (ρ.f 6) [.slice A xs.length c, .func (.func f) #[] cb] w0 (Own T C A c xs :: H) (fun v => [.exi fun ys : List α => .sep (.pur (v = .tuple #[] ∧ ys.Perm xs ∧ ys.Pairwise fun x y => ∀ hx : p x, ∀ hy : p y, ¬ cf ⟨y, hy⟩ ⟨x, hx⟩ < 0)) (Own T C A c ys)] ++ H) := by
  intro w hw
  have L0 : Go.Proofs.SlLaysF0.n6 P ρ := { L with }
  rcases own_cases hw with ⟨rfl, rfl, rfl⟩ | ⟨g, rfl⟩
  · refine (Go.Proofs.AnyF.slices_SortFunc_none L0 none 0 _ w).mono ?_
    rintro e w' ⟨rfl, rfl⟩
    exact ⟨_, rfl, St.mkExi [] (St.unsep (St.addPur ⟨rfl, List.Perm.refl _, List.Pairwise.nil⟩ hw))⟩
  · cases xs with
    | nil =>
      refine (Go.Proofs.AnyF.slices_SortFunc_none L0 (some ⟨g, 0, none⟩) c _ w).mono ?_
      rintro e w' ⟨rfl, rfl⟩
      exact ⟨_, rfl, St.mkExi [] (St.unsep (St.addPur ⟨rfl, List.Perm.refl _, List.Pairwise.nil⟩ hw))⟩
    | cons x0 xs0 =>
      generalize hxs : x0 :: xs0 = xs at *
      let _ : Inhabited α := ⟨x0⟩
      let _ : Inhabited {x // p x} := ⟨⟨x0, hp x0 (by rw [← hxs]; exact List.mem_cons_self ..)⟩⟩
      obtain ⟨ex, hex⟩ : ∃ ex : List {x // p x}, ex.map (·.1) = xs := ⟨xs.attach.map fun y => ⟨y.1, hp y.1 y.2⟩, by simp⟩
      have hexl : ex.length = xs.length := by rw [← hex]; simp
      obtain ⟨hH, hg⟩ := own_holds1 hC hz hw
      have hH' : Holds (fun x : {x // p x} => enc x.1) w g 0 ex.toArray := by
        intro j hj
        have hj1 : j < ex.length := by simpa using hj
        have hj2 : j < xs.length := by omega
        have h2 := hH j (by simpa using hj2)
        rw [getElem!_pos _ j (by simpa using hj2)] at h2
        rw [getElem!_pos _ j hj]
        have e : (ex[j]).1 = xs[j] := by subst hex; simp
        simpa [e] using h2
      have eg : ∀ args w, (callFunc f args).run P w = .ok (.enter f args) w := fun args w => run_callFunc hok args w
      have key : ∀ (m : Nat) (os : Array Obj) (dk : Array {x // p x}), putRow (fun x : {x // p x} => enc x.1) (Go.Sort.ahead w m) g 0 dk = putRow enc (Go.Sort.ahead w m) g 0 (dk.toList.map (·.1)).toArray := by
        intro m os dk
        unfold putRow
        congr 1
        funext cur
        unfold putCells
        congr 1
        funext k x
        by_cases hk : 0 ≤ k ∧ k < 0 + dk.size
        · rw [if_pos hk, if_pos (by simpa using hk)]
          rw [getElem!_pos _ _ (by simpa using hk.2), getElem!_pos _ _ (by simpa using hk.2)]
          simp
        · rw [if_neg hk, if_neg (by simpa using hk)]
      have hCL : CmpLays1 P f cb (fun x : {x // p x} => enc x.1) cf g 0 ex.toArray.size w := by
        intro m os dk hs x y
        have hs' : (dk.toList.map (·.1)).length = xs.length := by simpa [hexl] using hs
        have h1 := St.sorted1 hC hz hw hs' m os
        have e0 : sortWorld (fun x : {x // p x} => enc x.1) w g 0 m dk os = Go.Sort.grow (putRow enc (Go.Sort.ahead w m) g 0 (dk.toList.map (·.1)).toArray) os := by
          unfold sortWorld
          rw [key m os dk]
        rw [← e0] at h1
        have h2 := hcmp _ _ (fun z hz' => by obtain ⟨u, _, rfl⟩ := List.mem_map.1 hz'; exact u.2) h1 x y _ (St.start _)
        have e : ([enc x.1, enc y.1] ++ cb.toList).toArray = #[enc x.1, enc y.1] ++ cb := by
          apply Array.ext'
          simp
        rw [e] at h2
        refine h2.mono ?_
        rintro e w' ⟨v, rfl, hs3⟩
        exact ⟨by rw [hs3.pur.1], hs3.below.grown⟩
      have h := Go.Proofs.Any.slices_SortFunc L (fun x : {x // p x} => enc x.1) (fun x => h1 x.1) cf hO f cb g 0 c ex.toArray w eg hCL hH' hg (by simpa [hexl] using hlen)
      have e0 : ex.toArray.size = xs.length := by simp [hexl]
      rw [e0] at h
      refine h.mono ?_
      rintro e w' ⟨rfl, d', n, os, hpm, hs, rfl⟩
      rw [← e0] at hpm hs
      have hsz : d'.size = ex.toArray.size := hpm.1
      have hp' := permIn_perm hpm
      rw [← hsz] at hs
      have hs' := sorted_pair hs
      have e1 : sortWorld (fun x : {x // p x} => enc x.1) w g 0 n d' os = Go.Sort.grow (putRow enc (Go.Sort.ahead w n) g 0 (d'.toList.map (·.1)).toArray) os := by
        unfold sortWorld
        rw [key n os d']
      rw [e1]
      have hfin := St.sorted1 (ys := d'.toList.map (·.1)) hC hz hw (by simpa [hexl] using hsz) n os
      have hperm : (d'.toList.map (·.1)).Perm xs := by
        have := hp'.map (·.1)
        rw [show (ex.toArray).toList = ex from rfl, hex] at this
        exact this
      have hsrt : (d'.toList.map (·.1)).Pairwise fun x y => ∀ hx : p x, ∀ hy : p y, ¬ cf ⟨y, hy⟩ ⟨x, hx⟩ < 0 := by
        rw [List.pairwise_map]
        refine hs'.imp fun {a b} h hx hy => ?_
        simpa [ltOf] using h
      generalize d'.toList.map (·.1) = ys at hfin hperm hsrt
      generalize Go.Sort.grow (putRow enc (Go.Sort.ahead w n) g 0 ys.toArray) os = w2 at hfin
      exact ⟨_, rfl, St.mkExi ys (St.unsep (St.addPur ⟨rfl, hperm, hsrt⟩ hfin))⟩
/-- Numbers in order. -/
def sortI (xs : List Int) : List Int := xs.mergeSort fun x y => decide (x ≤ y)
theorem sortI_len (xs : List Int) : (sortI xs).length = xs.length := by unfold sortI; exact List.length_mergeSort _
theorem sortI_perm (xs : List Int) : (sortI xs).Perm xs := List.mergeSort_perm _ _
theorem sortI_sorted (xs : List Int) : (sortI xs).Pairwise (· ≤ ·) := by
  have h := List.pairwise_mergeSort (le := fun x y : Int => decide (x ≤ y)) (by intro a b c; simp; omega) (by intro a b; simp; omega) xs
  exact h.imp (by intro a b h; simpa using h)
theorem sortI_unique {xs ys : List Int} (hp : ys.Perm xs) (hs : ys.Pairwise (· ≤ ·)) : ys = sortI xs :=
  (hp.trans (sortI_perm xs).symm).eq_of_pairwise (fun a b _ _ h1 h2 => by omega) hs (sortI_sorted xs)
/-- slices.Sort. -/
theorem sortI_does {ρ : Go.Shelf.Ren} (L : Go.Proofs.SlLaysM.n5 P ρ) {xs : List Int} (hlen : xs.length < 4611686018427387904) :
    Does P (ρ.f 5) [.slice A xs.length c] w0 (Own T I64 A c xs :: H) (fun v => [.sep (.pur (v = .tuple #[])) (Own T I64 A c (sortI xs))] ++ H) := by
  intro w hw
  rcases own_cases hw with ⟨rfl, rfl, rfl⟩ | ⟨g, rfl⟩
  · refine (Go.Proofs.AnyM.slices_Sort_int_none L none 0 w).mono ?_
    rintro e w' ⟨rfl, rfl⟩
    have e : sortI [] = [] := by simp [sortI]
    rw [e]
    exact ⟨_, rfl, St.unsep (St.addPur rfl hw)⟩
  · obtain ⟨hH, hg⟩ := own_holds1 (enc := Value.int .i64) (fun _ => rfl) rfl hw
    refine (Go.Proofs.AnyM.slices_Sort_int L g 0 c xs w hH hg hlen).mono ?_
    rintro e w' ⟨rfl, n, os, rfl⟩
    exact ⟨_, rfl, St.unsep (St.addPur rfl (St.sorted1 (enc := Value.int .i64) (fun _ => rfl) rfl hw (sortI_len xs) n os))⟩
/-- .. of an array. -/
theorem sortI_blk {ρ : Go.Shelf.Ren} (L : Go.Proofs.SlLaysM.n5 P ρ) {xs : List Int} (hlen : xs.length < 4611686018427387904) :
    Does P (ρ.f 5) [.slice (some ⟨g, 0, none⟩) xs.length c] w0 (Blk g (xs.map (Value.int .i64)) T :: H) (fun v => [.sep (.pur (v = .tuple #[])) (Blk g ((sortI xs).map (Value.int .i64)) T)] ++ H) := by
  intro w hw
  have hh := Blk.heap hw (i := 0) rfl
  have hg : g < w.heap.size := (Array.getElem?_eq_some_iff.1 hh).1
  have hH : Holds (Value.int .i64) w g 0 xs.toArray := by
    intro j hj
    have hj' : j < xs.length := by simpa using hj
    rw [getElem!_pos _ j hj]
    constructor
    · simp [World.cell?, hh, hj']
    · simp [World.frozen?, hh]
  refine (Go.Proofs.AnyM.slices_Sort_int L g 0 c xs w hH hg hlen).mono ?_
  rintro e w' ⟨rfl, n, os, rfl⟩
  refine ⟨_, rfl, St.unsep (St.addPur rfl (hw.upd ?_))⟩
  rintro F ⟨h0, hF⟩ hb
  have hl := sortI_len xs
  refine ⟨⟨rfl, rfl, rfl, by rw [sort_size]; omega, fun k hk hk' => ?_, Nat.le_add_right _ _⟩, F, ⟨?_, hF⟩, ?_⟩
  · rw [sort_heap hk, if_neg (fun e => hk' ((hF k).2 e.symm))]
  · show (Go.Sort.grow _ os).heap[g]? = _
    rw [sort_heap hg, if_pos rfl, hh]
    show some (Obj.cells _ _ _) = _
    congr 2
    have := putCells1 (xs := sortI xs) (enc := Value.int .i64) (cur := (xs.map (Value.int .i64)).toArray) (by simp [hl])
    rw [List.take_of_length_le (by simp [putCells, hl])] at this
    exact Array.ext' (by rw [← this]; rfl)
  · intro k hk
    exact ⟨.inl hk, by have := (hb k hk).2; rw [sort_size]; omega⟩
end
end Go.Vc
/-
  Plain words: three numbers in order; systems that are turned.
-/
namespace Go.Vc
open Go Go.RowKit
def lo3 (a b c : Int) : Int := min (min a b) c
def hi3 (a b c : Int) : Int := max (max a b) c
def mi3 (a b c : Int) : Int := a + b + c - lo3 a b c - hi3 a b c
/-- The block of three points. -/
def bk3 (a b c : Int) : B3 := (lo3 a b c, mi3 a b c, hi3 a b c)
theorem three_eq {a b c x y z : Int} (h1 : a = x) (h2 : b = y) (h3 : c = z) : [a, b, c] = [x, y, z] := by rw [h1, h2, h3]
theorem sortI_three (a b c : Int) : sortI [a, b, c] = [lo3 a b c, mi3 a b c, hi3 a b c] := by
  symm
  apply sortI_unique
  · unfold mi3 lo3 hi3
    by_cases h1 : a ≤ b <;> by_cases h2 : b ≤ c <;> by_cases h3 : a ≤ c
    · have e : [min (min a b) c, a + b + c - min (min a b) c - max (max a b) c, max (max a b) c] = [a, b, c] := three_eq (by omega) (by omega) (by omega)
      rw [e]
    · exfalso; omega
    · have e : [min (min a b) c, a + b + c - min (min a b) c - max (max a b) c, max (max a b) c] = [a, c, b] := three_eq (by omega) (by omega) (by omega)
      rw [e]
      exact (List.Perm.swap _ _ _).cons _
    · have e : [min (min a b) c, a + b + c - min (min a b) c - max (max a b) c, max (max a b) c] = [c, a, b] := three_eq (by omega) (by omega) (by omega)
      rw [e]
      exact (List.Perm.swap _ _ _).trans ((List.Perm.swap _ _ _).cons _)
    · have e : [min (min a b) c, a + b + c - min (min a b) c - max (max a b) c, max (max a b) c] = [b, a, c] := three_eq (by omega) (by omega) (by omega)
      rw [e]
      exact List.Perm.swap _ _ _
    · have e : [min (min a b) c, a + b + c - min (min a b) c - max (max a b) c, max (max a b) c] = [b, c, a] := three_eq (by omega) (by omega) (by omega)
      rw [e]
      exact ((List.Perm.swap _ _ _).cons _).trans (List.Perm.swap _ _ _)
    · exfalso; omega
    · have e : [min (min a b) c, a + b + c - min (min a b) c - max (max a b) c, max (max a b) c] = [c, b, a] := three_eq (by omega) (by omega) (by omega)
      rw [e]
      exact (List.Perm.swap _ _ _).trans (((List.Perm.swap _ _ _).cons _).trans (List.Perm.swap _ _ _))
  · simp only [List.pairwise_cons, List.mem_cons, List.not_mem_nil, or_false, forall_eq_or_imp, forall_eq, List.Pairwise.nil, and_true]
    unfold mi3 lo3 hi3
    refine ⟨⟨?_, ?_⟩, ?_, ?_⟩ <;> first | omega | (intro _ h; cases h)
section
variable {P : Program} {w0 w : World} {H : List Assn} {T c g : Nat}
theorem sort3_blk {ρ : Go.Shelf.Ren} (L : Go.Proofs.SlLaysM.n5 P ρ) (x y z : Int) :
    Does P (ρ.f 5) [.slice (some ⟨g, 0, none⟩) 3 c] w0 (Blk g [.int .i64 x, .int .i64 y, .int .i64 z] T :: H) (fun v => [.sep (.pur (v = .tuple #[])) (Blk g [.int .i64 (lo3 x y z), .int .i64 (mi3 x y z), .int .i64 (hi3 x y z)] T)] ++ H) := by
  have h := sortI_blk (w0 := w0) (H := H) (T := T) (c := c) (g := g) L (xs := [x, y, z]) (by simp)
  rw [sortI_three] at h
  exact h
end
theorem swoB : Go.Sort.SWO (Go.Proofs.ltOf fun x y : B3 => cmpL (bl x) (bl y)) := by
  have e : ∀ x y : B3, Go.Proofs.ltOf (fun x y : B3 => cmpL (bl x) (bl y)) x y = decide (B3.lt x y) := fun x y => by
    unfold Go.Proofs.ltOf
    exact decide_eq_decide.2 (cmpL_bl x y)
  refine ⟨fun x => ?_, fun x y z h1 h2 => ?_, fun x y z h1 h2 => ?_⟩
  · rw [e]; exact decide_eq_false (lt_irrefl x)
  · rw [e] at *
    simp only [decide_eq_true_eq] at *
    unfold B3.lt at *
    omega
  · rw [e] at *
    simp only [decide_eq_false_iff_not] at *
    unfold B3.lt at *
    omega
theorem srt_of {ys : List B3} (h : ys.Pairwise fun x y => ¬ cmpL (bl y) (bl x) < 0) : SrtB ys := h.imp fun {a b} h => by
  unfold leB
  rwa [cmpL_bl] at h
/-- A block, renumbered. -/
def renB (p : List Int) (b : B3) : B3 := bk3 (p.getD b.1.toNat 0) (p.getD b.2.1.toNat 0) (p.getD b.2.2.toNat 0)
theorem getD_at {p : List Int} {i : Nat} (h : i < p.length) : p.getD i 0 = p[i] := by simp [List.getD, h]
/-- The points, turned. -/
def turnL (v k : Int) (n : Nat) : List Int := (List.range n).map fun a : Nat => ((a : Int) + k) % v
theorem turnL_len (v k : Int) (n : Nat) : (turnL v k n).length = n := by simp [turnL]
theorem turnL_snoc (v k : Int) (n : Nat) : turnL v k (n + 1) = turnL v k n ++ [((n : Int) + k) % v] := by simp [turnL, List.range_succ]
theorem turnL_mem {v k : Int} {n : Nat} (hv : 0 < v) {q : Int} (h : q ∈ turnL v k n) : 0 ≤ q ∧ q < v := by
  obtain ⟨a, _, rfl⟩ := List.mem_map.1 h
  exact ⟨Int.emod_nonneg _ (by omega), Int.emod_lt_of_pos _ hv⟩
/-- The blocks, turned, in some order. -/
def turnB (v k : Int) (bs : List B3) : List B3 := bs.map (renB (turnL v k v.toNat))
theorem good_len {v : Int} {bs : List B3} {k : Int} (h : STS v bs) : ∀ b ∈ bs, good ((turnL v k v.toNat).length : Int) b := fun b hb => by
  rw [turnL_len]
  have := h.good b hb
  have h1 := h.lo
  rwa [Int.toNat_of_nonneg (by omega)]
/-- What both TurnSystem return. -/
def TSR (v : Int) (bs : List B3) (k : Int) (r : List B3) : Prop := if STS v bs ∧ 0 ≤ k ∧ k ≤ v - 1 then r.Perm (turnB v k bs) ∧ SrtB r else r = []
theorem TSR.unique {v : Int} {bs : List B3} {k : Int} {r s : List B3} (h : TSR v bs k r) (g : TSR v bs k s) : r = s := by
  unfold TSR at *
  split at h
  · rename_i hc
    rw [if_pos hc] at g
    exact srtB_unique h.2 g.2 (h.1.trans g.1.symm)
  · rename_i hc
    rw [if_neg hc] at g
    rw [h, g]
theorem TSR.len {v : Int} {bs : List B3} {k : Int} {r : List B3} (h : TSR v bs k r) : r.length ≤ bs.length := by
  unfold TSR at h
  split at h
  · rw [h.1.length_eq]; simp [turnB]
  · simp [h]
/-- No block is in common with the turned ones. -/
def apT (v : Int) (bs : List B3) (k : Int) : Prop := ∀ b ∈ bs, b ∉ turnB v k bs
instance (v : Int) (bs : List B3) (k : Int) : Decidable (apT v bs k) := inferInstanceAs (Decidable (∀ b ∈ bs, b ∉ turnB v k bs))
theorem apT_iff {v : Int} {bs : List B3} {k : Int} {r : List B3} (h : r.Perm (turnB v k bs)) : (bs.filter fun b => decide (b ∈ r)).length = 0 ↔ apT v bs k := by
  rw [List.length_eq_zero_iff, List.filter_eq_nil_iff]
  unfold apT
  simp only [decide_eq_true_eq, h.mem_iff]
/-- The least turn that is apart, and the code: what both MateByTurning return. -/
def MTR (v : Int) (bs : List B3) (r code : Int) : Prop :=
  (¬ STS v bs → r = 0 ∧ code = 1) ∧ (STS v bs → (1 ≤ r ∧ r < v ∧ apT v bs r ∧ (∀ j, 1 ≤ j → j < r → ¬ apT v bs j) ∧ code = 0) ∨ ((∀ j, 1 ≤ j → j < v → ¬ apT v bs j) ∧ r = 0 ∧ code = 4))
theorem MTR.unique {v : Int} {bs : List B3} {r c s d : Int} (h : MTR v bs r c) (g : MTR v bs s d) : r = s ∧ c = d := by
  by_cases hS : STS v bs
  · rcases h.2 hS with ⟨a1, a2, a3, a4, a5⟩ | ⟨a1, a2, a3⟩ <;> rcases g.2 hS with ⟨b1, b2, b3, b4, b5⟩ | ⟨b1, b2, b3⟩
    · have e : r = s := by
        by_cases h1 : r < s
        · exact absurd a3 (b4 r a1 h1)
        · by_cases h2 : s < r
          · exact absurd b3 (a4 s b1 h2)
          · omega
      exact ⟨e, by omega⟩
    · exact absurd a3 (b1 r a1 a2)
    · exact absurd b3 (a1 s b1 b2)
    · omega
  · have := h.1 hS; have := g.1 hS; omega
end Go.Vc
/-
  The calculus, part 23: pairs of numbers; the pairs of blocks.
-/
namespace Go.Vc
open Go Go.RowKit
def P2C : Cod (Int × Int) := ⟨2, fun p => [.int .i64 p.1, .int .i64 p.2], by decide, fun _ => rfl, fun _ u hu => by simp at hu; rcases hu with rfl | rfl <;> rfl⟩
def P2v (p : Int × Int) : Value := .agg #[.int .i64 p.1, .int .i64 p.2]
section
variable {P : Program} {w0 w : World} {H : List Assn} {σ : Sig} {o : Oper}
theorem run_eq2 {T E : TypeId} (hT : P.underlying T = some (.array 2 E)) (hE : P.underlying E = some (.int .i64)) (hs : Sz P E 1) (a b : Int × Int) (d : Nat) (w : World) : (Op.equalIn (d + 1 + 1) T (P2v a) (P2v b)).run P w = .ok (decide (a = b)) w := by
  obtain ⟨i, hi, hsz⟩ := Option.map_eq_some_iff.1 hs
  have hc : P.cellsOf E = 1 := by simp [Program.cellsOf, hi, hsz]
  unfold P2v
  rw [run_equalIn_array w (d + 1) _ _ hT hi, hc]
  have r : List.range 2 = [0, 1] := rfl
  have e0 : ∀ x y : Value, (part E #[x, y] 0).run P w = .ok x w := fun x y => run_part_int hE _ _ _ rfl
  have e1 : ∀ x y : Value, (part E #[x, y] 1).run P w = .ok y w := fun x y => run_part_int hE _ _ _ rfl
  have q : ∀ x y : Int, (Op.equalIn (d + 1) E (.int .i64 x) (.int .i64 y)).run P w = .ok (x == y) w := fun x y => run_equalIn_int w d E .i64 .i64 x y hE
  obtain ⟨a1, a2⟩ := a
  obtain ⟨b1, b2⟩ := b
  rw [r]
  simp only [Op.eqItems, Sem.run_bind, Nat.zero_mul, Nat.one_mul, e0, e1, q, Result.andThen_ok]
  by_cases h1 : a1 = b1
  · subst h1
    by_cases h2 : a2 = b2
    · subst h2; simp [e0, e1, q]
    · simp [h2, e0, e1, q]
  · simp [h1, e0, e1, q]
theorem guard2 {T : TypeId} {op : BinOp} {x y : Operand} {a b : Int × Int} (hg : P.eqGuardType P.depth T = false) : (eqGuard op T x y (P2v a) (P2v b)).run P w = .ok () w := by
  unfold P2v
  exact run_eqGuard_agg w op T x y _ _ hg
theorem Pu.eqlP2 {T T2 E : TypeId} {x y : Operand} {a b : Int × Int} (hT : P.underlying T = some (.array 2 E)) (hE : P.underlying E = some (.int .i64)) (hs : Sz P E 1) (hg : P.eqGuardType P.depth T = false) (ho : o.op = .binOp .eql T x y T2) (hx : ev σ x = some (P2v a)) (hy : ev σ y = some (P2v b)) : Pu P w0 o σ H (.bool (decide (a = b))) := by
  intro w hw ac ha
  have h1 := ha x (by simp [ho, Op.operands]) _ hx
  have h2 := ha y (by simp [ho, Op.operands]) _ hy
  have hb : (Go.binOp .eql T (P2v a) (P2v b)).run P w = .ok (.bool (decide (a = b))) w := by
    have := run_eq2 hT hE hs a b 9998 w
    unfold P2v at *
    rw [run_eql_struct, show (10000 : Nat) = 9998 + 1 + 1 from rfl, this]
    rfl
  simp only [execOp, ho, h1, h2, Sem.run_bind, guard2 hg, hb, Result.andThen_ok, Sem.run_pure]
theorem Pu.neqP2 {T T2 E : TypeId} {x y : Operand} {a b : Int × Int} (hT : P.underlying T = some (.array 2 E)) (hE : P.underlying E = some (.int .i64)) (hs : Sz P E 1) (hg : P.eqGuardType P.depth T = false) (ho : o.op = .binOp .neq T x y T2) (hx : ev σ x = some (P2v a)) (hy : ev σ y = some (P2v b)) : Pu P w0 o σ H (.bool (!decide (a = b))) := by
  intro w hw ac ha
  have h1 := ha x (by simp [ho, Op.operands]) _ hx
  have h2 := ha y (by simp [ho, Op.operands]) _ hy
  have hb : (Go.binOp .neq T (P2v a) (P2v b)).run P w = .ok (.bool (!decide (a = b))) w := by
    have := run_eq2 hT hE hs a b 9998 w
    unfold P2v at *
    rw [run_neq_struct, show (10000 : Nat) = 9998 + 1 + 1 from rfl, this]
    rfl
  simp only [execOp, ho, h1, h2, Sem.run_bind, guard2 hg, hb, Result.andThen_ok, Sem.run_pure]
end
/-! ### The pairs of blocks -/
def ltP (p q : Int × Int) : Prop := p.1 < q.1 ∨ (p.1 = q.1 ∧ p.2 < q.2)
instance (p q : Int × Int) : Decidable (ltP p q) := inferInstanceAs (Decidable (_ ∨ _))
def leP (p q : Int × Int) : Prop := ¬ ltP q p
theorem cmpL_p2 (p q : Int × Int) : cmpL [p.1, p.2] [q.1, q.2] < 0 ↔ ltP p q := by
  simp only [cmpL, ltP]
  (repeat' split) <;> omega
theorem swoP : Go.Sort.SWO (Go.Proofs.ltOf fun x y : Int × Int => cmpL [x.1, x.2] [y.1, y.2]) := by
  have e : ∀ x y : Int × Int, Go.Proofs.ltOf (fun x y : Int × Int => cmpL [x.1, x.2] [y.1, y.2]) x y = decide (ltP x y) := fun x y => by
    unfold Go.Proofs.ltOf
    exact decide_eq_decide.2 (cmpL_p2 x y)
  refine ⟨fun x => ?_, fun x y z h1 h2 => ?_, fun x y z h1 h2 => ?_⟩
  · rw [e]; exact decide_eq_false (by unfold ltP; omega)
  · rw [e] at *
    simp only [decide_eq_true_eq] at *
    unfold ltP at *
    omega
  · rw [e] at *
    simp only [decide_eq_false_iff_not] at *
    unfold ltP at *
    omega
def SrtP (l : List (Int × Int)) : Prop := l.Pairwise leP
theorem srtP_of {ys : List (Int × Int)} (h : ys.Pairwise fun x y => ¬ cmpL [y.1, y.2] [x.1, x.2] < 0) : SrtP ys := h.imp fun {a b} h => by
  unfold leP
  rwa [cmpL_p2] at h
theorem srtP_unique {a b : List (Int × Int)} (ha : SrtP a) (hb : SrtP b) (hp : a.Perm b) : a = b :=
  hp.eq_of_pairwise (fun x y _ _ h1 h2 => by
    obtain ⟨x1, x2⟩ := x
    obtain ⟨y1, y2⟩ := y
    unfold leP ltP at *
    simp only at *
    rw [Prod.mk.injEq]
    omega) ha hb
def prsB (bs : List B3) : List (Int × Int) := bs.flatMap fun b => [(b.1, b.2.1), (b.1, b.2.2), (b.2.1, b.2.2)]
theorem prsB_snoc (bs : List B3) (b : B3) : prsB (bs ++ [b]) = prsB bs ++ [(b.1, b.2.1), (b.1, b.2.2), (b.2.1, b.2.2)] := by simp [prsB]
theorem prsB_len (bs : List B3) : (prsB bs).length = 3 * bs.length := by
  unfold prsB
  induction bs with
  | nil => rfl
  | cons b bs ih => rw [List.flatMap_cons, List.length_append, ih]; simp; omega
theorem mem_prsB {bs : List B3} {p : Int × Int} : p ∈ prsB bs ↔ ∃ b ∈ bs, p = (b.1, b.2.1) ∨ p = (b.1, b.2.2) ∨ p = (b.2.1, b.2.2) := by
  unfold prsB
  simp [List.mem_flatMap]
section
variable {v : Nat} {bs cs : List B3}
theorem prsB_mem (h : STS (v : Int) bs) {x y : Nat} (hxy : x < y) : ((x : Int), (y : Int)) ∈ prsB bs ↔ ∃ d ∈ bs, has d x ∧ has d y := by
  rw [mem_prsB]
  constructor
  · rintro ⟨b, hb, h1⟩
    refine ⟨b, hb, ?_⟩
    unfold has
    rcases h1 with h1 | h1 | h1 <;> (simp only [Prod.mk.injEq] at h1; omega)
  · rintro ⟨b, hb, h1, h2⟩
    refine ⟨b, hb, ?_⟩
    have hg := h.good b hb
    unfold good at hg
    unfold has at h1 h2
    simp only [Prod.mk.injEq]
    omega
theorem prsB_in (h : STS (v : Int) bs) {p : Int × Int} (hp : p ∈ prsB bs) : ∃ x y : Nat, p = ((x : Int), (y : Int)) ∧ x < y ∧ y < v := by
  obtain ⟨b, hb, h1⟩ := mem_prsB.1 hp
  have hg := h.good b hb
  unfold good at hg
  refine ⟨p.1.toNat, p.2.toNat, ?_, ?_, ?_⟩
  all_goals rcases h1 with rfl | rfl | rfl
  all_goals first | (simp only [Prod.mk.injEq]; omega) | (simp only; omega)
theorem prsB_nodup (hv : v ≤ 15) (h : STS (v : Int) bs) : (prsB bs).Nodup := by
  have hr := sts_rest h
  unfold prsB
  unfold List.Nodup
  rw [List.flatMap_def, List.pairwise_flatten]
  constructor
  · intro l hl
    obtain ⟨b, hb, rfl⟩ := List.mem_map.1 hl
    have hg := h.good b hb
    unfold good at hg
    simp only [List.pairwise_cons, List.mem_cons, List.not_mem_nil, or_false, forall_eq_or_imp, forall_eq, ne_eq, Prod.mk.injEq, List.Pairwise.nil, and_true]
    refine ⟨⟨?_, ?_⟩, ?_, ?_⟩ <;> first | omega | (intro _ h; cases h)
  · rw [List.pairwise_map]
    refine List.Pairwise.imp_of_mem ?_ hr.fit
    intro a b ha hb hc
    have hga := h.good a ha
    have hgb := h.good b hb
    rw [common_le hga.three] at hc
    unfold good at hga hgb
    unfold has at hc
    intro p h1 q h2 e
    subst e
    simp only [List.mem_cons, List.not_mem_nil, or_false] at h1 h2
    rcases h1 with rfl | rfl | rfl <;> simp only [Prod.mk.injEq] at h2 <;> omega
/-- The same pairs. -/
theorem same_pairs (hv : v ≤ 15) (h : STS (v : Int) bs) (g : STS (v : Int) cs) : (prsB bs).Perm (prsB cs) ↔ ∀ x y : Nat, x < y → y < v → usd (maskB 0 bs) x y = usd (maskB 0 cs) x y := by
  rw [List.perm_ext_iff_of_nodup (prsB_nodup hv h) (prsB_nodup hv g)]
  have hu : ∀ {ds : List B3}, STS (v : Int) ds → ∀ x y : Nat, x < y → y < v → (usd (maskB 0 ds) x y = true ↔ ((x : Int), (y : Int)) ∈ prsB ds) := fun hd x y h1 h2 => by
    rw [usd_mask _ 0 hv (sts_rest hd).ok x y h1 h2, prsB_mem hd h1, usd_zero]
    simp
  constructor
  · intro hm x y h1 h2
    have e := hm ((x : Int), (y : Int))
    rw [← hu h x y h1 h2, ← hu g x y h1 h2] at e
    cases ha : usd (maskB 0 bs) x y <;> cases hb : usd (maskB 0 cs) x y <;> simp_all
  · intro hm p
    constructor
    · intro hp
      obtain ⟨x, y, rfl, h1, h2⟩ := prsB_in h hp
      rw [← hu g x y h1 h2, ← hm x y h1 h2, hu h x y h1 h2]
      exact hp
    · intro hp
      obtain ⟨x, y, rfl, h1, h2⟩ := prsB_in g hp
      rw [← hu h x y h1 h2, hm x y h1 h2, hu g x y h1 h2]
      exact hp
end
end Go.Vc
namespace Go.Vc
/-- Which numbers of pairs are in some blocks. -/
def usedK (n : Nat) (bs : List B3) : List Bool := (List.range n).map fun k => decide (∃ p ∈ prsB bs, prI p.1.toNat p.2.toNat = k)
theorem usedK_len (n : Nat) (bs : List B3) : (usedK n bs).length = n := by simp [usedK]
theorem usedK_nil (n : Nat) : usedK n [] = List.replicate n false := by
  apply List.ext_getElem
  · simp [usedK]
  · intro k h1 h2
    simp [usedK, prsB]
theorem usedK_snoc (n : Nat) (bs : List B3) (b : B3) : usedK n (bs ++ [b]) = (((usedK n bs).set (prI b.1.toNat b.2.1.toNat) true).set (prI b.1.toNat b.2.2.toNat) true).set (prI b.2.1.toNat b.2.2.toNat) true := by
  apply List.ext_getElem
  · simp [usedK]
  · intro k h1 h2
    simp only [List.getElem_set]
    simp only [usedK, List.getElem_map, List.getElem_range]
    have key : (∃ p ∈ prsB (bs ++ [b]), prI p.1.toNat p.2.toNat = k) ↔ (prI b.2.1.toNat b.2.2.toNat = k ∨ prI b.1.toNat b.2.2.toNat = k ∨ prI b.1.toNat b.2.1.toNat = k ∨ ∃ p ∈ prsB bs, prI p.1.toNat p.2.toNat = k) := by
      rw [prsB_snoc]
      simp only [List.mem_append, List.mem_cons, List.not_mem_nil, or_false]
      constructor
      · rintro ⟨p, h | rfl | rfl | rfl, e⟩
        · exact .inr (.inr (.inr ⟨p, h, e⟩))
        · exact .inr (.inr (.inl e))
        · exact .inr (.inl e)
        · exact .inl e
      · rintro (e | e | e | ⟨p, h, e⟩)
        · exact ⟨_, .inr (.inr (.inr rfl)), e⟩
        · exact ⟨_, .inr (.inr (.inl rfl)), e⟩
        · exact ⟨_, .inr (.inl rfl), e⟩
        · exact ⟨p, .inl h, e⟩
    by_cases e1 : prI b.2.1.toNat b.2.2.toNat = k
    · rw [if_pos e1]; exact decide_eq_true (key.2 (.inl e1))
    · rw [if_neg e1]
      by_cases e2 : prI b.1.toNat b.2.2.toNat = k
      · rw [if_pos e2]; exact decide_eq_true (key.2 (.inr (.inl e2)))
      · rw [if_neg e2]
        by_cases e3 : prI b.1.toNat b.2.1.toNat = k
        · rw [if_pos e3]; exact decide_eq_true (key.2 (.inr (.inr (.inl e3))))
        · rw [if_neg e3]
          refine decide_eq_decide.2 (key.trans ⟨fun h => ?_, fun h => .inr (.inr (.inr h))⟩)
          rcases h with h | h | h | h
          · exact absurd h e1
          · exact absurd h e2
          · exact absurd h e3
          · exact h
def usedL (bs : List B3) : List Bool := usedK 256 bs
theorem usedL_len (bs : List B3) : (usedL bs).length = 256 := usedK_len 256 bs
theorem usedL_nil : usedL [] = List.replicate 256 false := usedK_nil 256
theorem usedL_snoc (bs : List B3) (b : B3) : usedL (bs ++ [b]) = (((usedL bs).set (prI b.1.toNat b.2.1.toNat) true).set (prI b.1.toNat b.2.2.toNat) true).set (prI b.2.1.toNat b.2.2.toNat) true := usedK_snoc 256 bs b
theorem usedK_at {n : Nat} {bs : List B3} {k : Nat} (hk : k < n) : (usedK n bs)[k]? = some true ↔ ∃ p ∈ prsB bs, prI p.1.toNat p.2.toNat = k := by
  simp only [usedK, List.getElem?_map, List.getElem?_range hk, Option.map_some, Option.some.injEq, decide_eq_true_eq]
theorem usedK_congr {n : Nat} {bs cs : List B3} (h : ∀ p, p ∈ prsB bs ↔ p ∈ prsB cs) : usedK n bs = usedK n cs := by
  unfold usedK
  apply List.map_congr_left
  intro k _
  exact decide_eq_decide.2 ⟨fun ⟨p, hp, e⟩ => ⟨p, (h p).1 hp, e⟩, fun ⟨p, hp, e⟩ => ⟨p, (h p).2 hp, e⟩⟩
theorem usedL_iff {v : Nat} {bs cs : List B3} (hv : v ≤ 15) (h : STS (v : Int) bs) (g : STS (v : Int) cs) : usedL bs = usedL cs ↔ (prsB bs).Perm (prsB cs) := by
  rw [List.perm_ext_iff_of_nodup (prsB_nodup hv h) (prsB_nodup hv g)]
  have at_ : ∀ (ds : List B3), STS (v : Int) ds → ∀ x y : Nat, x < y → y < v → (((x : Int), (y : Int)) ∈ prsB ds ↔ (usedL ds)[prI x y]? = some true) := by
    intro ds hd x y hx hy
    have hl : prI x y < 256 := prI_lt (by omega) (by omega)
    rw [show usedL ds = usedK 256 ds from rfl, usedK_at hl]
    constructor
    · intro hp; exact ⟨_, hp, by simp⟩
    · rintro ⟨p, hp, e⟩
      obtain ⟨a, b, rfl, hab, hb⟩ := prsB_in hd hp
      simp only [Int.toNat_natCast] at e
      rcases prI_inj (by omega) (by omega) (by omega) (by omega) e with ⟨rfl, rfl⟩ | ⟨rfl, rfl⟩
      · exact hp
      · omega
  constructor
  · intro e p
    constructor
    · intro hp
      obtain ⟨x, y, rfl, hx, hy⟩ := prsB_in h hp
      rw [at_ cs g x y hx hy, ← e, ← at_ bs h x y hx hy]
      exact hp
    · intro hp
      obtain ⟨x, y, rfl, hx, hy⟩ := prsB_in g hp
      rw [at_ bs h x y hx hy, e, ← at_ cs g x y hx hy]
      exact hp
  · intro hm
    exact usedK_congr hm
/-- A trade. -/
def TRD (v : Int) (os ns : List B3) : Prop := STS v os ∧ STS v ns ∧ (∀ b ∈ os, b ∉ ns) ∧ (prsB os).Perm (prsB ns)
noncomputable instance (v : Int) (os ns : List B3) : Decidable (TRD v os ns) := Classical.propDecidable _
/-- The first n numbers that are points of blocks. -/
def ptsB (os : List B3) (n : Nat) : List Int := ((List.range n).filter fun p : Nat => decide (∃ b ∈ os, has b (p : Int))).map fun p : Nat => (p : Int)
theorem ptsB_yes {os : List B3} {n : Nat} (h : ∃ b ∈ os, has b (n : Int)) : ptsB os (n + 1) = ptsB os n ++ [(n : Int)] := by
  unfold ptsB
  rw [List.range_succ, List.filter_append, List.map_append]
  simp only [List.filter_cons, List.filter_nil, decide_eq_true h, if_true, List.map_cons, List.map_nil]
theorem ptsB_no {os : List B3} {n : Nat} (h : ¬ ∃ b ∈ os, has b (n : Int)) : ptsB os (n + 1) = ptsB os n := by
  unfold ptsB
  rw [List.range_succ, List.filter_append, List.map_append]
  simp only [List.filter_cons, List.filter_nil, decide_eq_false h]
  simp
theorem ptsB_len {os : List B3} {n : Nat} : (ptsB os n).length ≤ n := by
  unfold ptsB
  rw [List.length_map]
  exact Nat.le_trans (List.length_filter_le _ _) (by simp)
/-- What both PointsOfTrade return. -/
def PTR (v : Int) (os ns : List B3) (o : List Int) : Prop := (TRD v os ns → o = ptsB os v.toNat) ∧ (¬ TRD v os ns → o = [])
theorem PTR.unique {v : Int} {os ns : List B3} {a b : List Int} (h : PTR v os ns a) (g : PTR v os ns b) : a = b := by
  by_cases ht : TRD v os ns
  · rw [h.1 ht, g.1 ht]
  · rw [h.2 ht, g.2 ht]
theorem PTR.len {v : Int} {os ns : List B3} {a : List Int} (h : PTR v os ns a) : a.length ≤ 15 := by
  by_cases ht : TRD v os ns
  · rw [h.1 ht]
    have := ptsB_len (os := os) (n := v.toNat)
    have := ht.1.hi
    omega
  · rw [h.2 ht]; simp
end Go.Vc
/-
  Plain words: mitres: three blocks with a point in common, and two blocks that are apart and meet each of the three elsewhere.
-/
namespace Go.Vc
structure Cr (a : Int) (X Y Z P Q : B3) : Prop where
  pa : ¬ has P a
  qa : ¬ has Q a
  dis : ∀ t, has P t → ¬ has Q t
  xp : ∃ t, has X t ∧ has P t
  xq : ∃ t, has X t ∧ has Q t
  yp : ∃ t, has Y t ∧ has P t
  yq : ∃ t, has Y t ∧ has Q t
  zp : ∃ t, has Z t ∧ has P t
  zq : ∃ t, has Z t ∧ has Q t
section
variable {v : Int} {bs : List B3} {a b c d e f g : Int} {x y z : Nat} {r : List Int}
def MitT (bs : List B3) (a : Int) (X Y Z : B3) (xs : List Int) (r : List Int) : Prop := ∃ p q : Nat, ∃ (hp : p < bs.length) (hq : q < bs.length), Cr a X Y Z bs[p] bs[q] ∧ r.Perm (xs ++ [(p : Int), (q : Int)]) ∧ r.Pairwise (· ≤ ·)
/-- Two blocks, one with each of the points. -/
def HitM (bs : List B3) (b d f c e g : Int) (xs r : List Int) : Prop := ∃ p q : Nat, ∃ (hp : p < bs.length) (hq : q < bs.length), (has bs[p] b ∧ has bs[p] d ∧ has bs[p] f) ∧ (has bs[q] c ∧ has bs[q] e ∧ has bs[q] g) ∧ r.Perm (xs ++ [(p : Int), (q : Int)]) ∧ r.Pairwise (· ≤ ·)
/-- Three blocks through a. -/
structure Thr (bs : List B3) (a b c d e f g : Int) (x y z : Nat) : Prop where
  hx : x < bs.length
  hy : y < bs.length
  hz : z < bs.length
  xy : x ≠ y
  xz : x ≠ z
  yz : y ≠ z
  tx : Tri (bs[x]'hx) a b c
  ty : Tri (bs[y]'hy) a d e
  tz : Tri (bs[z]'hz) a f g
theorem far (h : STS v bs) {i j : Nat} (hi : i < bs.length) (hj : j < bs.length) (hne : i ≠ j) (ha : has bs[i] a) (hb : has bs[j] a) (t : Int) (h1 : has bs[i] t) (h2 : has bs[j] t) : t = a := by
  apply Decidable.byContradiction
  intro ht
  exact hne (h.two hi hj (fun e => ht e.symm) ha h1 hb h2)
def Sev (a b c d e f g : Int) : Prop := (a ≠ b ∧ a ≠ c ∧ a ≠ d ∧ a ≠ e ∧ a ≠ f ∧ a ≠ g) ∧ (b ≠ c ∧ b ≠ d ∧ b ≠ e ∧ b ≠ f ∧ b ≠ g) ∧ (c ≠ d ∧ c ≠ e ∧ c ≠ f ∧ c ≠ g) ∧ (d ≠ e ∧ d ≠ f ∧ d ≠ g) ∧ (e ≠ f ∧ e ≠ g) ∧ f ≠ g
theorem Thr.sev (h : STS v bs) (t : Thr bs a b c d e f g x y z) : Sev a b c d e f g := by
  have k1 := far h t.hx t.hy t.xy t.tx.h1 t.ty.h1
  have k2 := far h t.hx t.hz t.xz t.tx.h1 t.tz.h1
  have k3 := far h t.hy t.hz t.yz t.ty.h1 t.tz.h1
  have x1 := t.tx.1
  have x2 := t.tx.2.1
  have x3 := t.tx.2.2.1
  have y1 := t.ty.1
  have y2 := t.ty.2.1
  have y3 := t.ty.2.2.1
  have z1 := t.tz.1
  have z2 := t.tz.2.1
  have z3 := t.tz.2.2.1
  refine ⟨⟨x1, x2, y1, y2, z1, z2⟩, ⟨x3, ?_, ?_, ?_, ?_⟩, ⟨?_, ?_, ?_, ?_⟩, ⟨y3, ?_, ?_⟩, ⟨?_, ?_⟩, z3⟩
  · intro e; subst e; exact x1 (k1 _ t.tx.h2 t.ty.h2).symm
  · intro e; subst e; exact x1 (k1 _ t.tx.h2 t.ty.h3).symm
  · intro e; subst e; exact x1 (k2 _ t.tx.h2 t.tz.h2).symm
  · intro e; subst e; exact x1 (k2 _ t.tx.h2 t.tz.h3).symm
  · intro e; subst e; exact x2 (k1 _ t.tx.h3 t.ty.h2).symm
  · intro e; subst e; exact x2 (k1 _ t.tx.h3 t.ty.h3).symm
  · intro e; subst e; exact x2 (k2 _ t.tx.h3 t.tz.h2).symm
  · intro e; subst e; exact x2 (k2 _ t.tx.h3 t.tz.h3).symm
  · intro e; subst e; exact y1 (k3 _ t.ty.h2 t.tz.h2).symm
  · intro e; subst e; exact y1 (k3 _ t.ty.h2 t.tz.h3).symm
  · intro e; subst e; exact y2 (k3 _ t.ty.h3 t.tz.h2).symm
  · intro e; subst e; exact y2 (k3 _ t.ty.h3 t.tz.h3).symm
theorem HitM.flip {xs : List Int} (h : HitM bs b d f c e g xs r) : HitM bs c e g b d f xs r := by
  obtain ⟨p, q, hp, hq, h1, h2, h3, h4⟩ := h
  exact ⟨q, p, hq, hp, h2, h1, h3.trans (List.Perm.append_left _ (List.Perm.swap _ _ _)), h4⟩
/-- A mitre, told by one point of each of the three blocks. -/
theorem hitM_mit {v : Int} (h : STS v bs) (t : Thr bs a b c d e f g x y z) {xs : List Int} (hh : HitM bs b d f c e g xs r) : MitT bs a (bs[x]'t.hx) (bs[y]'t.hy) (bs[z]'t.hz) xs r := by
  obtain ⟨p, q, hp, hq, ⟨p1, p2, p3⟩, ⟨q1, q2, q3⟩, h3, h4⟩ := hh
  obtain ⟨⟨ab, ac, ad, ae, af, ag⟩, ⟨bc, bd, be, bf, bg⟩, ⟨cd, ce, cf, cg⟩, ⟨de, df, dg⟩, ⟨ef, eg⟩, fg⟩ := t.sev h
  have tp := tri_of (h.good _ (List.getElem_mem hp)) p1 p2 p3 bd bf df
  have tq := tri_of (h.good _ (List.getElem_mem hq)) q1 q2 q3 ce cg eg
  refine ⟨p, q, hp, hq, ⟨fun k => ?_, fun k => ?_, fun u k l => ?_, ⟨b, t.tx.h2, p1⟩, ⟨c, t.tx.h3, q1⟩, ⟨d, t.ty.h2, p2⟩, ⟨e, t.ty.h3, q2⟩, ⟨f, t.tz.h2, p3⟩, ⟨g, t.tz.h3, q3⟩⟩, h3, h4⟩
  · rcases (tp.2.2.2 a).1 k with k | k | k
    · exact ab k
    · exact ad k
    · exact af k
  · rcases (tq.2.2.2 a).1 k with k | k | k
    · exact ac k
    · exact ae k
    · exact ag k
  · have h5 := (tp.2.2.2 u).1 k
    have h6 := (tq.2.2.2 u).1 l
    rcases h5 with h5 | h5 | h5 <;> rcases h6 with h6 | h6 | h6 <;> have e := h5.symm.trans h6 <;> first | exact bc e | exact be e | exact bg e | exact cd e.symm | exact de e | exact dg e | exact cf e.symm | exact ef e.symm | exact fg e
theorem Thr.swapx (t : Thr bs a b c d e f g x y z) : Thr bs a c b d e f g x y z := ⟨t.hx, t.hy, t.hz, t.xy, t.xz, t.yz, t.tx.swap, t.ty, t.tz⟩
theorem Thr.swapy (t : Thr bs a b c d e f g x y z) : Thr bs a b c e d f g x y z := ⟨t.hx, t.hy, t.hz, t.xy, t.xz, t.yz, t.tx, t.ty.swap, t.tz⟩
theorem Thr.swapz (t : Thr bs a b c d e f g x y z) : Thr bs a b c d e g f x y z := ⟨t.hx, t.hy, t.hz, t.xy, t.xz, t.yz, t.tx, t.ty, t.tz.swap⟩
/-- One of both points of a block is in one of two blocks that are apart, the other one in the other. -/
theorem either_pt {X P Q : B3} {a b c : Int} (t : Tri X a b c) (pa : ¬ has P a) (qa : ¬ has Q a) (dis : ∀ t, has P t → ¬ has Q t) (h1 : ∃ t, has X t ∧ has P t) (h2 : ∃ t, has X t ∧ has Q t) : (has P b ∧ has Q c) ∨ (has P c ∧ has Q b) := by
  obtain ⟨u, hu, hp⟩ := h1
  obtain ⟨w, hw, hq⟩ := h2
  rcases (t.2.2.2 u).1 hu with rfl | rfl | rfl
  · exact absurd hp pa
  · rcases (t.2.2.2 w).1 hw with rfl | rfl | rfl
    · exact absurd hq qa
    · exact absurd hq (dis _ hp)
    · exact .inl ⟨hp, hq⟩
  · rcases (t.2.2.2 w).1 hw with rfl | rfl | rfl
    · exact absurd hq qa
    · exact .inr ⟨hp, hq⟩
    · exact absurd hq (dis _ hp)
theorem mitT_iff {v : Int} (h : STS v bs) (t : Thr bs a b c d e f g x y z) {xs : List Int} : MitT bs a (bs[x]'t.hx) (bs[y]'t.hy) (bs[z]'t.hz) xs r ↔ HitM bs b d f c e g xs r ∨ HitM bs b d g c e f xs r ∨ HitM bs b e f c d g xs r ∨ HitM bs b e g c d f xs r := by
  constructor
  · rintro ⟨p, q, hp, hq, cr, h3, h4⟩
    have key : ∀ (p q : Nat) (hp : p < bs.length) (hq : q < bs.length), has bs[p] b ∧ has bs[q] c → Cr a (bs[x]'t.hx) (bs[y]'t.hy) (bs[z]'t.hz) bs[p] bs[q] → r.Perm (xs ++ [(p : Int), (q : Int)]) → HitM bs b d f c e g xs r ∨ HitM bs b d g c e f xs r ∨ HitM bs b e f c d g xs r ∨ HitM bs b e g c d f xs r := by
      intro p q hp hq h1 cr h3
      rcases either_pt t.ty cr.pa cr.qa cr.dis cr.yp cr.yq with h5 | h5
      · rcases either_pt t.tz cr.pa cr.qa cr.dis cr.zp cr.zq with h6 | h6
        · exact .inl ⟨p, q, hp, hq, ⟨h1.1, h5.1, h6.1⟩, ⟨h1.2, h5.2, h6.2⟩, h3, h4⟩
        · exact .inr (.inl ⟨p, q, hp, hq, ⟨h1.1, h5.1, h6.1⟩, ⟨h1.2, h5.2, h6.2⟩, h3, h4⟩)
      · rcases either_pt t.tz cr.pa cr.qa cr.dis cr.zp cr.zq with h6 | h6
        · exact .inr (.inr (.inl ⟨p, q, hp, hq, ⟨h1.1, h5.1, h6.1⟩, ⟨h1.2, h5.2, h6.2⟩, h3, h4⟩))
        · exact .inr (.inr (.inr ⟨p, q, hp, hq, ⟨h1.1, h5.1, h6.1⟩, ⟨h1.2, h5.2, h6.2⟩, h3, h4⟩))
    rcases either_pt t.tx cr.pa cr.qa cr.dis cr.xp cr.xq with h1 | h1
    · exact key p q hp hq h1 cr h3
    · exact key q p hq hp ⟨h1.2, h1.1⟩ ⟨cr.qa, cr.pa, fun t k l => cr.dis t l k, cr.xq, cr.xp, cr.yq, cr.yp, cr.zq, cr.zp⟩ (h3.trans (List.Perm.append_left _ (List.Perm.swap _ _ _)))
  · rintro (hh | hh | hh | hh)
    · exact hitM_mit h t hh
    · exact hitM_mit h t.swapz hh
    · exact hitM_mit h t.swapy hh
    · exact hitM_mit h t.swapy.swapz hh
/-- The way is told by the blocks. -/
theorem hitM_way {v : Int} (h : STS v bs) (t : Thr bs a b c d e f g x y z) {xs : List Int} {d1 e1 f1 g1 d2 e2 f2 g2 : Int} (k1 : (d1 = d ∧ e1 = e) ∨ (d1 = e ∧ e1 = d)) (k2 : (d2 = d ∧ e2 = e) ∨ (d2 = e ∧ e2 = d)) (l1 : (f1 = f ∧ g1 = g) ∨ (f1 = g ∧ g1 = f)) (l2 : (f2 = f ∧ g2 = g) ∨ (f2 = g ∧ g2 = f))
    (h1 : HitM bs b d1 f1 c e1 g1 xs r) (h2 : HitM bs b d2 f2 c e2 g2 xs r) : d1 = d2 ∧ f1 = f2 := by
  obtain ⟨p, q, hp, hq, ⟨p1, p2, p3⟩, ⟨q1, q2, q3⟩, h3, h4⟩ := h1
  obtain ⟨p', q', hp', hq', ⟨p1', p2', p3'⟩, ⟨q1', q2', q3'⟩, h3', h4'⟩ := h2
  obtain ⟨⟨ab, ac, ad, ae, af, ag⟩, ⟨bc, bd, be, bf, bg⟩, ⟨cd, ce, cf, cg⟩, ⟨de, df, dg⟩, ⟨ef, eg⟩, fg⟩ := t.sev h
  have n1 : ∀ {d1 e1 : Int}, (d1 = d ∧ e1 = e) ∨ (d1 = e ∧ e1 = d) → b ≠ d1 ∧ c ≠ d1 := fun k => by rcases k with ⟨rfl, _⟩ | ⟨rfl, _⟩; (· exact ⟨bd, cd⟩); (· exact ⟨be, ce⟩)
  have n2 : ∀ {f1 g1 : Int}, (f1 = f ∧ g1 = g) ∨ (f1 = g ∧ g1 = f) → b ≠ f1 ∧ c ≠ f1 := fun k => by rcases k with ⟨rfl, _⟩ | ⟨rfl, _⟩; (· exact ⟨bf, cf⟩); (· exact ⟨bg, cg⟩)
  have n3 : ∀ {d1 e1 f1 g1 : Int}, (d1 = d ∧ e1 = e) ∨ (d1 = e ∧ e1 = d) → (f1 = f ∧ g1 = g) ∨ (f1 = g ∧ g1 = f) → d1 ≠ f1 := fun k l => by
    rcases k with ⟨rfl, _⟩ | ⟨rfl, _⟩ <;> rcases l with ⟨rfl, _⟩ | ⟨rfl, _⟩
    · exact df
    · exact dg
    · exact ef
    · exact eg
  have hperm := (List.perm_append_left_iff xs).1 (h3.symm.trans h3')
  have hm : (p : Int) ∈ [(p' : Int), (q' : Int)] := hperm.mem_iff.1 (by simp)
  have tp := tri_of (h.good _ (List.getElem_mem hp)) p1 p2 p3 (n1 k1).1 (n2 l1).1 (n3 k1 l1)
  have e1 : p = p' := by
    simp only [List.mem_cons, List.not_mem_nil, or_false] at hm
    rcases hm with e | e
    · exact Int.ofNat.inj e
    · have e : p = q' := Int.ofNat.inj e
      subst e
      rcases (tp.2.2.2 c).1 q1' with k | k | k
      · exact absurd k.symm bc
      · exact absurd k (n1 k1).2
      · exact absurd k (n2 l1).2
  subst e1
  constructor
  · rcases (tp.2.2.2 d2).1 p2' with k | k | k
    · exact absurd k.symm (n1 k2).1
    · exact k.symm
    · exact absurd k (n3 k2 l1)
  · rcases (tp.2.2.2 f2).1 p3' with k | k | k
    · exact absurd k.symm (n2 l2).1
    · exact absurd k.symm (n3 k1 l2)
    · exact k.symm
/-- The three blocks through the point are told by the mitre. -/
theorem mitT_three {v : Int} (h : STS v bs) {X Y Z X' Y' Z' : B3} {x y z x' y' z' : Nat} (lx : x < bs.length) (ly : y < bs.length) (lz : z < bs.length) (lx' : x' < bs.length) (ly' : y' < bs.length) (lz' : z' < bs.length) (gx : has bs[x] a) (gy : has bs[y] a) (gz : has bs[z] a) (gx' : has bs[x'] a) (gy' : has bs[y'] a) (gz' : has bs[z'] a)
    (hxy : x < y) (hyz : y < z) (hxy' : x' < y') (hyz' : y' < z') (h1 : MitT bs a X Y Z [(x : Int), (y : Int), (z : Int)] r) (h2 : MitT bs a X' Y' Z' [(x' : Int), (y' : Int), (z' : Int)] r) : x = x' ∧ y = y' ∧ z = z' := by
  obtain ⟨p, q, hp, hq, cr, h3, _⟩ := h1
  obtain ⟨p', q', hp', hq', cr', h3', _⟩ := h2
  have hm : ∀ n : Nat, n < bs.length → (n : Int) ∈ [(x : Int), (y : Int), (z : Int)] ++ [(p : Int), (q : Int)] → has (bs.getD n (0, 0, 0)) a → n = x' ∨ n = y' ∨ n = z' := fun n hn k1 k2 => by
    have := (h3.symm.trans h3').mem_iff.1 k1
    simp only [List.cons_append, List.nil_append, List.mem_cons, List.not_mem_nil, or_false] at this
    rcases this with e | e | e | e | e
    · omega
    · omega
    · omega
    · have e : n = p' := by omega
      subst e
      exact absurd (by simpa [List.getD, hn] using k2) cr'.pa
    · have e : n = q' := by omega
      subst e
      exact absurd (by simpa [List.getD, hn] using k2) cr'.qa
  have m1 := hm x lx (by simp) (by simpa [List.getD, lx] using gx)
  have m2 := hm y ly (by simp) (by simpa [List.getD, ly] using gy)
  have m3 := hm z lz (by simp) (by simpa [List.getD, lz] using gz)
  omega
end
end Go.Vc
/-
  Plain words: the lists of mitres.
-/
namespace Go.Vc
def fmR {α : Type} (f : Nat → List α) (n : Nat) : List α := (List.range n).flatMap f
theorem fmR_zero {α : Type} (f : Nat → List α) : fmR f 0 = [] := rfl
theorem fmR_succ {α : Type} (f : Nat → List α) (n : Nat) : fmR f (n + 1) = fmR f n ++ f n := by
  unfold fmR
  rw [List.range_succ, List.flatMap_append]
  simp
theorem mem_fmR {α : Type} {f : Nat → List α} {n : Nat} {r : α} : r ∈ fmR f n ↔ ∃ i, i < n ∧ r ∈ f i := by
  unfold fmR
  simp [List.mem_flatMap]
theorem fmR_nodup {α : Type} {f : Nat → List α} : ∀ {n : Nat}, (∀ i, i < n → (f i).Nodup) → (∀ i j r, i < n → j < n → r ∈ f i → r ∈ f j → i = j) → (fmR f n).Nodup
  | 0, _, _ => List.nodup_nil
  | n + 1, h1, h2 => by
    rw [fmR_succ, List.nodup_append]
    refine ⟨fmR_nodup (fun i hi => h1 i (by omega)) (fun i j r hi hj => h2 i j r (by omega) (by omega)), h1 n (by omega), fun x hx y hy e => ?_⟩
    subst e
    obtain ⟨i, hi, hm⟩ := mem_fmR.1 hx
    have := h2 i n x (by omega) (by omega) hm hy
    omega
theorem fmR_len {α : Type} {f : Nat → List α} {m : Nat} : ∀ {n : Nat}, (∀ i, i < n → (f i).length ≤ m) → (fmR f n).length ≤ n * m
  | 0, _ => by simp [fmR]
  | n + 1, h => by
    rw [fmR_succ, List.length_append]
    have h1 := fmR_len (n := n) (fun i hi => h i (by omega))
    have h2 := h n (by omega)
    rw [Nat.succ_mul]
    omega
theorem bk3_of {v : Int} {B : B3} (hg : good v B) {x y z : Int} (t : Tri B x y z) : bk3 x y z = B := by
  have h1 := t.h1
  have h2 := t.h2
  have h3 := t.h3
  have n1 := t.1
  have n2 := t.2.1
  have n3 := t.2.2.1
  obtain ⟨p, q, r⟩ := B
  unfold good at hg
  unfold has at h1 h2 h3
  unfold bk3 mi3 lo3 hi3
  simp only at *
  rw [Prod.mk.injEq, Prod.mk.injEq]
  omega
theorem bk3_has {B : B3} {x y z : Int} (e : bk3 x y z = B) : has B x ∧ has B y ∧ has B z := by
  subst e
  unfold has bk3 mi3 lo3 hi3
  simp only
  omega
abbrev W4 := Int × Int × Int × Int
noncomputable def ent (bs : List B3) (x y z b c : Int) (w : W4) : List (List Int) :=
  if idxP (fun t => bk3 b w.1 w.2.2.1 = t) bs < 0 ∨ idxP (fun t => bk3 c w.2.1 w.2.2.2 = t) bs < 0 then [] else [sortI [x, y, z, idxP (fun t => bk3 b w.1 w.2.2.1 = t) bs, idxP (fun t => bk3 c w.2.1 w.2.2.2 = t) bs]]
theorem ent_len (bs : List B3) (x y z b c : Int) (w : W4) : (ent bs x y z b c w).length ≤ 1 := by
  unfold ent
  split <;> simp
def wayL (d e f g : Int) : List W4 := [(d, e, f, g), (d, e, g, f), (e, d, f, g), (e, d, g, f)]
noncomputable def f3 (bs : List B3) (a x y z : Int) : List (List Int) := (wayL (oth1 (blk bs y) a) (oth2 (blk bs y) a) (oth1 (blk bs z) a) (oth2 (blk bs z) a)).flatMap (ent bs x y z (oth1 (blk bs x) a) (oth2 (blk bs x) a))
theorem flat1_len {bs : List B3} {x y z b c : Int} : ∀ ws : List W4, (ws.flatMap (ent bs x y z b c)).length ≤ ws.length
  | [] => by simp
  | w :: ws => by
    rw [List.flatMap_cons, List.length_append, List.length_cons]
    have := ent_len bs x y z b c w
    have := flat1_len (bs := bs) (x := x) (y := y) (z := z) (b := b) (c := c) ws
    omega
theorem f3_len (bs : List B3) (a x y z : Int) : (f3 bs a x y z).length ≤ 4 := flat1_len _
noncomputable def mt3 (bs : List B3) (a : Int) (l : List Int) (i j k : Nat) : List (List Int) := f3 bs a (l.getD i 0) (l.getD (i + 1 + j) 0) (l.getD (i + j + 2 + k) 0)
noncomputable def mt2 (bs : List B3) (a : Int) (l : List Int) (i j : Nat) : List (List Int) := fmR (mt3 bs a l i j) (l.length - (i + j + 2))
noncomputable def mt1 (bs : List B3) (a : Int) (l : List Int) (i : Nat) : List (List Int) := fmR (mt2 bs a l i) (l.length - (i + 1))
noncomputable def mitI (bs : List B3) (a : Int) : List (List Int) := fmR (mt1 bs a (numsAt (fun c => has c a) bs bs.length)) (numsAt (fun c => has c a) bs bs.length).length
section
variable {v : Int} {bs : List B3} {a b c d e f g : Int} {x y z : Nat} {r : List Int}
theorem ent_mem (h : STS v bs) {w0 w1 w2 w3 X Y Z : Int} (n1 : b ≠ w0) (n2 : b ≠ w2) (n3 : w0 ≠ w2) (m1 : c ≠ w1) (m2 : c ≠ w3) (m3 : w1 ≠ w3) : r ∈ ent bs X Y Z b c (w0, w1, w2, w3) ↔ HitM bs b w0 w2 c w1 w3 [X, Y, Z] r := by
  unfold ent
  dsimp only
  constructor
  · intro hr
    split at hr
    · simp at hr
    · rename_i hn
      rw [List.mem_singleton] at hr
      obtain ⟨p, hp, p1, p2, _⟩ := idxP_at (p := fun t => bk3 b w0 w2 = t) (xs := bs) (by omega)
      obtain ⟨q, hq, q1, q2, _⟩ := idxP_at (p := fun t => bk3 c w1 w3 = t) (xs := bs) (by omega)
      refine ⟨p, q, hp, hq, bk3_has p2, bk3_has q2, ?_, ?_⟩
      · rw [hr, p1, q1]; exact sortI_perm _
      · rw [hr]; exact sortI_sorted _
  · rintro ⟨p, q, hp, hq, ⟨p1, p2, p3⟩, ⟨q1, q2, q3⟩, h3, h4⟩
    have gp := h.good _ (List.getElem_mem hp)
    have gq := h.good _ (List.getElem_mem hq)
    have ep := bk3_of gp (tri_of gp p1 p2 p3 n1 n2 n3)
    have eq := bk3_of gq (tri_of gq q1 q2 q3 m1 m2 m3)
    have ip : idxP (fun t => bk3 b w0 w2 = t) bs = (p : Int) := idxP_found hp ep (fun j hj hlt hh => by
      have := bk3_has hh
      have := h.two hj hp n1 this.1 this.2.1 p1 p2
      omega)
    have iq : idxP (fun t => bk3 c w1 w3 = t) bs = (q : Int) := idxP_found hq eq (fun j hj hlt hh => by
      have := bk3_has hh
      have := h.two hj hq m1 this.1 this.2.1 q1 q2
      omega)
    rw [ip, iq, if_neg (by omega), List.mem_singleton]
    exact sortI_unique h3 h4
theorem thr_of (h : STS v bs) (hx : x < bs.length) (hy : y < bs.length) (hz : z < bs.length) (xy : x ≠ y) (xz : x ≠ z) (yz : y ≠ z) (gx : has bs[x] a) (gy : has bs[y] a) (gz : has bs[z] a) : Thr bs a (oth1 bs[x] a) (oth2 bs[x] a) (oth1 bs[y] a) (oth2 bs[y] a) (oth1 bs[z] a) (oth2 bs[z] a) x y z :=
  ⟨hx, hy, hz, xy, xz, yz, tri_oth (h.good _ (List.getElem_mem hx)) gx, tri_oth (h.good _ (List.getElem_mem hy)) gy, tri_oth (h.good _ (List.getElem_mem hz)) gz⟩
theorem ways_mem (h : STS v bs) (t : Thr bs a b c d e f g x y z) {X Y Z : Int} : r ∈ (wayL d e f g).flatMap (ent bs X Y Z b c) ↔ MitT bs a (bs[x]'t.hx) (bs[y]'t.hy) (bs[z]'t.hz) [X, Y, Z] r := by
  obtain ⟨⟨ab, ac, ad, ae, af, ag⟩, ⟨bc, bd, be, bf, bg⟩, ⟨cd, ce, cf, cg⟩, ⟨de, df, dg⟩, ⟨ef, eg⟩, fg⟩ := t.sev h
  rw [mitT_iff h t]
  simp only [wayL, List.flatMap_cons, List.flatMap_nil, List.append_nil, List.mem_append]
  rw [ent_mem h bd bf df ce cg eg, ent_mem h bd bg dg ce cf ef, ent_mem h be bf ef cd cg dg, ent_mem h be bg eg cd cf df]
theorem ways_nodup (h : STS v bs) (t : Thr bs a b c d e f g x y z) {X Y Z : Int} : ((wayL d e f g).flatMap (ent bs X Y Z b c)).Nodup := by
  obtain ⟨⟨ab, ac, ad, ae, af, ag⟩, ⟨bc, bd, be, bf, bg⟩, ⟨cd, ce, cf, cg⟩, ⟨de, df, dg⟩, ⟨ef, eg⟩, fg⟩ := t.sev h
  unfold List.Nodup
  rw [List.pairwise_flatMap]
  constructor
  · intro w _
    unfold ent
    split <;> simp
  · have A : ∀ {s}, s ∈ ent bs X Y Z b c (d, e, f, g) → HitM bs b d f c e g [X, Y, Z] s := (ent_mem h bd bf df ce cg eg).1
    have B : ∀ {s}, s ∈ ent bs X Y Z b c (d, e, g, f) → HitM bs b d g c e f [X, Y, Z] s := (ent_mem h bd bg dg ce cf ef).1
    have C : ∀ {s}, s ∈ ent bs X Y Z b c (e, d, f, g) → HitM bs b e f c d g [X, Y, Z] s := (ent_mem h be bf ef cd cg dg).1
    have D : ∀ {s}, s ∈ ent bs X Y Z b c (e, d, g, f) → HitM bs b e g c d f [X, Y, Z] s := (ent_mem h be bg eg cd cf df).1
    have o1 : (d = d ∧ e = e) ∨ (d = e ∧ e = d) := .inl ⟨rfl, rfl⟩
    have o2 : (e = d ∧ d = e) ∨ (e = e ∧ d = d) := .inr ⟨rfl, rfl⟩
    have p1 : (f = f ∧ g = g) ∨ (f = g ∧ g = f) := .inl ⟨rfl, rfl⟩
    have p2 : (g = f ∧ f = g) ∨ (g = g ∧ f = f) := .inr ⟨rfl, rfl⟩
    unfold wayL
    rw [List.pairwise_cons, List.pairwise_cons, List.pairwise_cons]
    refine ⟨fun w hw s hs u hu q => ?_, fun w hw s hs u hu q => ?_, fun w hw s hs u hu q => ?_, List.pairwise_singleton _ _⟩
    · subst q
      simp only [List.mem_cons, List.not_mem_nil, or_false] at hw
      rcases hw with rfl | rfl | rfl
      · exact fg (hitM_way h t o1 o1 p1 p2 (A hs) (B hu)).2
      · exact de (hitM_way h t o1 o2 p1 p1 (A hs) (C hu)).1
      · exact de (hitM_way h t o1 o2 p1 p2 (A hs) (D hu)).1
    · subst q
      simp only [List.mem_cons, List.not_mem_nil, or_false] at hw
      rcases hw with rfl | rfl
      · exact de (hitM_way h t o1 o2 p2 p1 (B hs) (C hu)).1
      · exact de (hitM_way h t o1 o2 p2 p2 (B hs) (D hu)).1
    · subst q
      simp only [List.mem_cons, List.not_mem_nil, or_false] at hw
      subst hw
      exact fg (hitM_way h t o2 o2 p1 p2 (C hs) (D hu)).2
/-! ### The numbers of the blocks with a point -/
def atL (bs : List B3) (a : Int) : List Int := numsAt (fun c => has c a) bs bs.length
theorem atL_get {i : Nat} (hi : i < (atL bs a).length) : ∃ x : Nat, ∃ hx : x < bs.length, (atL bs a).getD i 0 = (x : Int) ∧ has bs[x] a := by
  have h1 : (atL bs a)[i] ∈ atL bs a := List.getElem_mem hi
  have e : (atL bs a).getD i 0 = (atL bs a)[i] := getD_at hi
  rw [e]
  generalize (atL bs a)[i] = q at h1
  unfold atL numsAt at h1
  obtain ⟨x, hx, rfl⟩ := List.mem_map.1 h1
  rw [List.mem_filter, List.mem_range] at hx
  obtain ⟨hx, hp⟩ := hx
  refine ⟨x, hx, rfl, ?_⟩
  have := of_decide_eq_true hp
  simpa [List.getD, hx] using this
theorem atL_lt {i j : Nat} (hij : i < j) (hj : j < (atL bs a).length) : (atL bs a).getD i 0 < (atL bs a).getD j 0 := by
  rw [getD_at (by omega), getD_at hj]
  have hp : (atL bs a).Pairwise (· < ·) := by
    unfold atL numsAt
    rw [List.pairwise_map]
    exact (List.pairwise_lt_range.filter _).imp (fun h => by omega)
  exact List.pairwise_iff_getElem.1 hp i j (by omega) hj hij
theorem atL_all {x : Nat} (hx : x < bs.length) (hp : has bs[x] a) : ∃ i, i < (atL bs a).length ∧ (atL bs a).getD i 0 = (x : Int) := by
  have hm : (x : Int) ∈ atL bs a := by
    unfold atL numsAt
    refine List.mem_map.2 ⟨x, List.mem_filter.2 ⟨List.mem_range.2 hx, decide_eq_true ?_⟩, rfl⟩
    simpa [List.getD, hx] using hp
  obtain ⟨i, hi, e⟩ := List.mem_iff_getElem.1 hm
  exact ⟨i, hi, by rw [getD_at hi]; exact e⟩
theorem atL_mono {i j : Nat} (hi : i < (atL bs a).length) (hj : j < (atL bs a).length) (h : (atL bs a).getD i 0 < (atL bs a).getD j 0) : i < j := by
  rcases Nat.lt_trichotomy i j with h1 | h1 | h1
  · exact h1
  · subst h1; omega
  · have := atL_lt h1 hi; omega
theorem atL_len : (atL bs a).length ≤ bs.length := numsAt_len
/-- The mitres with a centre. -/
def Mit (bs : List B3) (a : Int) (r : List Int) : Prop := ∃ (x y z : Nat) (hx : x < bs.length) (hy : y < bs.length) (hz : z < bs.length), x < y ∧ y < z ∧ has bs[x] a ∧ has bs[y] a ∧ has bs[z] a ∧ MitT bs a bs[x] bs[y] bs[z] [(x : Int), (y : Int), (z : Int)] r
/-- Three numbers of the list, ascending. -/
theorem mt3_three (h : STS v bs) {i j k : Nat} (hij : i < j) (hjk : j < k) (hk : k < (atL bs a).length) : ∃ (x y z : Nat) (hx : x < bs.length) (hy : y < bs.length) (hz : z < bs.length), (atL bs a).getD i 0 = (x : Int) ∧ (atL bs a).getD j 0 = (y : Int) ∧ (atL bs a).getD k 0 = (z : Int) ∧ x < y ∧ y < z ∧ has bs[x] a ∧ has bs[y] a ∧ has bs[z] a := by
  obtain ⟨x, hx, ex, gx⟩ := atL_get (bs := bs) (a := a) (i := i) (by omega)
  obtain ⟨y, hy, ey, gy⟩ := atL_get (bs := bs) (a := a) (i := j) (by omega)
  obtain ⟨z, hz, ez, gz⟩ := atL_get (bs := bs) (a := a) (i := k) (by omega)
  have h1 := atL_lt (bs := bs) (a := a) hij (by omega)
  have h2 := atL_lt (bs := bs) (a := a) hjk (by omega)
  exact ⟨x, y, z, hx, hy, hz, ex, ey, ez, by omega, by omega, gx, gy, gz⟩
theorem f3_mem (h : STS v bs) (hx : x < bs.length) (hy : y < bs.length) (hz : z < bs.length) (xy : x < y) (yz : y < z) (gx : has bs[x] a) (gy : has bs[y] a) (gz : has bs[z] a) : r ∈ f3 bs a x y z ↔ MitT bs a bs[x] bs[y] bs[z] [(x : Int), (y : Int), (z : Int)] r := by
  unfold f3
  rw [blk_get hx, blk_get hy, blk_get hz]
  exact ways_mem h (thr_of h hx hy hz (by omega) (by omega) (by omega) gx gy gz)
theorem f3_nodup (h : STS v bs) (hx : x < bs.length) (hy : y < bs.length) (hz : z < bs.length) (xy : x < y) (yz : y < z) (gx : has bs[x] a) (gy : has bs[y] a) (gz : has bs[z] a) : (f3 bs a x y z).Nodup := by
  unfold f3
  rw [blk_get hx, blk_get hy, blk_get hz]
  exact ways_nodup h (thr_of h hx hy hz (by omega) (by omega) (by omega) gx gy gz)
theorem mitI_mem (h : STS v bs) : r ∈ mitI bs a ↔ Mit bs a r := by
  show r ∈ fmR (mt1 bs a (atL bs a)) (atL bs a).length ↔ _
  constructor
  · intro hr
    obtain ⟨i, hi, hr⟩ := mem_fmR.1 hr
    obtain ⟨j, hj, hr⟩ := mem_fmR.1 hr
    obtain ⟨k, hk, hr⟩ := mem_fmR.1 hr
    obtain ⟨x, y, z, hx, hy, hz, ex, ey, ez, xy, yz, gx, gy, gz⟩ := mt3_three (a := a) h (i := i) (j := i + 1 + j) (k := i + j + 2 + k) (by omega) (by omega) (by omega)
    unfold mt3 at hr
    rw [ex, ey, ez, f3_mem h hx hy hz xy yz gx gy gz] at hr
    exact ⟨x, y, z, hx, hy, hz, xy, yz, gx, gy, gz, hr⟩
  · rintro ⟨x, y, z, hx, hy, hz, xy, yz, gx, gy, gz, hr⟩
    obtain ⟨i, hi, ei⟩ := atL_all hx gx
    obtain ⟨j, hj, ej⟩ := atL_all hy gy
    obtain ⟨k, hk, ek⟩ := atL_all hz gz
    have hij := atL_mono hi hj (by omega)
    have hjk := atL_mono hj hk (by omega)
    refine mem_fmR.2 ⟨i, hi, mem_fmR.2 ⟨j - (i + 1), by omega, mem_fmR.2 ⟨k - (j + 1), by omega, ?_⟩⟩⟩
    unfold mt3
    rw [show i + 1 + (j - (i + 1)) = j by omega, show i + (j - (i + 1)) + 2 + (k - (j + 1)) = k by omega, ei, ej, ek]
    exact (f3_mem h hx hy hz xy yz gx gy gz).2 hr
theorem mt3_inj (h : STS v bs) {i j k i' j' k' : Nat} (hk : i + j + 2 + k < (atL bs a).length) (hk' : i' + j' + 2 + k' < (atL bs a).length) (h1 : r ∈ mt3 bs a (atL bs a) i j k) (h2 : r ∈ mt3 bs a (atL bs a) i' j' k') : i = i' ∧ j = j' ∧ k = k' := by
  obtain ⟨x, y, z, hx, hy, hz, ex, ey, ez, xy, yz, gx, gy, gz⟩ := mt3_three (a := a) h (i := i) (j := i + 1 + j) (k := i + j + 2 + k) (by omega) (by omega) (by omega)
  obtain ⟨x', y', z', hx', hy', hz', ex', ey', ez', xy', yz', gx', gy', gz'⟩ := mt3_three (a := a) h (i := i') (j := i' + 1 + j') (k := i' + j' + 2 + k') (by omega) (by omega) (by omega)
  unfold mt3 at h1 h2
  rw [ex, ey, ez, f3_mem h hx hy hz xy yz gx gy gz] at h1
  rw [ex', ey', ez', f3_mem h hx' hy' hz' xy' yz' gx' gy' gz'] at h2
  obtain ⟨e1, e2, e3⟩ := mitT_three h hx hy hz hx' hy' hz' gx gy gz gx' gy' gz' xy yz xy' yz' h1 h2
  have key : ∀ {m n : Nat}, m < (atL bs a).length → n < (atL bs a).length → (atL bs a).getD m 0 = (atL bs a).getD n 0 → m = n := fun {m n} hm hn e => by
    rcases Nat.lt_trichotomy m n with h1 | h1 | h1
    · have := atL_lt h1 hn; omega
    · exact h1
    · have := atL_lt h1 hm; omega
  have q1 := key (m := i) (n := i') (by omega) (by omega) (by omega)
  have q2 := key (m := i + 1 + j) (n := i' + 1 + j') (by omega) (by omega) (by omega)
  have q3 := key hk hk' (by omega)
  omega
theorem mitI_nodup (h : STS v bs) : (mitI bs a).Nodup := by
  show (fmR (mt1 bs a (atL bs a)) (atL bs a).length).Nodup
  refine fmR_nodup (fun i hi => fmR_nodup (fun j hj => fmR_nodup (fun k hk => ?_) ?_) ?_) ?_
  · obtain ⟨x, y, z, hx, hy, hz, ex, ey, ez, xy, yz, gx, gy, gz⟩ := mt3_three (a := a) h (i := i) (j := i + 1 + j) (k := i + j + 2 + k) (by omega) (by omega) (by omega)
    unfold mt3
    rw [ex, ey, ez]
    exact f3_nodup h hx hy hz xy yz gx gy gz
  · intro k k' r hk hk' h1 h2
    exact (mt3_inj h (by omega) (by omega) h1 h2).2.2
  · intro j j' r hj hj' h1 h2
    obtain ⟨k, hk, h1⟩ := mem_fmR.1 h1
    obtain ⟨k', hk', h2⟩ := mem_fmR.1 h2
    exact (mt3_inj h (by omega) (by omega) h1 h2).2.1
  · intro i i' r hi hi' h1 h2
    obtain ⟨j, hj, h1⟩ := mem_fmR.1 h1
    obtain ⟨j', hj', h2⟩ := mem_fmR.1 h2
    obtain ⟨k, hk, h1⟩ := mem_fmR.1 h1
    obtain ⟨k', hk', h2⟩ := mem_fmR.1 h2
    exact (mt3_inj h (by omega) (by omega) h1 h2).1
end
end Go.Vc
/-
  The calculus, part 25: lists of lists in order; each once.
-/
namespace Go.Vc
open Go Go.RowKit
open Go.Proofs (ltOf)
open Go.Sort (SWO)
section
variable {P : Program} {w0 w : World} {H : List Assn} {T T2 c : Nat} {A : Option Addr} {ps : List (Sl × List Int)}
def RowC : Cod (Sl × List Int) := ⟨1, fun p => SlC.enc p.1, by decide, fun p => SlC.len p.1, fun p u hu => SlC.one p.1 u hu⟩
theorem own_tops : Own T SlC A c (tops ps) = Own T RowC A c ps := by
  have h1 : (tops ps).length = ps.length := tops_len ps
  have h2 : (tops ps).flatMap SlC.enc = ps.flatMap RowC.enc := by unfold tops; rw [List.flatMap_map]; rfl
  unfold Own
  simp only [h1, h2]
  rfl
/-- slices.SortFunc at lists of numbers. -/
theorem sortRows_does {ρ : Go.Shelf.Ren} (L : Go.Proofs.SlLaysF.n6 P ρ) (cf : List Int → List Int → Int) (hO : SWO (ltOf cf)) {f : Nat} {cb : Array Value} (hok : CallOk P f)
    (hcmp : ∀ W (x y : Sl × List Int), x ∈ ps → y ∈ ps → St w0 (RowsA T2 I64 ps :: H) W → Rd I64 W x.1.A x.2 → Rd I64 W y.1.A y.2 → x.2.length ≤ 9223372036854775807 → y.2.length ≤ 9223372036854775807 → Does P f ([.slice x.1.A x.2.length x.1.c, .slice y.1.A y.2.length y.1.c] ++ cb.toList) W [] (fun v => [.pur (v = .int .i64 (cf x.2 y.2))])) (hlen : ps.length < 4611686018427387904) :
    Does P (ρ.f 6) [.slice A (tops ps).length c, .func (.func f) #[] cb] w0 (Own T SlC A c (tops ps) :: RowsA T2 I64 ps :: H) (fun v => [.exi fun qs : List (Sl × List Int) => .sep (.pur (v = .tuple #[] ∧ qs.Perm ps ∧ (conts qs).Pairwise fun x y => ¬ cf y x < 0)) (.sep (Own T SlC A c (tops qs)) (RowsA T2 I64 qs))] ++ H) := by
  rw [own_tops, tops_len]
  have hO' : SWO (ltOf fun x y : {x // x ∈ ps} => cf x.1.2 y.1.2) := by
    obtain ⟨h1, h2, h3⟩ := hO
    exact ⟨fun x => h1 _, fun x y z => h2 _ _ _, fun x y z => h3 _ _ _⟩
  have h := sort1_does (C := RowC) (T := T) (A := A) (c := c) (w0 := w0) (H := RowsA T2 I64 ps :: H) (xs := ps) (enc := fun p : Sl × List Int => .slice p.1.A p.1.n p.1.c) L (fun x => rfl) rfl (fun x => rfl) (fun x => x ∈ ps) (fun x hx => hx) (fun x y => cf x.1.2 y.1.2) hO' hok (cb := cb) (fun zs W hz hw x y => by
    have k1 := RowsA.rd (i := 1) hw rfl x.2
    have k2 := RowsA.rd (i := 1) hw rfl y.2
    have hw2 := hw.sub (Sub.drop (Sub.refl _))
    have := hcmp W x.1 y.1 x.2 y.2 hw2 k1.2 k2.2 k1.1.2 k2.1.2
    rw [← k1.1.1, ← k2.1.1] at this
    exact this) hlen
  refine h.mono fun v w hs => ?_
  obtain ⟨ys, hs⟩ := St.exi hs
  have hs := hs.sep
  obtain ⟨⟨h1, h2, h3⟩, hs⟩ := hs.pur
  refine St.mkExi ys (St.unsep (St.addPur ⟨h1, h2, ?_⟩ (St.unsep ?_)))
  · unfold conts
    rw [List.pairwise_map]
    refine List.Pairwise.imp_of_mem ?_ h3
    intro a b ha hb hab
    exact hab (h2.mem_iff.1 ha) (h2.mem_iff.1 hb)
  · rw [own_tops]
    have := hs.perm (List.Perm.swap _ _ _)
    have := RowsA.perm h2.symm this
    exact this.perm (List.Perm.swap _ _ _)
end
instance decLtL (x y : List Int) : Decidable (ltL x y) := inferInstanceAs (Decidable (cmpL x y < 0))
theorem swoL : SWO (ltOf cmpL) := by
  have e : ∀ x y : List Int, ltOf cmpL x y = decide (ltL x y) := fun x y => rfl
  refine ⟨fun x => ?_, fun x y z h1 h2 => ?_, fun x y z h1 h2 => ?_⟩
  · rw [e]; exact decide_eq_false (ltL_irrefl x)
  · rw [e] at *
    simp only [decide_eq_true_eq] at *
    exact ltL_trans h1 h2
  · rw [e] at *
    simp only [decide_eq_false_iff_not] at *
    intro h3
    by_cases h4 : ltL y x
    · exact h2 (ltL_trans h4 h3)
    · have := ltL_tri h1 h4
      subst this
      exact h2 h3
/-! ### Each once -/
abbrev SL := Sl × List Int
def d0 : SL := (⟨none, 0, 0⟩, [])
def keepA (l : List SL) (j : Nat) : Prop := j = 0 ∨ (l.getD j d0).2 ≠ (l.getD (j - 1) d0).2
instance (l : List SL) (j : Nat) : Decidable (keepA l j) := inferInstanceAs (Decidable (_ ∨ _))
def kpt (l : List SL) (i : Nat) : List SL := ((List.range i).filter fun j => decide (keepA l j)).map fun j => l.getD j d0
section
variable {l : List SL} {i j k : Nat}
theorem kpt_yes (hi : i < l.length) (h : keepA l i) : kpt l (i + 1) = kpt l i ++ [l[i]] := by
  unfold kpt
  rw [List.range_succ, List.filter_append, List.map_append]
  simp [decide_eq_true h, List.getD, hi]
theorem kpt_no (h : ¬ keepA l i) : kpt l (i + 1) = kpt l i := by
  unfold kpt
  rw [List.range_succ, List.filter_append, List.map_append]
  simp [decide_eq_false h]
theorem kpt_le : (kpt l i).length ≤ i := by
  unfold kpt
  rw [List.length_map]
  exact Nat.le_trans (List.length_filter_le _ _) (by simp)
theorem kpt_all (h : ∀ j, j < i → keepA l j) (hi : i ≤ l.length) : kpt l i = l.take i := by
  induction i with
  | zero => simp [kpt]
  | succ i ih => rw [kpt_yes (by omega) (h i (by omega)), ih (fun j hj => h j (by omega)) (by omega), take_snoc (by omega)]
theorem kpt_sub (hi : i ≤ l.length) : (kpt l i).Sublist l := by
  have : ∀ i, i ≤ l.length → (kpt l i).Sublist (l.take i) := by
    intro i
    induction i with
    | zero => intro _; simp [kpt]
    | succ i ih =>
      intro hi
      rw [take_snoc (by omega)]
      by_cases h : keepA l i
      · rw [kpt_yes (by omega) h]; exact (ih (by omega)).append_right _
      · rw [kpt_no h]; exact (ih (by omega)).trans (List.sublist_append_left _ _)
  exact (this i hi).trans (List.take_sublist _ _)
/-- What the row holds while its elements are moved. -/
def mvt (l : List SL) (i : Nat) : List Sl := tops (kpt l i) ++ (tops l).drop (kpt l i).length
theorem mvt_len (hi : i ≤ l.length) : (mvt l i).length = l.length := by
  have := kpt_le (l := l) (i := i)
  unfold mvt
  rw [List.length_append, List.length_drop, tops_len, tops_len]
  omega
theorem mvt_get (hi : i ≤ l.length) (hk : (kpt l i).length ≤ k) (hkl : k < l.length) (h2 : k < (mvt l i).length) : (mvt l i)[k] = (l[k]).1 := by
  apply Option.some.inj
  rw [← List.getElem?_eq_getElem h2]
  unfold mvt
  rw [List.getElem?_append_right (by rw [tops_len]; exact hk), List.getElem?_drop, tops_len, show (kpt l i).length + (k - (kpt l i).length) = k by omega]
  unfold tops
  rw [List.getElem?_map, List.getElem?_eq_getElem hkl]
  rfl
theorem mvt_yes (hi : i < l.length) (h : keepA l i) : (mvt l i).set (kpt l i).length (l[i]).1 = mvt l (i + 1) := by
  have h1 := kpt_le (l := l) (i := i)
  have hl : (tops (kpt l i)).length = (kpt l i).length := tops_len _
  unfold mvt
  rw [kpt_yes hi h, List.set_append_right _ _ (by omega), hl, Nat.sub_self, List.length_append, List.length_singleton, drop_cons (show (kpt l i).length < (tops l).length by rw [tops_len]; omega), List.set_cons_zero]
  unfold tops
  simp
theorem mvt_no (h : ¬ keepA l i) : mvt l i = mvt l (i + 1) := by
  unfold mvt
  rw [kpt_no h]
theorem mvt_start (h : ∀ j, j < i → keepA l j) (hi : i ≤ l.length) : mvt l i = tops l ∧ (kpt l i).length = i := by
  have e := kpt_all h hi
  have h2 : (kpt l i).length = i := by rw [e, List.length_take]; omega
  refine ⟨?_, h2⟩
  unfold mvt
  rw [h2, e]
  unfold tops
  rw [← List.map_drop, ← List.map_append, List.take_append_drop]
theorem mvt_take : (mvt l i).take (kpt l i).length = tops (kpt l i) := by
  unfold mvt
  rw [List.take_append_of_le_length (by rw [tops_len]; exact Nat.le_refl _), List.take_of_length_le (by rw [tops_len]; exact Nat.le_refl _)]
theorem keepA_at {j : Nat} (hj : 0 < j) (h : j < l.length) : keepA l j ↔ (l[j]).2 ≠ (l[j - 1]).2 := by
  unfold keepA
  have q1 : l.getD j d0 = l[j] := by simp [List.getD, h]
  have q2 : l.getD (j - 1) d0 = l[j - 1] := by simp [List.getD, show j - 1 < l.length by omega]
  rw [q1, q2]
  exact ⟨fun h => h.elim (fun e => by omega) id, .inr⟩
theorem sl_of {s : Sl} {n : Nat} (h : s.n = n) : (⟨s.A, n, s.c⟩ : Sl) = s := by subst h; rfl
theorem mvt_v {k0 k2 K : Nat} (hn : LenOk l) (hi : i ≤ l.length) (hK : K = k0 + k2) (hk : (kpt l i).length ≤ K) (hkl : K < l.length) (h2 : k2 < ((mvt l i).drop k0).length) : (((mvt l i).drop k0)[k2]).v = .slice (l[K]).1.A (l[K]).2.length (l[K]).1.c := by
  subst hK
  rw [List.getElem_drop, mvt_get hi hk hkl]
  unfold Sl.v
  rw [(hn _ (List.getElem_mem hkl)).1]
/-- A list in order, each once. -/
theorem kpt_srt (hs : (conts l).Pairwise fun x y => ¬ ltL y x) : ∀ i, i ≤ l.length → SrtL (conts (kpt l i)) ∧ ∀ r, r ∈ conts (kpt l i) ↔ r ∈ (conts l).take i := by
  have hle : ∀ j k (hj : j < l.length) (hk : k < l.length), j ≤ k → ¬ ltL (l[k]).2 (l[j]).2 := fun j k hj hk hjk => by
    by_cases e : j = k
    · subst e; exact ltL_irrefl _
    · have := List.pairwise_iff_getElem.1 hs j k (by rw [conts_len]; omega) (by rw [conts_len]; omega) (by omega)
      simpa [conts] using this
  intro i
  induction i with
  | zero => intro _; exact ⟨by simp [kpt, conts, SrtL], fun r => by simp [kpt, conts]⟩
  | succ i ih =>
    intro hi
    obtain ⟨h1, h2⟩ := ih (by omega)
    have hc : (conts l)[i]'(by rw [conts_len]; omega) = (l[i]).2 := by simp [conts]
    by_cases h : keepA l i
    · rw [kpt_yes (by omega) h]
      have e : conts (kpt l i ++ [l[i]]) = conts (kpt l i) ++ [(l[i]).2] := by simp [conts]
      rw [e]
      constructor
      · unfold SrtL
        rw [List.pairwise_append]
        refine ⟨h1, List.pairwise_singleton _ _, fun x hx y hy => ?_⟩
        rw [List.mem_singleton] at hy
        subst hy
        obtain ⟨j, hj, rfl⟩ := List.mem_iff_getElem.1 ((h2 x).1 hx)
        rw [List.length_take, conts_len] at hj
        have hjl : j < l.length := by omega
        have ex : ((conts l).take i)[j]'(by rw [List.length_take, conts_len]; omega) = (l[j]).2 := by simp [conts]
        rw [ex]
        have g1 := hle j i hjl (by omega) (by omega)
        have g2 := hle j (i - 1) hjl (by omega) (by omega)
        have g3 := hle (i - 1) i (by omega) (by omega) (by omega)
        apply Classical.byContradiction
        intro g4
        have e1 := ltL_tri g4 g1
        rcases h with h | h
        · omega
        · have q1 : l.getD i d0 = l[i] := by simp [List.getD, show i < l.length by omega]
          have q2 : l.getD (i - 1) d0 = l[i - 1] := by simp [List.getD, show i - 1 < l.length by omega]
          rw [q1, q2] at h
          rw [e1] at g2
          exact h (ltL_tri g3 g2)
      · intro r
        rw [List.mem_append, h2, take_snoc (by rw [conts_len]; omega), List.mem_append, hc]
    · rw [kpt_no h]
      refine ⟨h1, fun r => ?_⟩
      rw [h2, take_snoc (by rw [conts_len]; omega), List.mem_append, hc, List.mem_singleton]
      refine ⟨.inl, fun h3 => h3.elim id fun e => ?_⟩
      subst e
      unfold keepA at h
      have h0 : i ≠ 0 := fun e => h (.inl e)
      have h5 : (l.getD i d0).2 = (l.getD (i - 1) d0).2 := Decidable.byContradiction fun e => h (.inr e)
      have q1 : l.getD i d0 = l[i] := by simp [List.getD, show i < l.length by omega]
      have q2 : l.getD (i - 1) d0 = l[i - 1] := by simp [List.getD, show i - 1 < l.length by omega]
      rw [q1, q2] at h5
      rw [h5]
      refine List.mem_iff_getElem.2 ⟨i - 1, by rw [List.length_take, conts_len]; omega, by simp [conts]⟩
theorem kpt_final (hs : (conts l).Pairwise fun x y => ¬ ltL y x) : SrtL (conts (kpt l l.length)) ∧ ∀ r, r ∈ conts (kpt l l.length) ↔ r ∈ conts l := by
  have h := kpt_srt hs l.length (Nat.le_refl _)
  rwa [List.take_of_length_le (by rw [conts_len]; exact Nat.le_refl _)] at h
end
end Go.Vc
/-
  Plain words: subsystems: sets with a block for each pair; told by the number of their blocks.
-/
namespace Go.Vc
theorem sub_full {α : Type} [DecidableEq α] : ∀ (l1 l2 : List α), l1.Nodup → (∀ x ∈ l1, x ∈ l2) → l2.length ≤ l1.length → ∀ x ∈ l2, x ∈ l1
  | [], l2, _, _, hl, x, hx => by
    have : l2 = [] := List.eq_nil_of_length_eq_zero (by simpa using hl)
    subst this
    exact hx
  | a :: l1, l2, hn, hs, hl, x, hx => by
    obtain ⟨h1, h2⟩ := List.nodup_cons.1 hn
    have ha := hs a (by simp)
    have he := List.length_erase_of_mem ha
    have hp := List.length_pos_of_mem ha
    by_cases e : x = a
    · subst e; simp
    · refine List.mem_cons_of_mem _ (sub_full l1 (l2.erase a) h2 (fun y hy => ?_) (by simp at hl; omega) x ((List.mem_erase_of_ne e).2 hx))
      exact (List.mem_erase_of_ne (fun e => by subst e; exact h1 hy)).2 (hs y (by simp [hy]))
/-! ### Pairs of a list -/
def prs2 : List Int → List (Int × Int)
  | [] => []
  | x :: l => l.map (fun y => (x, y)) ++ prs2 l
theorem prs2_len : ∀ l, 2 * (prs2 l).length = l.length * (l.length - 1)
  | [] => rfl
  | x :: l => by
    have ih := prs2_len l
    rw [prs2, List.length_append, List.length_map, List.length_cons, Nat.add_sub_cancel, Nat.mul_add, ih]
    generalize l.length = k
    cases k with
    | zero => rfl
    | succ m => rw [Nat.add_sub_cancel]; simp only [Nat.add_mul, Nat.mul_add]; omega
theorem prs2_mem : ∀ {l : List Int}, l.Pairwise (· < ·) → ∀ {p : Int × Int}, p ∈ prs2 l ↔ p.1 < p.2 ∧ p.1 ∈ l ∧ p.2 ∈ l
  | [], _, p => by simp [prs2]
  | x :: l, h, p => by
    obtain ⟨h1, h2⟩ := List.pairwise_cons.1 h
    obtain ⟨a, b⟩ := p
    rw [prs2, List.mem_append, List.mem_map, prs2_mem h2]
    simp only [List.mem_cons, Prod.mk.injEq]
    constructor
    · rintro (⟨y, hy, rfl, rfl⟩ | ⟨k1, k2, k3⟩)
      · exact ⟨h1 _ hy, .inl rfl, .inr hy⟩
      · exact ⟨k1, .inr k2, .inr k3⟩
    · rintro ⟨k1, k2, k3⟩
      rcases k2 with rfl | k2
      · rcases k3 with rfl | k3
        · omega
        · exact .inl ⟨b, k3, rfl, rfl⟩
      · rcases k3 with rfl | k3
        · have := h1 _ k2; omega
        · exact .inr ⟨k1, k2, k3⟩
theorem prs2_nodup : ∀ {l : List Int}, l.Pairwise (· < ·) → (prs2 l).Nodup
  | [], _ => List.nodup_nil
  | x :: l, h => by
    obtain ⟨h1, h2⟩ := List.pairwise_cons.1 h
    have hn : l.Nodup := h2.imp fun h => by omega
    rw [prs2, List.nodup_append]
    refine ⟨?_, prs2_nodup h2, fun p hp q hq e => ?_⟩
    · unfold List.Nodup
      rw [List.pairwise_map]
      exact hn.imp fun h e => h (by simpa using e)
    · subst e
      obtain ⟨y, hy, rfl⟩ := List.mem_map.1 hp
      have := (prs2_mem h2).1 hq
      have := h1 _ this.2.1
      simp at this
theorem prsB_sub {l m : List B3} (h : l.Sublist m) : (prsB l).Sublist (prsB m) := by
  unfold prsB
  induction h with
  | slnil => exact List.Sublist.refl _
  | cons a _ ih => rw [List.flatMap_cons]; exact ih.trans (List.sublist_append_right _ _)
  | cons_cons a _ ih => rw [List.flatMap_cons, List.flatMap_cons]; exact ih.append_left _
theorem prsI_mem {v : Int} {I : List B3} (hg : ∀ d ∈ I, good v d) {x y : Int} (hxy : x < y) : (x, y) ∈ prsB I ↔ ∃ d ∈ I, has d x ∧ has d y := by
  rw [mem_prsB]
  constructor
  · rintro ⟨b, hb, h1⟩
    refine ⟨b, hb, ?_⟩
    unfold has
    rcases h1 with h1 | h1 | h1 <;> (simp only [Prod.mk.injEq] at h1; omega)
  · rintro ⟨b, hb, h1, h2⟩
    refine ⟨b, hb, ?_⟩
    have hg := hg b hb
    unfold good at hg
    unfold has at h1 h2
    simp only [Prod.mk.injEq]
    omega
section
variable {v : Int} {bs : List B3} {s : Nat}
theorem two_mem (h : STS v bs) {d e : B3} (hd : d ∈ bs) (he : e ∈ bs) {x y : Int} (hxy : x ≠ y) (h1 : has d x) (h2 : has d y) (h3 : has e x) (h4 : has e y) : d = e := by
  obtain ⟨i, hi, rfl⟩ := List.mem_iff_getElem.1 hd
  obtain ⟨j, hj, rfl⟩ := List.mem_iff_getElem.1 he
  have := h.two hi hj hxy h1 h2 h3 h4
  subst this
  rfl
theorem tabPut_val {G : Int → Int → Int} {b : B3} (hb : three b) {x y : Int} : tabPut G b x y = if has b x ∧ has b y ∧ x ≠ y then b.1 + b.2.1 + b.2.2 - x - y else G x y := by
  obtain ⟨p, q, r⟩ := b
  unfold tabPut gset has
  unfold three at hb
  simp only at *
  (repeat' split) <;> first | rfl | omega
/-- The table's third point. -/
theorem tab_tri (h : STS v bs) {d : B3} (hd : d ∈ bs) {x y z : Int} (t : Tri d x y z) : tab bs x y = z := by
  have key : ∀ (l : List B3) (G : Int → Int → Int), (∀ b ∈ l, three b) → (∀ b ∈ l, has b x → has b y → b = d) → (d ∈ l ∨ G x y = z) → l.foldl tabPut G x y = z := by
    intro l
    induction l with
    | nil => intro G _ _ hz; exact hz.elim (fun h => by simp at h) id
    | cons b l ih =>
      intro G hb hu hz
      rw [List.foldl_cons]
      refine ih _ (fun c hc => hb c (by simp [hc])) (fun c hc => hu c (by simp [hc])) ?_
      by_cases hdl : d ∈ l
      · exact .inl hdl
      · right
        by_cases e : has b x ∧ has b y
        · have eb := hu b (by simp) e.1 e.2
          rw [tabPut_val (hb b (by simp)), if_pos ⟨e.1, e.2, t.1⟩, eb, tri_sum (h.good d hd) t]
          omega
        · have hG : G x y = z := by
            rcases hz with hz | hz
            · rw [List.mem_cons] at hz
              rcases hz with rfl | hz
              · exact absurd ⟨t.h1, t.h2⟩ e
              · exact absurd hz hdl
            · exact hz
          rw [← hG, tabPut_val (hb b (by simp)), if_neg (fun q => e ⟨q.1, q.2.1⟩)]
  refine key bs _ (fun b hb => (h.good b hb).three) (fun b hb h1 h2 => two_mem h hb hd t.1 h1 h2 t.h1 t.h2) (.inl hd)
def SubQ (bs : List B3) (s : Nat) : Prop := ∀ x y : Int, x ∈ pts s → y ∈ pts s → x ≠ y → ∃ d ∈ bs, has d x ∧ has d y ∧ ∀ z, has d z → z ∈ pts s
def Clo (bs : List B3) (s : Nat) : Prop := ∀ d ∈ bs, ¬ ones (bmask d &&& s) = 2
def insB (bs : List B3) (s : Nat) : List B3 := bs.filter fun d => decide (bmask d &&& s = bmask d)
theorem insB_len : (insB bs s).length = inside bs s bs.length := by
  unfold insB inside
  rw [List.take_of_length_le (Nat.le_refl _)]
theorem pts_lt (s : Nat) : (pts s).Pairwise (· < ·) := ptsAt_sorted _ _
theorem mem_pts {s : Nat} {z : Int} : z ∈ pts s ↔ 0 ≤ z ∧ z < 15 ∧ s.testBit z.toNat = true := ptsAt_mem s 15
theorem bit_has {d : B3} (hg : good v d) {z : Int} (hz : 0 ≤ z) : (bmask d).testBit z.toNat = true ↔ has d z := by
  rw [bmask_bit hg, Int.toNat_of_nonneg hz]
theorem mem_bl {d : B3} {z : Int} : z ∈ bl d ↔ has d z := by
  unfold bl has
  simp only [List.mem_cons, List.not_mem_nil, or_false]
  omega
theorem pts_and {d : B3} (hg : good 15 d) : pts (bmask d &&& s) = (bl d).filter fun z => decide (z ∈ pts s) := by
  have hp := good.pts hg
  refine asc_ext (pts_lt _) ?_ fun z => ?_
  · refine List.Pairwise.filter _ ?_
    have := hg
    unfold good at this
    unfold bl
    simp
    omega
  · rw [List.mem_filter, mem_bl, decide_eq_true_eq, mem_pts, mem_pts, Nat.testBit_and, Bool.and_eq_true]
    constructor
    · rintro ⟨h1, h2, h3, h4⟩
      exact ⟨(bit_has hg h1).1 h3, h1, h2, h4⟩
    · rintro ⟨h1, h2, h3, h4⟩
      exact ⟨h2, h3, (bit_has hg h2).2 h1, h4⟩
theorem pts_ones {m : Nat} (h : m < 32768) : (pts m).length = ones m := by
  unfold pts
  rw [ptsAt_len, cov_ones (by simpa using h)]
theorem ones_and {d : B3} (hg : good 15 d) (hs : s < 32768) : ones (bmask d &&& s) = ((bl d).filter fun z => decide (z ∈ pts s)).length := by
  rw [← pts_and hg, pts_ones (by have := Nat.and_le_right (n := bmask d) (m := s); omega)]
theorem ins_iff {d : B3} (hg : good 15 d) : bmask d &&& s = bmask d ↔ ∀ z, has d z → z ∈ pts s := by
  have hp := good.pts hg
  constructor
  · intro h z hz
    have hzz : 0 ≤ z ∧ z < 15 := by unfold has at hz; omega
    have h1 := (bit_has hg hzz.1).2 hz
    rw [← h, Nat.testBit_and, Bool.and_eq_true] at h1
    exact mem_pts.2 ⟨hzz.1, hzz.2, h1.2⟩
  · intro h
    apply Nat.eq_of_testBit_eq
    intro i
    rw [Nat.testBit_and]
    cases hb : (bmask d).testBit i with
    | false => rfl
    | true =>
      have := h i ((bmask_bit hg i).1 hb)
      rw [mem_pts] at this
      simpa using this.2.2
theorem mem_insB (h : STS v bs) {d : B3} : d ∈ insB bs s ↔ d ∈ bs ∧ ∀ z, has d z → z ∈ pts s := by
  unfold insB
  rw [List.mem_filter, decide_eq_true_eq]
  constructor
  · rintro ⟨h1, h2⟩; exact ⟨h1, (ins_iff ((h.good d h1).mono h.hi)).1 h2⟩
  · rintro ⟨h1, h2⟩; exact ⟨h1, (ins_iff ((h.good d h1).mono h.hi)).2 h2⟩
theorem ins_nodup (h : STS v bs) : (prsB (insB bs s)).Nodup := by
  have hv := h.lo
  have hh := h.hi
  have h' : STS ((v.toNat : Nat) : Int) bs := by rw [show ((v.toNat : Nat) : Int) = v by omega]; exact h
  exact (prsB_nodup (by omega) h').sublist (prsB_sub List.filter_sublist)
theorem ins_pair (h : STS v bs) {p : Int × Int} (hp : p ∈ prsB (insB bs s)) : p ∈ prs2 (pts s) := by
  rw [prs2_mem (pts_lt s)]
  obtain ⟨d, hd, e⟩ := mem_prsB.1 hp
  obtain ⟨h1, h2⟩ := (mem_insB h).1 hd
  have hg := h.good d h1
  unfold good at hg
  have k1 := h2 d.1 (.inl rfl)
  have k2 := h2 d.2.1 (.inr (.inl rfl))
  have k3 := h2 d.2.2 (.inr (.inr rfl))
  rcases e with rfl | rfl | rfl
  · exact ⟨by simp only; omega, k1, k2⟩
  · exact ⟨by simp only; omega, k1, k3⟩
  · exact ⟨by simp only; omega, k2, k3⟩
theorem subq_pair (h : STS v bs) (hq : SubQ bs s) {p : Int × Int} : p ∈ prs2 (pts s) → p ∈ prsB (insB bs s) := by
  intro hp
  obtain ⟨x, y⟩ := p
  obtain ⟨h1, h2, h3⟩ := (prs2_mem (pts_lt s)).1 hp
  obtain ⟨d, hd, k1, k2, k3⟩ := hq x y h2 h3 (by simp only at h1; omega)
  exact (prsI_mem (fun e he => h.good e ((mem_insB h).1 he).1) h1).2 ⟨d, (mem_insB h).2 ⟨hd, k3⟩, k1, k2⟩
theorem subq_count (h : STS v bs) (hq : SubQ bs s) : 6 * inside bs s bs.length = (pts s).length * ((pts s).length - 1) := by
  have hp : (prsB (insB bs s)).Perm (prs2 (pts s)) := (List.perm_ext_iff_of_nodup (ins_nodup h) (prs2_nodup (pts_lt s))).2 fun p => ⟨ins_pair h, subq_pair h hq⟩
  have hl := hp.length_eq
  rw [prsB_len, insB_len] at hl
  have := prs2_len (pts s)
  omega
theorem count_subq (h : STS v bs) (hc : 6 * inside bs s bs.length = (pts s).length * ((pts s).length - 1)) : SubQ bs s := by
  have h1 := prs2_len (pts s)
  have h2 := prsB_len (insB bs s)
  rw [insB_len] at h2
  have hall := sub_full (prsB (insB bs s)) (prs2 (pts s)) (ins_nodup h) (fun p hp => ins_pair h hp) (by omega)
  have key : ∀ x y : Int, x ∈ pts s → y ∈ pts s → x < y → ∃ d ∈ bs, has d x ∧ has d y ∧ ∀ z, has d z → z ∈ pts s := fun x y hx hy hxy => by
    have := hall (x, y) ((prs2_mem (pts_lt s)).2 ⟨hxy, hx, hy⟩)
    obtain ⟨d, hd, k1, k2⟩ := (prsI_mem (fun e he => h.good e ((mem_insB h).1 he).1) hxy).1 this
    obtain ⟨k3, k4⟩ := (mem_insB h).1 hd
    exact ⟨d, k3, k1, k2, k4⟩
  intro x y hx hy hxy
  rcases Int.lt_or_gt_of_ne hxy with h3 | h3
  · exact key x y hx hy h3
  · obtain ⟨d, hd, k1, k2, k3⟩ := key y x hy hx h3
    exact ⟨d, hd, k2, k1, k3⟩
theorem flat2_len {β : Type} {f g : B3 → β} : ∀ l : List B3, (l.flatMap fun d => [f d, g d]).length = 2 * l.length
  | [] => rfl
  | d :: l => by
    rw [List.flatMap_cons, List.length_append, flat2_len l]
    simp
    omega
theorem subq_odd (h : STS v bs) (hq : SubQ bs s) (hn : 1 ≤ (pts s).length) : ∃ k, (pts s).length = 2 * k + 1 := by
  obtain ⟨x, hx⟩ : ∃ x, x ∈ pts s := ⟨(pts s)[0], List.getElem_mem _⟩
  have hnd : (pts s).Nodup := (pts_lt s).imp fun h => by omega
  have hbn : bs.Nodup := by
    have h1 : bs.Pairwise B3.lt := by
      have h' : STS ((v.toNat : Nat) : Int) bs := by have := h.lo; rw [show ((v.toNat : Nat) : Int) = v by omega]; exact h
      exact (sts_rest h').lt
    exact h1.imp fun h => by rintro rfl; exact lt_irrefl _ h
  let K := (insB bs s).filter fun d => decide (has d x)
  have hK : ∀ d, d ∈ K ↔ d ∈ bs ∧ (∀ z, has d z → z ∈ pts s) ∧ has d x := fun d => by
    show d ∈ (insB bs s).filter _ ↔ _
    rw [List.mem_filter, mem_insB h, decide_eq_true_eq, and_assoc]
  have hKn : K.Nodup := (hbn.sublist List.filter_sublist).sublist List.filter_sublist
  have tri : ∀ d ∈ K, Tri d x (oth1 d x) (oth2 d x) := fun d hd => tri_oth (h.good d ((hK d).1 hd).1) ((hK d).1 hd).2.2
  have qn : (K.flatMap fun d => [oth1 d x, oth2 d x]).Nodup := by
    unfold List.Nodup
    rw [List.pairwise_flatMap]
    constructor
    · intro d hd
      have := (tri d hd).2.2.1
      simp [this]
    · refine List.Pairwise.imp_of_mem ?_ hKn
      intro d e hd he hne u hu w hw euw
      subst euw
      have t1 := tri d hd
      have t2 := tri e he
      have g1 : has d u ∧ x ≠ u := by
        simp only [List.mem_cons, List.not_mem_nil, or_false] at hu
        rcases hu with rfl | rfl
        · exact ⟨t1.h2, t1.1⟩
        · exact ⟨t1.h3, t1.2.1⟩
      have g2 : has e u := by
        simp only [List.mem_cons, List.not_mem_nil, or_false] at hw
        rcases hw with rfl | rfl
        · exact t2.h2
        · exact t2.h3
      exact hne (two_mem h ((hK d).1 hd).1 ((hK e).1 he).1 g1.2 t1.h1 g1.1 t2.h1 g2)
  have hm : ∀ u, u ∈ (K.flatMap fun d => [oth1 d x, oth2 d x]) ↔ u ∈ (pts s).erase x := fun u => by
    rw [hnd.mem_erase_iff, List.mem_flatMap]
    constructor
    · rintro ⟨d, hd, hu⟩
      have t1 := tri d hd
      simp only [List.mem_cons, List.not_mem_nil, or_false] at hu
      rcases hu with rfl | rfl
      · exact ⟨fun e => t1.1 e.symm, ((hK d).1 hd).2.1 _ t1.h2⟩
      · exact ⟨fun e => t1.2.1 e.symm, ((hK d).1 hd).2.1 _ t1.h3⟩
    · rintro ⟨h1, h2⟩
      obtain ⟨d, hd, k1, k2, k3⟩ := hq x u hx h2 (fun e => h1 e.symm)
      have hdK := (hK d).2 ⟨hd, k3, k1⟩
      refine ⟨d, hdK, ?_⟩
      have := (tri d hdK).2.2.2 u |>.1 k2
      simp only [List.mem_cons, List.not_mem_nil, or_false]
      rcases this with e | e | e
      · exact absurd e h1
      · exact .inl e
      · exact .inr e
  have hp := ((List.perm_ext_iff_of_nodup qn (hnd.erase x)).2 hm).length_eq
  rw [flat2_len, List.length_erase_of_mem hx] at hp
  exact ⟨K.length, by omega⟩
theorem subq_clo (h : STS v bs) (hs : s < 32768) (hq : SubQ bs s) : Clo bs s := by
  intro d hd
  have hg := (h.good d hd).mono h.hi
  rw [ones_and hg hs]
  intro h2
  obtain ⟨p, q, r⟩ := d
  have hgg := hg
  unfold good at hgg
  simp only at hgg
  have key : ∀ x y z : Int, x ≠ y → has (p, q, r) x → has (p, q, r) y → has (p, q, r) z → x ∈ pts s → y ∈ pts s → z ∈ pts s := fun x y z hxy hx hy hz h3 h4 => by
    obtain ⟨e, he, k1, k2, k3⟩ := hq x y h3 h4 hxy
    have := two_mem h hd he hxy hx hy k1 k2
    subst this
    exact k3 z hz
  have i1 : has (p, q, r) p := .inl rfl
  have i2 : has (p, q, r) q := .inr (.inl rfl)
  have i3 : has (p, q, r) r := .inr (.inr rfl)
  unfold bl at h2
  by_cases a1 : p ∈ pts s <;> by_cases a2 : q ∈ pts s <;> by_cases a3 : r ∈ pts s <;> simp [List.filter_cons, a1, a2, a3] at h2
  · exact a3 (key p q r (by omega) i1 i2 i3 a1 a2)
  · exact a2 (key p r q (by omega) i1 i3 i2 a1 a3)
  · exact a1 (key q r p (by omega) i2 i3 i1 a2 a3)
/-- Both ways to tell a subsystem. -/
theorem subq_iff (h : STS v bs) (hs : s < 32768) : (3 ≤ ones s ∧ SubQ bs s) ↔ ((ones s = 3 ∨ ones s = 7 ∨ ones s = 9 ∨ ones s = 13 ∨ ones s = 15) ∧ 3 ≤ ones s ∧ 6 * inside bs s bs.length = ones s * (ones s - 1) ∧ Clo bs s) := by
  have hl := pts_ones hs
  have h15 : ones s ≤ 15 := by rw [← hl]; exact pts_len s
  constructor
  · rintro ⟨h3, hq⟩
    have hc := subq_count h hq
    have ho := subq_odd h hq (by omega)
    rw [hl] at hc ho
    refine ⟨?_, h3, hc, subq_clo h hs hq⟩
    obtain ⟨k, hk⟩ := ho
    generalize ones s = n at *
    have : n = 3 ∨ n = 5 ∨ n = 7 ∨ n = 9 ∨ n = 11 ∨ n = 13 ∨ n = 15 := by omega
    rcases this with rfl | rfl | rfl | rfl | rfl | rfl | rfl <;> omega
  · rintro ⟨_, h3, hc, _⟩
    exact ⟨h3, count_subq h (by rw [hl]; exact hc)⟩
end
end Go.Vc
/-
  Plain words: the list of subsystems.
-/
namespace Go.Vc
open Go.Proofs (ltOf)
open Go.Sort (SWO)
def PairOk (bs : List B3) (s : Nat) (x y : Int) : Prop := ∃ d ∈ bs, has d x ∧ has d y ∧ ∀ z, has d z → z ∈ pts s
def SubI (bs : List B3) (s i j : Nat) : Prop := ∀ a b, a < b → (b < i ∨ (b = i ∧ a < j)) → b < (pts s).length → PairOk bs s ((pts s).getD b 0) ((pts s).getD a 0)
section
variable {v : Int} {bs : List B3} {s i j : Nat}
theorem subI_zero : SubI bs s 0 0 := fun a b h1 h2 h3 => by omega
theorem subI_row (h : SubI bs s i j) (hj : i ≤ j) : SubI bs s (i + 1) 0 := fun a b h1 h2 h3 => h a b h1 (by omega) h3
theorem subI_step (h : SubI bs s i j) (hp : PairOk bs s ((pts s).getD i 0) ((pts s).getD j 0)) : SubI bs s i (j + 1) := fun a b h1 h2 h3 => by
  by_cases e : b = i ∧ a = j
  · obtain ⟨rfl, rfl⟩ := e; exact hp
  · exact h a b h1 (by omega) h3
theorem PairOk.symm {x y : Int} (h : PairOk bs s x y) : PairOk bs s y x := by
  obtain ⟨d, h1, h2, h3, h4⟩ := h
  exact ⟨d, h1, h3, h2, h4⟩
theorem subI_all (hi : (pts s).length ≤ i) : SubI bs s i 0 ↔ SubQ bs s := by
  constructor
  · intro h x y hx hy hxy
    obtain ⟨a, ha, rfl⟩ := List.mem_iff_getElem.1 hx
    obtain ⟨b, hb, rfl⟩ := List.mem_iff_getElem.1 hy
    have e1 : (pts s).getD a 0 = (pts s)[a] := by simp [List.getD, ha]
    have e2 : (pts s).getD b 0 = (pts s)[b] := by simp [List.getD, hb]
    rw [← e1, ← e2]
    rcases Nat.lt_trichotomy a b with h1 | h1 | h1
    · exact (h a b h1 (by omega) hb).symm
    · subst h1; exact absurd rfl hxy
    · exact h b a h1 (by omega) ha
  · intro h a b h1 h2 h3
    have e1 : (pts s).getD a 0 = (pts s)[a] := by simp [List.getD, show a < (pts s).length by omega]
    have e2 : (pts s).getD b 0 = (pts s)[b] := by simp [List.getD, h3]
    rw [e1, e2]
    have := List.pairwise_iff_getElem.1 (pts_lt s) a b (by omega) h3 h1
    exact h _ _ (List.getElem_mem _) (List.getElem_mem _) (by omega)
theorem subI_not {a b : Nat} (h1 : a < b) (hb : b < (pts s).length) (hn : ¬ PairOk bs s ((pts s).getD b 0) ((pts s).getD a 0)) : ¬ SubQ bs s := fun h => hn ((subI_all (Nat.le_refl _)).2 h a b h1 (by omega) hb)
theorem tri_third {d : B3} (hg : good v d) {x y : Int} (hxy : x ≠ y) (hx : has d x) (hy : has d y) : ∃ z, Tri d x y z := by
  have t := tri_oth hg hx
  rcases (t.2.2.2 y).1 hy with e | e | e
  · exact absurd e.symm hxy
  · exact ⟨_, e ▸ t⟩
  · exact ⟨_, e ▸ t.swap⟩
theorem tab_some (h : STS v bs) {x y : Int} (hxy : x ≠ y) (hn : ¬ tab bs x y = -1) : ∃ d ∈ bs, Tri d x y (tab bs x y) := by
  have h2 : ∃ d ∈ bs, has d x ∧ has d y := by
    apply Classical.byContradiction
    intro hc
    exact hn ((tab_left (fun b hb => (h.good b hb).three) x y).2 fun b hb hh => hc ⟨b, hb, hh.1, hh.2.1⟩)
  obtain ⟨d, hd, hx, hy⟩ := h2
  obtain ⟨z, t⟩ := tri_third (h.good d hd) hxy hx hy
  rw [tab_tri h hd t]
  exact ⟨d, hd, t⟩
theorem tab_pair (h : STS v bs) {x y : Int} (hxy : x ≠ y) (hx : x ∈ pts s) (hy : y ∈ pts s) : PairOk bs s x y ↔ ¬ tab bs x y = -1 ∧ s.testBit (tab bs x y).toNat = true := by
  constructor
  · rintro ⟨d, hd, k1, k2, k3⟩
    obtain ⟨z, t⟩ := tri_third (h.good d hd) hxy k1 k2
    rw [tab_tri h hd t]
    have := mem_pts.1 (k3 z t.h3)
    exact ⟨by omega, this.2.2⟩
  · rintro ⟨h1, h2⟩
    obtain ⟨d, hd, t⟩ := tab_some h hxy h1
    have hg := good.pts ((h.good d hd).mono h.hi)
    refine ⟨d, hd, t.h1, t.h2, fun z hz => ?_⟩
    rcases (t.2.2.2 z).1 hz with rfl | rfl | rfl
    · exact hx
    · exact hy
    · exact mem_pts.2 ⟨by unfold has at hz; omega, by unfold has at hz; omega, h2⟩
noncomputable instance (bs : List B3) (s : Nat) : Decidable (SubQ bs s) := Classical.propDecidable _
/-- The subsystems among the first n sets. -/
noncomputable def subsL (bs : List B3) (n : Nat) : List (List Int) := ((List.range n).filter fun s => decide (3 ≤ ones s ∧ SubQ bs s)).map pts
theorem subsL_yes {n : Nat} (h : 3 ≤ ones n ∧ SubQ bs n) : subsL bs (n + 1) = subsL bs n ++ [pts n] := by
  unfold subsL
  rw [List.range_succ, List.filter_append, List.map_append]
  simp only [List.filter_cons, List.filter_nil, decide_eq_true h, if_true, List.map_cons, List.map_nil]
theorem subsL_no {n : Nat} (h : ¬ (3 ≤ ones n ∧ SubQ bs n)) : subsL bs (n + 1) = subsL bs n := by
  unfold subsL
  rw [List.range_succ, List.filter_append, List.map_append]
  simp only [List.filter_cons, List.filter_nil, decide_eq_false h, List.append_nil, List.map_nil, if_neg (show ¬ false = true by decide), Bool.false_eq_true, if_false]
theorem subsL_len {n : Nat} : (subsL bs n).length ≤ n := by
  unfold subsL
  rw [List.length_map]
  exact Nat.le_trans (List.length_filter_le _ _) (by simp)
theorem subsL_small {n : Nat} : ∀ q ∈ subsL bs n, q.length ≤ 15 := by
  intro q hq
  obtain ⟨s, _, rfl⟩ := List.mem_map.1 hq
  exact pts_len s
end
/-- Shorter lists first, then in their order. -/
def cfB (a b : List Int) : Int := if ¬ (a.length : Int) = b.length then (a.length : Int) - b.length else cmpL a b
def leQ (a b : List Int) : Prop := ¬ cfB b a < 0
theorem cfB_lt {a b : List Int} : cfB a b < 0 ↔ a.length < b.length ∨ (a.length = b.length ∧ ltL a b) := by
  unfold cfB ltL
  split <;> omega
theorem swoQ : SWO (ltOf cfB) := by
  have e : ∀ x y : List Int, ltOf cfB x y = decide (x.length < y.length ∨ (x.length = y.length ∧ ltL x y)) := fun x y => by
    unfold ltOf
    exact decide_eq_decide.2 cfB_lt
  refine ⟨fun x => ?_, fun x y z h1 h2 => ?_, fun x y z h1 h2 => ?_⟩
  · rw [e]; exact decide_eq_false (fun h => h.elim (fun h => by omega) (fun h => ltL_irrefl x h.2))
  · rw [e] at *
    simp only [decide_eq_true_eq] at *
    rcases h1 with h1 | ⟨h1, h1'⟩
    · left; omega
    · rcases h2 with h2 | ⟨h2, h2'⟩
      · left; omega
      · exact .inr ⟨by omega, ltL_trans h1' h2'⟩
  · rw [e] at *
    simp only [decide_eq_false_iff_not] at *
    rintro (h3 | ⟨h3, h3'⟩)
    · by_cases h4 : x.length < y.length
      · exact h1 (.inl h4)
      · exact h2 (.inl (by omega))
    · have h4 : x.length = y.length := by
        rcases Nat.lt_trichotomy x.length y.length with h | h | h
        · exact absurd (.inl h) h1
        · exact h
        · exact absurd (.inl (by omega)) h2
      have g1 : ¬ ltL x y := fun h => h1 (.inr ⟨h4, h⟩)
      have g2 : ¬ ltL y z := fun h => h2 (.inr ⟨by omega, h⟩)
      by_cases h5 : ltL y x
      · exact g2 (ltL_trans h5 h3')
      · have := ltL_tri g1 h5
        subst this
        exact g2 h3'
theorem leQ_anti {a b : List Int} (h1 : leQ a b) (h2 : leQ b a) : a = b := by
  unfold leQ at *
  rw [cfB_lt] at *
  have h4 : a.length = b.length := by
    rcases Nat.lt_trichotomy a.length b.length with h | h | h
    · exact absurd (.inl h) h2
    · exact h
    · exact absurd (.inl h) h1
  exact ltL_tri (fun h => h2 (.inr ⟨h4, h⟩)) (fun h => h1 (.inr ⟨h4.symm, h⟩))
/-- What both Subsystems return. -/
def SubR (v : Int) (bs : List B3) (l : List (List Int)) : Prop := (STS v bs → l.Perm (subsL bs (2 ^ v.toNat)) ∧ l.Pairwise leQ) ∧ (¬ STS v bs → l = [])
theorem SubR.unique {v : Int} {bs : List B3} {l m : List (List Int)} (h1 : SubR v bs l) (h2 : SubR v bs m) : l = m := by
  by_cases h : STS v bs
  · obtain ⟨p1, s1⟩ := h1.1 h
    obtain ⟨p2, s2⟩ := h2.1 h
    exact (p1.trans p2.symm).eq_of_pairwise (fun a b _ _ k1 k2 => leQ_anti k1 k2) s1 s2
  · rw [h1.2 h, h2.2 h]
theorem SubR.small {v : Int} {bs : List B3} {l : List (List Int)} (h1 : SubR v bs l) : (∀ q ∈ l, q.length ≤ 15) ∧ l.length ≤ 32768 := by
  by_cases h : STS v bs
  · obtain ⟨p1, s1⟩ := h1.1 h
    have hv := h.hi
    refine ⟨fun q hq => subsL_small q (p1.mem_iff.1 hq), ?_⟩
    rw [p1.length_eq]
    exact Nat.le_trans subsL_len (Nat.pow_le_pow_right (by decide) (by omega : v.toNat ≤ 15))
  · rw [h1.2 h]; simp
end Go.Vc
namespace Go.Vc
theorem tab_bd {v : Int} {bs : List B3} (h : STS v bs) {x y : Int} (hxy : x ≠ y) (hn : ¬ tab bs x y = -1) : 0 ≤ tab bs x y ∧ tab bs x y < 15 := by
  obtain ⟨d, hd, t⟩ := tab_some h hxy hn
  have hg := good.pts ((h.good d hd).mono h.hi)
  have h3 := t.h3
  unfold has at h3
  omega
end Go.Vc
namespace Go.Vc
theorem Ld.takeK {α : Type} {C : Cod α} {w0 : World} {H : List Assn} {A : Option Addr} {xs : List α} {k : Nat} (h : ∀ w, St w0 H w → Rd C w A xs) : ∀ w, St w0 H w → Rd C w A (xs.take k) := fun w hw => (h w hw).take k
end Go.Vc
namespace Go.Vc
theorem leQ_trans {a b c : List Int} (h1 : leQ a b) (h2 : leQ b c) : leQ a c := by
  have h := swoQ.ntrans c b a
  unfold Go.Proofs.ltOf at h
  simp only [decide_eq_false_iff_not] at h
  exact h h2 h1
theorem leQ_of_lt {a b : List Int} (h : cfB a b < 0) : leQ a b := by
  intro h2
  have k1 := swoQ.trans a b a
  have k2 := swoQ.irrefl a
  unfold Go.Proofs.ltOf at k1 k2
  simp only [decide_eq_true_eq, decide_eq_false_iff_not] at k1 k2
  exact k2 (k1 h h2)
theorem insQ {L : List (List Int)} {q : List Int} {y : Nat} (hs : L.Pairwise leQ) (hy : y ≤ L.length) (hhi : ∀ j (hj : j < L.length), y ≤ j → cfB q L[j] < 0) (hlo : ∀ (h : 0 < y), ¬ cfB q (L[y - 1]'(by omega)) < 0) : (L.take y ++ q :: L.drop y).Pairwise leQ := by
  have hp := List.pairwise_iff_getElem.1 hs
  rw [List.pairwise_append]
  refine ⟨hs.sublist (List.take_sublist _ _), List.pairwise_cons.2 ⟨fun x hx => ?_, hs.sublist (List.drop_sublist _ _)⟩, fun a ha b hb => ?_⟩
  · obtain ⟨j, hj, rfl⟩ := List.mem_iff_getElem.1 hx
    rw [List.getElem_drop]
    rw [List.length_drop] at hj
    exact leQ_of_lt (hhi _ (by omega) (by omega))
  · obtain ⟨j, hj, rfl⟩ := List.mem_iff_getElem.1 ha
    rw [List.getElem_take]
    rw [List.length_take] at hj
    rcases List.mem_cons.1 hb with rfl | hb
    · have h1 : leQ (L[y - 1]'(by omega)) b := hlo (by omega)
      by_cases e : j = y - 1
      · subst e; exact h1
      · exact leQ_trans (hp j (y - 1) (by omega) (by omega) (by omega)) h1
    · obtain ⟨k, hk, rfl⟩ := List.mem_iff_getElem.1 hb
      rw [List.getElem_drop]
      rw [List.length_drop] at hk
      exact hp j (y + k) (by omega) (by omega) (by omega)
theorem insQ_perm {out : List SL} {S : List (List Int)} {s : Sl} {q : List Int} {y : Nat} (h : (conts out).Perm S) : (conts (out.take y ++ (s, q) :: out.drop y)).Perm (S ++ [q]) := by
  rw [conts_put]
  refine List.perm_middle.trans ?_
  rw [List.take_append_drop]
  exact (h.cons q).trans (List.perm_append_comm (l₁ := [q]))
theorem shift_v {out : List SL} {z : Sl} {y : Nat} (hn : LenOk out) (hy : y ≤ out.length) (h0 : 0 < y) (h2 : y - 1 < (shiftAt (tops out) z y).length) : ((shiftAt (tops out) z y)[y - 1]).v = .slice (out[y - 1]'(by omega)).1.A (out[y - 1]'(by omega)).2.length (out[y - 1]'(by omega)).1.c := by
  rw [shiftAt_lt (by rw [tops_len]; exact hy) (by omega), tops_get]
  unfold Sl.v
  rw [(hn _ (List.getElem_mem _)).1]
end Go.Vc
namespace Go.Vc
noncomputable instance (bs : List B3) (s : Nat) : Decidable (Clo bs s) := Classical.propDecidable _
theorem mul15 : ∀ n : Nat, n < 16 → (0 ≤ (n : Int) * ((n : Int) - 1) ∧ (n : Int) * ((n : Int) - 1) ≤ 210) ∧ (n : Int) * ((n : Int) - 1) = ((n * (n - 1) : Nat) : Int) := by decide
end Go.Vc
namespace Go.Vc
theorem subsL_one {bs : List B3} : subsL bs 1 = [] := by
  rw [subsL_no (n := 0) (fun h => by have := h.1; rw [ones_zero] at this; omega)]
  rfl
end Go.Vc
