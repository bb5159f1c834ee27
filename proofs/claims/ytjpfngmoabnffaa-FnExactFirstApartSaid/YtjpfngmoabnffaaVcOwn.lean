/-
  The calculus, part 5: rows that are owned: made, written, appended to; slices built of parts; a square table.
-/
import Derived.Test.YtjpfngmoabnffaaVcDraw
import Derived.Test.YtjpfngmoabnffaaPure2
import Derived.Great.BuildSlice
import Derived.Laws.OwnMore
import Derived.Maps.AppendAt
set_option linter.unusedVariables false
set_option linter.unusedSimpArgs false
namespace Go.Vc
open Go Go.RowKit

def Inf (P : Program) (t sz bytes : Nat) (z : Value) : Prop := (P.info? t).map (fun i => (i.zero, i.size, i.bytes)) = some (some z, sz, bytes)
theorem Inf.parts {P : Program} {t sz bytes : Nat} {z : Value} (h : Inf P t sz bytes z) : ∃ i, P.info? t = some i ∧ i.zero = some z ∧ i.size = sz ∧ i.bytes = bytes := by
  obtain ⟨i, hi, he⟩ := Option.map_eq_some_iff.1 h
  simp only [Prod.mk.injEq] at he
  exact ⟨i, hi, he.1, he.2.1, he.2.2⟩

section
variable {P : Program} {w0 w : World} {H H' : List Assn} {α : Type} {N : Nat} {Q : Exit → Act → World → Prop} {σ σ' : Sig} {o : Oper}

theorem made_eq (C : Cod α) (x : α) (z : Value) (n : Nat) (hz : z.cells.toList = C.enc x) : (madeCells z.cells (n * C.sz)).toList = (List.replicate n x).flatMap C.enc := by
  have hsz : z.cells.size = C.sz := by rw [← Array.length_toList, hz, C.len]
  apply List.ext_getElem?
  intro m
  have hp := C.pos
  by_cases hm : m < n * C.sz
  · have hlt : m / C.sz < n := Nat.div_lt_of_lt_mul (by rw [Nat.mul_comm]; exact hm)
    have hj : m % C.sz < C.sz := Nat.mod_lt _ hp
    have hme : m / C.sz * C.sz + m % C.sz = m := by rw [Nat.mul_comm]; exact Nat.div_add_mod m C.sz
    have h2 := getElem?_flatMap_enc C (List.replicate n x) (m / C.sz) (m % C.sz) (by simpa using hlt) hj
    rw [hme] at h2
    rw [h2]
    simp only [List.getElem_replicate]
    have hjz : m % C.sz < z.cells.size := by omega
    have h3 : (C.enc x)[m % C.sz]? = some z.cells[m % C.sz] := by
      rw [← hz]
      simp [hjz]
    rw [h3]
    have h4 : z.cells[m % z.cells.size]! = z.cells[m % C.sz] := by rw [hsz]; exact getElem!_pos z.cells _ hjz
    simp [madeCells, hm, h4]
  · have h1 : (madeCells z.cells (n * C.sz)).toList.length ≤ m := by simp [madeCells]; omega
    have h2 : ((List.replicate n x).flatMap C.enc).length ≤ m := by rw [length_flatMap_enc]; simp; omega
    rw [List.getElem?_eq_none h1, List.getElem?_eq_none h2]

theorem grown_below {w w' : World} (h : w.grownBy w' none) (hd : w.drawn ≤ w'.drawn) : Bel w.heap.size w w' := ⟨h.os, h.tape, h.output, h.size, fun k hk => h.block k hk (by simp), hd⟩

/-- make([]T, n). -/
theorem Ef.make {T e sz bytes n : Nat} {x y : Operand} {z : Value} {K1 K2 : IntKind} (C : Cod α) (u : α) (ho : o.op = .makeSlice T x y) (hT : P.underlying T = some (.slice e)) (hi : Inf P e sz bytes z) (hs : sz = C.sz) (hz : z.cells.toList = C.enc u)
    (hx : ev σ x = some (.int K1 (n : Int))) (hy : ev σ y = some (.int K2 (n : Int))) (hb : bytes * n ≤ 281474976710656) (hm : n ≤ 9223372036854775807) :
    Ef P w0 o σ H Q (fun v H' => ∃ A, A.isSome = true ∧ v = .slice A n n ∧ H' = Own e C A n (List.replicate n u) :: H) := by
  refine Ef.mk fun w hw a ha => ?_
  have h1 := ha x (by simp [ho, Op.operands]) _ hx
  have h2 := ha y (by simp [ho, Op.operands]) _ hy
  obtain ⟨i, hi1, hi2, hi3, hi4⟩ := hi.parts
  subst hs
  obtain ⟨w', hr, hown, hg⟩ := run_make_full (P := P) (w := w) 0 T e i z C.sz hT hi1 hi2 hi3 K1 K2 n (by rw [hi4]; exact hb) (by simpa [maxLen] using hm) (Nat.zero_le _)
  rw [made_eq C u z n hz] at hown
  have hlen : (List.replicate n u).length = n := List.length_replicate ..
  refine ⟨_, w', ?_, _, hw.add (A := Own e C (some ⟨w.heap.size, 0, none⟩) n (List.replicate n u)) (grown_below hg (run_drawn _ hr)) (F := fun k => k = w.heap.size) ?_ ?_, _, rfl, rfl, rfl⟩
  · simp [execOp, ho, h1, h2, hr]
  · refine ⟨?_, fun k => ?_⟩
    · rw [hlen]
      exact hown
    · simp [Value.ownBlock]
      exact eq_comm
  · rintro k rfl
    refine ⟨Nat.le_refl _, ?_⟩
    exact (hown.lt w.heap.size rfl).2

theorem take_app {β : Type} {l r : List β} {m : Nat} : (l ++ r).take (l.length + m) = l ++ r.take m := by
  rw [List.take_append, List.take_of_length_le (by omega)]; simp
theorem drop_app {β : Type} {l r : List β} {m : Nat} : (l ++ r).drop (l.length + m) = r.drop m := by
  rw [List.drop_append]; simp
theorem take_set_flat (C : Cod α) (xs : List α) (k : Nat) (x : α) (hk : k < xs.length) : (xs.flatMap C.enc).take (k * C.sz) ++ C.enc x ++ (xs.flatMap C.enc).drop (k * C.sz + C.sz) = (xs.set k x).flatMap C.enc := by
  induction xs generalizing k with
  | nil => simp at hk
  | cons y ys ih =>
    cases k with
    | zero =>
      simp only [Nat.zero_mul, List.take_zero, List.nil_append, Nat.zero_add, List.flatMap_cons, List.set_cons_zero]
      rw [List.drop_append_of_le_length (by rw [C.len]; exact Nat.le_refl _), List.drop_eq_nil_of_le (by rw [C.len]; exact Nat.le_refl _), List.nil_append]
    | succ k =>
      simp only [List.flatMap_cons, List.set_cons_succ]
      have h1 : (k + 1) * C.sz = (C.enc y).length + k * C.sz := by rw [C.len, Nat.add_mul]; omega
      have h2 : (k + 1) * C.sz + C.sz = (C.enc y).length + (k * C.sz + C.sz) := by rw [C.len, Nat.add_mul]; omega
      rw [h2, h1, take_app , drop_app, List.append_assoc, List.append_assoc, ← List.append_assoc (List.take _ _), ih k (by simpa using hk)]

/-- A store into element k of an owned row. -/
theorem Ef.storeOwn {T e s c : Nat} {x y : Operand} {v : Value} {C : Cod α} {A : Option Addr} {xs : List α} (i : Nat) (k : Nat) (u : α) (ho : o.op = .store T x y) (hs : Sz P T s) (hx : ev σ x = some (.pointer (A.map (·.add (k * s))))) (hy : ev σ y = some v)
    (hp : pull i H = some (Own e C A c xs, H')) (hsz : s = C.sz) (hk : k < xs.length) (hv : v.cells.toList = C.enc u) :
    Ef P w0 o σ H Q (fun _ H'' => H'' = repl i H (Own e C A c (xs.set k u))) := by
  intro w hw a ha
  have h1' := ha x (by simp [ho, Op.operands]) _ hx
  have h2' := ha y (by simp [ho, Op.operands]) _ hy
  subst hsz
  have hw2 := hw.perm (pull_perm hp)
  obtain ⟨F, ho', hF⟩ := hw.get i hp
  rcases ho'.2 with ⟨h1, h2⟩ | ⟨g, cap, cur, hvv, hbase, hh, hle, hmax, hcs, htake⟩
  · omega
  · have hA : A = some ⟨g, 0, none⟩ := by injection hvv
    have hcap : c = cap := by injection hvv
    subst hA
    have hsz : v.cells.size = C.sz := by rw [← Array.length_toList, hv, C.len]
    have hkc : k * C.sz + C.sz ≤ cur.size := by
      rw [hcs]
      have : (k + 1) * C.sz ≤ cap * C.sz := Nat.mul_le_mul_right _ (by omega)
      rw [Nat.add_mul] at this
      omega
    have hst := run_storeCells_at P g (k * C.sz) e (C.enc u) 0 cur w hh (by rw [C.len]; omega) (C.one u)
    simp only [Nat.add_zero] at hst
    have hrun : (execOp a.eval o).run P w = .ok .skip (w.setRow g (cur.toList.take (k * C.sz) ++ C.enc u ++ cur.toList.drop (k * C.sz + (C.enc u).length)).toArray) := by
      simp [execOp, ho, h1', h2', Instr.storeAt, Instr.sureAddr, storeVar, run_sz hs, hsz, hv, add_mk, hst]
    unfold Oper.wp
    rw [hrun]
    refine ⟨undef, _, rfl, ?_, rfl⟩
    refine St.perm ?_ (repl_perm hp)
    refine hw2.upd (B := Own e C (some ⟨g, 0, none⟩) c (xs.set k u)) ?_
    rintro F2 ⟨ho2, hF2⟩ hb
    refine ⟨⟨rfl, rfl, rfl, by simp [World.setRow], fun m _ hm => setRow_other w g m _ (fun e1 => hm ((hF2 m).2 (by subst e1; rfl))), Nat.le_refl _⟩, F2, ⟨⟨?_, .inr ⟨g, cap, _, ?_, Nat.zero_le _, setRow_heap w g cur _ e _ hh, ?_, hmax, ?_, ?_⟩⟩, ?_⟩, ?_⟩
    · rw [length_flatMap_enc]
    · rw [hcap]
    · simpa using hle
    · simp only [List.size_toArray, List.length_append, List.length_take, List.length_drop, Array.length_toList, C.len]
      omega
    · have hn : xs.length * C.sz ≤ cur.size := by rw [hcs]; exact Nat.mul_le_mul_right _ hle
      have hk2 : k * C.sz + C.sz ≤ xs.length * C.sz := by
        have : (k + 1) * C.sz ≤ xs.length * C.sz := Nat.mul_le_mul_right _ (by omega)
        rw [Nat.add_mul] at this
        omega
      rw [List.length_set, ← take_set_flat C xs k u hk, C.len, ← htake]
      simp only [List.take_take]
      rw [List.take_append, List.take_append]
      simp only [List.length_append, List.length_take, Array.length_toList, C.len]
      have e1 : min (k * C.sz) cur.size = k * C.sz := by omega
      have e2 : min (k * C.sz) (xs.length * C.sz) = k * C.sz := by omega
      rw [e1, e2, List.take_take]
      have e3 : min (xs.length * C.sz) (k * C.sz) = k * C.sz := by omega
      rw [e3]
      rw [List.take_of_length_le (l := C.enc u) (by rw [C.len]; omega)]
      rw [List.drop_take]
    · intro m
      rw [hF2 m]
      simp
    · intro m hm
      exact ⟨.inl hm, by have := (hb m hm).2; simpa [World.setRow] using this⟩

/-- append(s, ys...): s is the call's own, ys is read. -/
theorem Ef.append {T e sz bytes c c2 m : Nat} {x y : Operand} {z : Value} {C : Cod α} {A A2 : Option Addr} {xs ys : List α} (i : Nat) (ho : o.op = .call { callee := .builtin .append, args := #[x, y], argTypes := #[T, T] }) (hT : P.underlying T = some (.slice e)) (hi : Inf P e sz bytes z) (hs : sz = C.sz) (hzc : z.cells.size = sz)
    (hx : ev σ x = some (.slice A xs.length c)) (hy : ev σ y = some (.slice A2 m c2)) (hp : pull i H = some (Own e C A c xs, H')) (hm : m = ys.length) (hA2 : A2.isSome = true) (hr : ∀ w, St w0 H w → Rd C w A2 ys) (hb : (xs.length + ys.length) * bytes ≤ 140737488355328) (hbp : 0 < bytes) :
    Ef P w0 o σ H Q (fun v H'' => ∃ A' c', v = .slice A' (xs ++ ys).length c' ∧ H'' = repl i H (Own e C A' c' (xs ++ ys)) ∧ (A.isSome = true ∨ 0 < ys.length → A'.isSome = true)) := by
  refine Ef.mk fun w hw a ha => ?_
  have h1 := ha x (by simp [ho, Op.operands, Call.operands]) _ hx
  have h2 := ha y (by simp [ho, Op.operands, Call.operands]) _ hy
  subst hs
  subst hm
  obtain ⟨i0, hi1, hi2, hi3, hi4⟩ := hi.parts
  obtain ⟨q, rfl⟩ := Option.isSome_iff_exists.1 hA2
  obtain ⟨F, hown, hF⟩ := hw.get i hp
  have hnews : ∀ j u, (ys.flatMap C.enc)[j]? = some u → w.cell? (q.add j) = some u := by
    intro j u hj
    have hp := C.pos
    have hlt : j < ys.length * C.sz := by have := (List.getElem?_eq_some_iff.1 hj).1; rwa [length_flatMap_enc] at this
    have hq : j / C.sz < ys.length := Nat.div_lt_of_lt_mul (by rw [Nat.mul_comm]; exact hlt)
    have hme : j / C.sz * C.sz + j % C.sz = j := by rw [Nat.mul_comm]; exact Nat.div_add_mod j C.sz
    obtain ⟨q', hq', hc⟩ := hr w hw (j / C.sz) hq
    cases hq'
    have hg := getElem?_flatMap_enc C ys (j / C.sz) (j % C.sz) hq (Nat.mod_lt _ hp)
    rw [hme, hj] at hg
    have := hc (j % C.sz) u hg.symm
    rwa [hme] at this
  have hl63 : xs.length + ys.length ≤ maxLen := by
    have : xs.length + ys.length ≤ (xs.length + ys.length) * bytes := Nat.le_mul_of_pos_right _ hbp
    simp only [maxLen]
    omega
  obtain ⟨v', w', hrun, hown', hg, hnil, hat⟩ := run_append_own_at (P := P) w 0 T o.type e i0 z C.sz bytes hT hi1 hi2 hi3 hi4 hzc C.pos _ xs.length (xs.flatMap C.enc) hown
    q ys.length c2 (ys.flatMap C.enc) (length_flatMap_enc C ys) hnews (fun u hu => by obtain ⟨y, _, hy⟩ := List.mem_flatMap.1 hu; exact C.one y u hy) hl63 hb (Nat.zero_le _)
  have hshape : ∃ A' c', v' = .slice A' (xs ++ ys).length c' := by
    rcases hown'.2 with ⟨hv, h0⟩ | ⟨g, cap, cur, hv, _⟩
    · exact ⟨none, 0, by rw [hv, List.length_append, h0]⟩
    · exact ⟨_, cap, by rw [hv, List.length_append]⟩
  obtain ⟨A', c', rfl⟩ := hshape
  have hown2 : w'.ownsRow 0 e C.sz (.slice A' (xs ++ ys).length c') (xs ++ ys).length ((xs ++ ys).flatMap C.enc) := by
    rw [List.flatMap_append, List.length_append]
    rw [List.length_append] at hown'
    exact hown'
  refine ⟨_, w', ?_, _, St.perm ((hw.perm (pull_perm hp)).upd (B := Own e C A' c' (xs ++ ys)) ?_) (repl_perm hp), A', c', rfl, rfl, ?_⟩
  rotate_right
  · intro hor
    cases A' with
    | some q => rfl
    | none =>
      exfalso
      rcases hown2.2 with ⟨h3, h4⟩ | ⟨g, cap, cur, hv, _⟩
      · obtain ⟨h5, h6⟩ := hnil.1 h3
        rcases hor with h7 | h7
        · injection h5 with h8
          rw [h8] at h7
          cases h7
        · omega
      · injection hv with h8
        cases h8
  · simp [execOp, ho, resolve, invoke, builtin, h1, h2, hrun]
  · rintro F2 ⟨ho2, hF2⟩ hb2
    refine ⟨⟨hg.os, hg.tape, hg.output, hg.size, fun k hk hk' => hg.block k hk (fun e1 => hk' ((hF2 k).2 e1.symm)), run_drawn _ hrun⟩, fun k => (Value.slice A' (xs ++ ys).length c').ownBlock = some k, ⟨hown2, fun _ => Iff.rfl⟩, ?_⟩
    intro k hk
    refine ⟨?_, (hown2.lt k hk).2⟩
    rcases hat with h3 | h3
    · exact .inl ((hF2 k).2 (h3 ▸ hk))
    · rw [h3] at hk
      cases hk
      exact .inr (Nat.le_refl _)

theorem run_build0 {T e sz : Nat} (hT : P.underlying T = some (.slice e)) (hs : Sz P e sz) (ps : Array (Nat × Value)) (hf : Instr.fill (fun i => some (i * sz, sz)) #[] ps.toList = some #[]) (w : World) :
    (Instr.buildSlice T 0 ps).run P w = .ok (.slice (some ⟨w.heap.size, 0, none⟩) 0 0) (w.alloc (.cells #[] e)) := by
  have h0 : (Array.range 0 : Array Nat) = #[] := rfl
  unfold Instr.buildSlice
  simp [run_underlying hT, run_sz hs, newRow, h0, hf]
/-- A slice literal. -/
theorem Ef.build {T e n sz bytes : Nat} {parts : Array (Nat × Operand)} {vs : List Value} {z : Value} (C : Cod α) (xs : List α) (ho : o.op = .buildSlice T n parts) (hT : P.underlying T = some (.slice e)) (hi : Inf P e sz bytes z) (hs : sz = C.sz)
    (hx : evs σ (parts.toList.map (·.2)) = some vs) (hn : n = xs.length) (hsmall : n * sz ≤ 16777216)
    (hf : Instr.fill (fun i => some (i * sz, sz)) ((Array.range (n * sz)).map (z.cells[· % z.cells.size]!)) ((parts.toList.map (·.1)).zip vs) = some (xs.flatMap C.enc).toArray) :
    Ef P w0 o σ H Q (fun v H' => ∃ A, A.isSome = true ∧ v = .slice A xs.length xs.length ∧ H' = Own e C A xs.length xs :: H) := by
  refine Ef.mk fun w hw a ha => ?_
  have hag : ∀ x ∈ parts.toList.map (·.2), ∀ v, ev σ x = some v → a.eval x = v := fun x hx v hv => ha x (by simpa [ho, Op.operands] using hx) v hv
  have h2 := evs_map (a := a) hag hx
  have hparts : (parts.map fun (i, x) => (i, a.eval x)).toList = (parts.toList.map (·.1)).zip vs := by
    rw [← h2, Array.toList_map]
    generalize parts.toList = l
    induction l with
    | nil => rfl
    | cons p l ih => simp [ih]
  obtain ⟨i, hi1, hi2, hi3, hi4⟩ := hi.parts
  subst hs
  subst hn
  have hfl := length_flatMap_enc C xs
  refine ⟨.slice (some ⟨w.heap.size, 0, none⟩) xs.length xs.length, w.alloc (.cells (xs.flatMap C.enc).toArray e), ?_, _, hw.add (A := Own e C (some ⟨w.heap.size, 0, none⟩) xs.length xs) (below_alloc _ _) (F := fun k => k = w.heap.size) ⟨⟨?_, .inr ⟨w.heap.size, xs.length, _, rfl, Nat.zero_le _, heap_alloc_new w _, Nat.le_refl _, ?_, ?_, ?_⟩⟩, ?_⟩ ?_, _, rfl, rfl, rfl⟩
  · by_cases h0 : xs.length * C.sz = 0
    · have hx0 : xs = [] := by
        have := C.pos
        rcases Nat.mul_eq_zero.1 h0 with h | h
        · exact List.eq_nil_of_length_eq_zero h
        · omega
      subst hx0
      have hf' : Instr.fill (fun i => some (i * C.sz, C.sz)) #[] ((parts.map fun (i, x) => (i, a.eval x)).toList) = some #[] := by
        rw [hparts]
        have h0 : (Array.range (([] : List α).length * C.sz) : Array Nat) = #[] := by simp [Array.range_zero']
        rw [h0] at hf
        simpa using hf
      have hb : (Instr.buildSlice T ([] : List α).length (parts.map fun (i, x) => (i, a.eval x))).run P w = .ok (.slice (some ⟨w.heap.size, 0, none⟩) ([] : List α).length ([] : List α).length) (w.alloc (.cells (([] : List α).flatMap C.enc).toArray e)) := by
        exact run_build0 hT (show Sz P e C.sz by unfold Sz; rw [hi1]; simp [hi3]) _ hf' w
      simp only [execOp, ho, Sem.run_bind, hb, Result.andThen_ok, Sem.run_pure]
    · have hb := run_buildSlice (P := P) w T e xs.length (parts.map fun (i, x) => (i, a.eval x)) (xs.flatMap C.enc).toArray i z hT hi1 hi2 (by rw [hi3]; omega) (by rw [hi3]; exact h0) (by rw [hi3, hparts]; exact hf)
      simp only [execOp, ho, Sem.run_bind, hb, Result.andThen_ok, Sem.run_pure]
  · rw [hfl]
  · have : xs.length ≤ xs.length * C.sz := Nat.le_mul_of_pos_right _ C.pos
    simp only [maxLen]
    omega
  · simp [hfl]
  · rw [← hfl, List.take_length]
  · intro k
    simp [Value.ownBlock]
    exact eq_comm
  · rintro k rfl
    simp

/-! ### A square table of 15 rows -/
def gcells (G : Int → Int → Int) : List Value := (List.range 225).map fun i => .int .i64 (G ((i / 15 : Nat) : Int) ((i % 15 : Nat) : Int))
def Grid (b : Nat) (G : Int → Int → Int) (t : TypeId) : Assn := Blk b (gcells G) t

theorem gcells_at (G : Int → Int → Int) {a b : Int} (ha : 0 ≤ a ∧ a < 15) (hb : 0 ≤ b ∧ b < 15) : (gcells G)[a.toNat * 15 + b.toNat]? = some (.int .i64 (G a b)) := by
  unfold gcells
  rw [List.getElem?_map, List.getElem?_range (by omega)]
  simp only [Option.map_some]
  have h1 : (a.toNat * 15 + b.toNat) / 15 = a.toNat := by omega
  have h2 : (a.toNat * 15 + b.toNat) % 15 = b.toNat := by omega
  rw [h1, h2]
  congr 3 <;> omega
theorem gcells_set (G : Int → Int → Int) {a b v : Int} (ha : 0 ≤ a ∧ a < 15) (hb : 0 ≤ b ∧ b < 15) : splice (gcells G) (a.toNat * 15 + b.toNat) [.int .i64 v] = gcells (gset G a b v) := by
  have hlen : (gcells G).length = 225 := by simp [gcells]
  apply List.ext_getElem?
  intro i
  unfold splice
  simp only [List.append_assoc, List.singleton_append, List.length_singleton]
  by_cases h1 : i < a.toNat * 15 + b.toNat
  · rw [List.getElem?_append_left (by simp [hlen]; omega), List.getElem?_take, if_pos h1]
    unfold gcells gset
    rw [List.getElem?_map, List.getElem?_map, List.getElem?_range (by omega)]
    simp only [Option.map_some]
    rw [if_neg]
    omega
  · rw [List.getElem?_append_right (by simp; omega)]
    rw [List.length_take, hlen]
    by_cases h2 : i = a.toNat * 15 + b.toNat
    · subst h2
      have : a.toNat * 15 + b.toNat - min (a.toNat * 15 + b.toNat) 225 = 0 := by omega
      rw [this, gcells_at _ ha hb]
      simp [gset]
    · have : i - min (a.toNat * 15 + b.toNat) 225 = (i - (a.toNat * 15 + b.toNat) - 1) + 1 := by omega
      rw [this, List.getElem?_cons_succ, List.getElem?_drop]
      have : a.toNat * 15 + b.toNat + 1 + (i - (a.toNat * 15 + b.toNat) - 1) = i := by omega
      rw [this]
      unfold gcells gset
      rw [List.getElem?_map, List.getElem?_map]
      by_cases h3 : i < 225
      · rw [List.getElem?_range h3]
        simp only [Option.map_some]
        rw [if_neg]
        omega
      · rw [List.getElem?_eq_none (by simp; omega)]
        rfl
theorem gcells_congr {G G' : Int → Int → Int} (h : ∀ x y : Int, 0 ≤ x → x < 15 → 0 ≤ y → y < 15 → G x y = G' x y) : gcells G = gcells G' := by
  unfold gcells
  refine List.map_congr_left fun i hi => ?_
  have := List.mem_range.1 hi
  rw [h _ _ (by omega) (by omega) (by omega) (by omega)]
theorem Grid.congr {b t : Nat} {G G' : Int → Int → Int} (h : ∀ x y : Int, 0 ≤ x → x < 15 → 0 ≤ y → y < 15 → G x y = G' x y) : ∀ w F, (Grid b G t).P w F → (Grid b G' t).P w F := by
  intro w F hh
  unfold Grid at *
  rw [← gcells_congr h]
  exact hh
/-- The table that is being filled with -1: i rows, and k of the next. -/
def ngrid (i k : Nat) : Int → Int → Int := fun x y => if x < (i : Int) ∨ (x = (i : Int) ∧ y < (k : Int)) then -1 else 0
theorem ngrid_row {i k b t : Nat} (hk : 15 ≤ k) : ∀ w F, (Grid b (ngrid i k) t).P w F → (Grid b (ngrid (i + 1) 0) t).P w F := by
  refine Grid.congr fun x y h1 h2 h3 h4 => ?_
  unfold ngrid
  split <;> split <;> omega
theorem ngrid_set {i k b t : Nat} : ∀ w F, (Grid b (gset (ngrid i k) (i : Int) (k : Int) (-1)) t).P w F → (Grid b (ngrid i (k + 1)) t).P w F := by
  refine Grid.congr fun x y h1 h2 h3 h4 => ?_
  unfold gset ngrid
  split <;> split <;> (try split) <;> omega
theorem ngrid_start {b t : Nat} : ∀ w F, (Grid b (fun _ _ => 0) t).P w F → (Grid b (ngrid 0 0) t).P w F := by
  refine Grid.congr fun x y h1 h2 h3 h4 => ?_
  unfold ngrid
  split <;> omega
theorem ngrid_end {b t i : Nat} (hi : 15 ≤ i) : ∀ w F, (Grid b (ngrid i 0) t).P w F → (Grid b (fun _ _ => -1) t).P w F := by
  refine Grid.congr fun x y h1 h2 h3 h4 => ?_
  unfold ngrid
  split <;> omega
theorem Ld.grid {b t off : Nat} {G : Int → Int → Int} {x y : Int} (i : Nat) (hp : pull i H = some (Grid b G t, H')) (ho : off = x.toNat * 15 + y.toNat) (hx : 0 ≤ x ∧ x < 15) (hy : 0 ≤ y ∧ y < 15) : ∀ w, St w0 H w → ∃ q, some (⟨b, off, none⟩ : Addr) = some q ∧ w.cell? q = some (.int .i64 (G x y)) := by
  intro w hw
  subst ho
  exact ⟨_, rfl, Blk.cell hw hp (gcells_at G hx hy)⟩
/-- The table in memory that was there. -/
def GridAt (w : World) (b : Nat) (G : Int → Int → Int) (t : TypeId) : Prop := w.heap[b]? = some (.cells (gcells G).toArray t (0, 0))
theorem GridAt.of {b t i : Nat} {G : Int → Int → Int} (hw : St w0 H w) (hp : pull i H = some (Grid b G t, H')) : GridAt w b G t := Blk.heap hw hp
theorem GridAt.st {b t : Nat} {G : Int → Int → Int} (h : GridAt w0 b G t) (hw : St w0 H w) : GridAt w b G t := by
  unfold GridAt
  rw [hw.below.block b (Array.getElem?_eq_some_iff.1 h).1]
  exact h
theorem Ld.gridOld {b t off : Nat} {G : Int → Int → Int} {x y : Int} (hG : GridAt w0 b G t) (ho : off = x.toNat * 15 + y.toNat) (hx : 0 ≤ x ∧ x < 15) (hy : 0 ≤ y ∧ y < 15) : ∀ w, St w0 H w → ∃ q, some (⟨b, off, none⟩ : Addr) = some q ∧ w.cell? q = some (.int .i64 (G x y)) := by
  intro w hw
  subst ho
  have := hG.st hw
  unfold GridAt at this
  exact ⟨_, rfl, by simp [World.cell?, this, gcells_at G hx hy]⟩
theorem Ef.storeGrid {T : TypeId} {x y : Operand} {b t off : Nat} {G : Int → Int → Int} {v : Int} (i : Nat) (p q : Int) (ho : o.op = .store T x y) (hs : Sz P T 1) (hx : ev σ x = some (.pointer (some ⟨b, off, none⟩))) (hy : ev σ y = some (.int .i64 v))
    (hp : pull i H = some (Grid b G t, H')) (hoff : off = p.toNat * 15 + q.toNat) (hpb : 0 ≤ p ∧ p < 15) (hqb : 0 ≤ q ∧ q < 15) :
    Ef P w0 o σ H Q (fun _ H'' => H'' = repl i H (Grid b (gset G p q v) t)) := by
  subst hoff
  exact Ef.store (cs := gcells G) (us := [.int .i64 v]) i ho hs hx hy hp rfl rfl (by simp [Value.oneCell']) (by simp [gcells]; omega) (gcells_set G hpb hqb)
theorem gcells_const (c : Int) : gcells (fun _ _ => c) = List.replicate 225 (.int .i64 c) := by
  unfold gcells
  rw [List.map_const']
  simp
/-- A new table. -/
theorem Ef.allocGrid {T : TypeId} (ho : o.op = .alloc T) (hz : Zr P T (.agg (List.replicate 225 (.int .i64 0)).toArray)) :
    Ef P w0 o σ H Q (fun u H' => ∃ b, u = .pointer (some ⟨b, 0, none⟩) ∧ H' = Grid b (fun _ _ => 0) T :: H) := by
  have := Ef.alloc (H := H) (Q := Q) (w0 := w0) (σ := σ) (cs := gcells (fun _ _ => 0)) ho hz (by rw [gcells_const]; rfl)
  exact this
end
end Go.Vc
