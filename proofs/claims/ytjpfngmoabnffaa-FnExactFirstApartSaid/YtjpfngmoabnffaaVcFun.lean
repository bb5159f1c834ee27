/-
  The calculus, part 10: values of functions with bound arguments.
-/
import Derived.Test.YtjpfngmoabnffaaVcMark
set_option linter.unusedVariables false
set_option linter.unusedSimpArgs false
namespace Go.Vc
open Go Go.RowKit
section
variable {P : Program} {w0 w : World} {H H' : List Assn} {Q : Exit → Act → World → Prop} {σ : Sig} {o : Oper}
theorem Ef.callVB {f : Operand} {g : FuncId} {l : List Operand} {ts : Array TypeId} {vs : List Value} {bnd caps : Array Value} {R : Value → List Assn} (ho : o.op = .call { callee := .value f, args := l.toArray, argTypes := ts }) (hf : ev σ f = some (.func (.func g) bnd caps)) (hok : CallOk P g)
    (hargs : evs σ l = some vs) (hfn : Does P g (bnd.toList ++ vs ++ caps.toList) w0 H R) : Ef P w0 o σ H Q (fun v H' => H' = R v) := by
  intro w hw a ha
  have h1 := ha f (by simp [ho, Op.operands, Call.operands]) _ hf
  have h2 := evs_map (a := a) (fun x hx v hv => ha x (by simp [ho, Op.operands, Call.operands]; exact .inr hx) v hv) hargs
  have h3 : (l.toArray.map a.eval) = vs.toArray := by apply Array.ext'; rw [← h2]; simp
  unfold Oper.wp
  have : (execOp a.eval o).run P w = .ok (.enter g (bnd.toList ++ vs ++ caps.toList).toArray) w := by
    have e2 : bnd ++ vs.toArray ++ caps = (bnd.toList ++ vs ++ caps.toList).toArray := by apply Array.ext'; simp
    simp only [execOp, ho, resolve, h1, h3, Deferred.ofValue, invoke, Sem.run_bind, Sem.run_pure, Result.andThen_ok, run_callFunc hok, e2]
  rw [this]
  refine Calls.mono (hfn w hw) ?_
  rintro e w' ⟨v, rfl, hs⟩
  exact ⟨v, _, rfl, hs, rfl⟩
theorem Ef.callPB {f : Operand} {g : FuncId} {l : List Operand} {ts : Array TypeId} {vs : List Value} {bnd caps : Array Value} {r : Value} (hok : CallOk P g) (ho : o.op = .call { callee := .value f, args := l.toArray, argTypes := ts }) (hf : ev σ f = some (.func (.func g) bnd caps))
    (hargs : evs σ l = some vs) (hfn : ∀ w, St w0 H w → Does P g (bnd.toList ++ vs ++ caps.toList) w [] (fun v => [.pur (v = r)])) : Ef P w0 o σ H Q (fun v H' => v = r ∧ H' = H) := by
  intro w hw a ha
  have := Ef.callVB (Q := Q) ho hf hok hargs (Does.frame hfn) w hw a ha
  refine Oper.wp_mono ?_ this
  rintro a' w' ⟨v, H', rfl, hs, rfl⟩
  have hs' : St w0 (.pur (v = r) :: H) w' := hs
  exact ⟨v, H, rfl, hs'.pur.2, hs'.pur.1, rfl⟩
theorem Pu.makeBound {f : Nat} {bs caps : Array Operand} {us vs : List Value} (ho : o.op = .makeFunc (.func f) bs caps) (hb : evs σ bs.toList = some us) (hx : evs σ caps.toList = some vs) : Pu P w0 o σ H (.func (.func f) us.toArray vs.toArray) := by
  intro w hw a ha
  have hag : ∀ x ∈ bs.toList ++ caps.toList, ∀ v, ev σ x = some v → a.eval x = v := fun x hx v hv => ha x (by simp [ho, Op.operands] at *; first | exact hx | (rcases hx with h | h <;> simp [h])) v hv
  have h1 := evs_map (a := a) (fun x hx v hv => hag x (by simp [Array.mem_toList_iff] at *; exact .inl hx) v hv) hb
  have h2 := evs_map (a := a) (fun x hx v hv => hag x (by simp [Array.mem_toList_iff] at *; exact .inr hx) v hv) hx
  have e1 : bs.map a.eval = us.toArray := by apply Array.ext'; rw [← h1]; simp
  have e2 : caps.map a.eval = vs.toArray := by apply Array.ext'; rw [← h2]; simp
  simp [execOp, ho, Instr.makeFunc, e1, e2]
/-- Where ways meet again, with something that is known to be there. -/
theorem V.cutE {N : Nat} {c : Code} {β : Type} (σv : β → Sig) (σc : Sig) (Hi : β → List Assn) (Hc : List Assn) (Φ : β → Prop) (hc : Ent σ σc) (hH : Sub H Hc)
    (h1 : V P N w0 c (Exit.then (fun a w => ∃ y, Φ y ∧ Env N (σv y ++ σc) a ∧ St w0 (Hi y ++ Hc) w) Q) σ H) (h2 : ∀ y, Φ y → X N w0 Q .normal (σv y ++ σc) (Hi y ++ Hc)) : V P N w0 c Q σ H := by
  intro w hw a ha
  refine wp_mono (h1 w hw a ha) ?_
  intro e a' w' hq
  cases e with
  | normal =>
    obtain ⟨y, hy, h3, h4⟩ := hq
    exact h2 y hy w' h4 a' h3
  | _ => exact hq
theorem X.cutE {N : Nat} {β : Type} {σv : β → Sig} {σc : Sig} {Hi : β → List Assn} {Hc : List Assn} {Φ : β → Prop} (y : β) (hΦ : Φ y) (hσ : Ent σ (σv y)) (hc : Ent σ σc) (hH : Sub H (Hi y ++ Hc)) :
    X N w0 (Exit.then (fun a w => ∃ y, Φ y ∧ Env N (σv y ++ σc) a ∧ St w0 (Hi y ++ Hc) w) Q) .normal σ H :=
  fun w hw a ha => ⟨y, hΦ, ha.ent (hσ.append hc), hw.sub hH⟩
/-- One of two operations comes next. -/
theorem D.either {N : Nat} {ops : Array Oper} {Hs : List Assn} (hwf : wfB ops = true) {effs done : List Nat} {e1 e2 : Nat} (hcl : closedL ops done [e1, e2] = true) (h1 : Cand P N w0 ops Q effs done σ Hs H e1) (h2 : Cand P N w0 ops Q effs done σ Hs H e2) : D P N w0 ops Q effs done σ Hs H := by
  refine D.effS hwf [e1, e2] e1 (by simp) hcl ?_
  intro e he
  simp only [List.mem_cons, List.not_mem_nil, or_false] at he
  rcases he with rfl | rfl
  · exact h1
  · exact h2
/-- make, with a length that is a number's. -/
theorem Ef.makeI {α : Type} {T e sz bytes n : Nat} {x y : Operand} {z : Value} {K1 K2 : IntKind} {i : Int} (C : Cod α) (u : α) (ho : o.op = .makeSlice T x y) (hT : P.underlying T = some (.slice e)) (hi : Inf P e sz bytes z) (hs : sz = C.sz) (hz : z.cells.toList = C.enc u)
    (hx : ev σ x = some (.int K1 i)) (hy : ev σ y = some (.int K2 i)) (hin : i = (n : Int)) (hb : bytes * n ≤ 281474976710656) (hm : n ≤ 9223372036854775807) :
    Ef P w0 o σ H Q (fun v H' => ∃ A, A.isSome = true ∧ v = .slice A n n ∧ H' = Own e C A n (List.replicate n u) :: H) := by
  subst hin
  exact Ef.make C u ho hT hi hs hz hx hy hb hm
/-! ### Arrays of numbers, by an index -/
theorem Ld.arrK {b t off : Nat} {xs : List Int} {n k : Nat} (i : Nat) (hp : pull i H = some (Blk b (xs.map (Value.int .i64)) t, H')) (ho : off = 0 + k * 1) (hk : k < n) (hn : xs.length = n) : ∀ w, St w0 H w → ∃ q, some (⟨b, off, none⟩ : Addr) = some q ∧ w.cell? q = some (.int .i64 (xs.getD k 0)) := by
  intro w hw
  subst ho
  refine ⟨_, rfl, Blk.cell hw hp ?_⟩
  have : 0 + k * 1 = k := by omega
  rw [this, List.getElem?_map, List.getElem?_eq_getElem (by omega)]
  simp [List.getD, hk, hn]
theorem Ef.storeArr {T : TypeId} {x y : Operand} {b t off n : Nat} {xs : List Int} {v : Int} (i : Nat) (k : Nat) (ho : o.op = .store T x y) (hs : Sz P T 1) (hx : ev σ x = some (.pointer (some ⟨b, off, none⟩))) (hy : ev σ y = some (.int .i64 v))
    (hp : pull i H = some (Blk b (xs.map (Value.int .i64)) t, H')) (hoff : off = 0 + k * 1) (hk : k < n) (hn : xs.length = n) :
    Ef P w0 o σ H Q (fun _ H'' => H'' = repl i H (Blk b ((xs.set k v).map (Value.int .i64)) t)) := by
  subst hoff
  have h0 : 0 + k * 1 = k := by omega
  rw [h0] at hx
  exact Ef.store1 i ho hs hx hy hp rfl rfl (by simp; omega) (by rw [List.map_set])
end
end Go.Vc
