/-
  Completions, of the program.
-/
import Derived.Test.YtjpfngmoabnffaaD1
set_option linter.unusedVariables false
set_option linter.unusedSimpArgs false
namespace Go.Proofs.Ytjpfngmoabnffaa
open Go Go.RowKit Go.Vc Go.Proofs
def L_from (n : Nat) : Prop := ∀ (cb gb v gf : Nat) (caps : Array Value) (E : List (List B3) → Assn) (cont : Nat → Bool) (okL : List B3 → Prop) (M m : Nat) (xs : List B3) (l : List (List B3)) (a : Nat) (w0 : World) (H : List Assn) (hok : CallOk Try.prog gf) (hcb : CallB Try.prog w0 75 gf caps E cont okL M) (hv : v ≤ 15) (ha : a ≤ v) (hrows : ∀ i j, i < a → i < j → j < v → usd m i j = true) (hn : leftN v m ≤ n) (hM : l.length + (runC cont l.length (leaf xs (compM n v m))).length ≤ M) (hMM : M ≤ 1000000) (hokl : ∀ q ∈ leaf xs (compM n v m), okL q) (hxs : xs.length + n ≤ 1000), Does Try.prog 196 [.pointer (some ⟨cb, 0, none⟩), .int .i64 (a : Int)] w0 (CompK 189 75 222 cb gb v (.func (.func gf) #[] caps) E m xs l :: H) (fun r => [.sep (.pur (r = .bool (decide (goesC cont l.length (leaf xs (compM n v m)) = true)))) (CompK 189 75 222 cb gb v (.func (.func gf) #[] caps) E m xs (l ++ runC cont l.length (leaf xs (compM n v m))))] ++ H)
set_option maxRecDepth 100000 in
set_option maxHeartbeats 1000000 in
theorem from_step (n : Nat) (ih : ∀ n', n' < n → L_from n') (cb gb v gf : Nat) (caps : Array Value) (E : List (List B3) → Assn) (cont : Nat → Bool) (okL : List B3 → Prop) (M m : Nat) (xs : List B3) (l : List (List B3)) (a : Nat) (w0 : World) (H : List Assn) (hok : CallOk Try.prog gf) (hcb : CallB Try.prog w0 75 gf caps E cont okL M) (hv : v ≤ 15) (ha : a ≤ v) (hrows : ∀ i j, i < a → i < j → j < v → usd m i j = true) (hn : leftN v m ≤ n) (hM : l.length + (runC cont l.length (leaf xs (compM n v m))).length ≤ M) (hMM : M ≤ 1000000) (hokl : ∀ q ∈ leaf xs (compM n v m), okL q) (hxs : xs.length + n ≤ 1000) : Does Try.prog 196 [.pointer (some ⟨cb, 0, none⟩), .int .i64 (a : Int)] w0 (CompK 189 75 222 cb gb v (.func (.func gf) #[] caps) E m xs l :: H) (fun r => [.sep (.pur (r = .bool (decide (goesC cont l.length (leaf xs (compM n v m)) = true)))) (CompK 189 75 222 cb gb v (.func (.func gf) #[] caps) E m xs (l ++ runC cont l.length (leaf xs (compM n v m))))] ++ H) := by
  refine Does.enter Try.func196 rfl rfl [(0, .pointer (some ⟨cb, 0, none⟩)), (1, .int .i64 (a : Int))] rfl ?_
  refine V.seq ?_
  refine V.region ?_
  refine O.p rfl rfl rfl (Pu.assign rfl rfl) ?_
  refine O.nil ?_
  refine X.next ?_
  refine V.seq ?_
  refine V.compK (fun xA1 xk1 G1 hrel1 => ?_)
  refine V.region ?_
  refine O.p rfl rfl rfl (Pu.move rfl rfl) ?_
  refine O.p rfl rfl rfl (Pu.move rfl rfl) ?_
  refine O.e rfl rfl rfl (Ef.call1 call232 rfl rfl (fun w hw => next_ok  cb gb v G1 m _ _ a w (Blk.rdb hw (i := 0) (by exact rfl)) (GridAt.of (i := 1) hw (by exact rfl))  (by first | assumption | omega | (try dsimp only at *; omega)) (by first | assumption | omega | (try dsimp only at *; omega)) (by first | assumption | omega | (try dsimp only at *; omega)) (by first | assumption | omega | (try dsimp only at *; omega)))) ?_
  rintro _ _ rfl
  refine O.exi (fun i1 => ?_)
  refine O.exi (fun j1 => ?_)
  refine O.pur ?_
  rintro ⟨rfl, hi1_1⟩
  refine O.p rfl rfl rfl (Pu.move rfl rfl) ?_
  refine O.p rfl rfl rfl (Pu.extract rfl rfl rfl) ?_
  refine O.p rfl rfl rfl (Pu.extract rfl rfl rfl) ?_
  refine O.p rfl rfl rfl (Pu.extract rfl rfl rfl) ?_
  refine O.p rfl rfl rfl (Pu.assign rfl rfl) ?_
  refine O.p rfl rfl rfl (Pu.assign rfl rfl) ?_
  refine O.p rfl rfl rfl (Pu.assign rfl rfl) ?_
  refine O.nil ?_
  refine X.next ?_
  refine V.seq ?_
  refine V.seq ?_
  refine V.region ?_
  refine O.p rfl rfl rfl (Pu.move rfl rfl) ?_
  refine O.p rfl rfl rfl (Pu.not rfl rfl) ?_
  refine O.nil ?_
  refine X.next ?_
  refine V.condNot rfl (fun c1 => ?_) (fun c1 => ?_)
  · skip
    have hnone : nextM v m = none := by cases h : nextM v m with | none => rfl | some q => rw [h] at c1; exact absurd rfl c1
    refine V.seq ?_
    refine V.ent (Ent.cons (t := 0) rfl (Ent.cons (t := 1) rfl (Ent.cons (t := 5) rfl (Ent.nil _)))) ?_
    refine V.drawS mo (by kernel_rfl) (Sub.keep 0 rfl (Sub.drop (Sub.drop (Sub.drop (Sub.refl _))))) (fun hwf => ?_)
    refine D.p 0 rfl rfl rfl rfl rfl rfl (Pu.move rfl rfl) ?_
    refine D.p 1 rfl rfl rfl rfl rfl rfl (Pu.nilCheck rfl rfl) ?_
    refine D.p 2 rfl rfl rfl rfl rfl rfl (Pu.fieldAddr 3 rfl Try.underlying189 rfl sz140 rfl rfl) ?_
    refine D.p 3 rfl rfl rfl rfl rfl rfl (Pu.load rfl pl140 rfl (Ld.blk 0 rfl rfl)) ?_
    refine D.p 4 rfl rfl rfl rfl rfl rfl (Pu.move rfl rfl) ?_
    refine D.p 5 rfl rfl rfl rfl rfl rfl (Pu.nilCheck rfl rfl) ?_
    refine D.p 6 rfl rfl rfl rfl rfl rfl (Pu.fieldAddr 2 rfl Try.underlying189 rfl sz28 rfl rfl) ?_
    refine D.p 7 rfl rfl rfl rfl rfl rfl (Pu.load rfl pl28 rfl (Ld.blk 0 rfl rfl)) ?_
    refine D.eff hwf (e := 8) rfl rfl rfl rfl (Ef.callV rfl rfl hok rfl (Does.pre (fun w hw => hw.sub (Sub.keep 2 rfl (Sub.keep 2 rfl (Sub.keep 0 rfl (Sub.keep 0 rfl (Sub.refl _)))))) (hcb l xs _ _ _ (by rw [leaf_none hnone, runC_one] at hM; simp only [List.length_singleton] at hM; omega) (hokl _ (by rw [leaf_none hnone]; exact List.mem_singleton.2 rfl))))) rfl rfl rfl ?_
    rintro _ _ rfl hs
    refine ⟨fun w hw => hw.tail.sub (Sub.keep 0 rfl (Sub.drop (Sub.refl _))), ?_⟩
    refine D.sep ?_
    refine D.pur1 ?_
    rintro rfl
    refine D.sep ?_
    refine D.p 9 rfl rfl rfl rfl rfl rfl (Pu.assign rfl rfl) ?_
    refine D.done hwf rfl ?_
    refine X.next ?_
    refine V.ret ?_
    refine X.thenRet ?_
    refine X.map (fun w hw => CompK.mk hrel1 (hw.sub (Sub.keep 2 rfl (Sub.keep 2 rfl (Sub.keep 0 rfl (Sub.keep 0 rfl (Sub.refl _))))))) ?_
    refine X.ret1 rfl rfl ?_
    exact fun w hw => St.unsep (St.addPur (boolE (by rw [leaf_none hnone, goesC_one])) (hw.sub (Sub.cons 0 rfl (fun w F h => by rw [leaf_none hnone, runC_one]; exact h) (Sub.refl _))))
  · skip
    obtain ⟨⟨x, y⟩, hxy⟩ := Option.isSome_iff_exists.1 c1
    obtain ⟨e1, e2, hI⟩ := hi1_1 x y hxy
    subst e1 e2
    have hn0 := left_pos hI hn
    have hcm := comp_some' hxy hn0
    rw [hcm] at hM hokl
    have hab := hI.ab
    have hbv := hI.bv
    refine V.skip ?_
    refine X.next ?_
    refine V.seq ?_
    refine V.seq ?_
    refine V.map (fun w hw => CompK.mk hrel1 (hw.sub (Sub.keep 0 rfl (Sub.keep 0 rfl (Sub.keep 0 rfl (Sub.keep 0 rfl (Sub.refl _))))))) ?_
    refine V.region ?_
    refine O.p rfl rfl rfl (Pu.move rfl rfl) ?_
    refine O.p rfl rfl rfl (Pu.add64 (r := ((j1 + 1 : Nat) : Int)) rfl (by omega) rfl rfl rfl) ?_
    refine O.p rfl rfl rfl (Pu.assign rfl rfl) ?_
    refine O.nil ?_
    refine X.next ?_
    refine V.block ?_
    refine V.loop3 (β := Nat × (List (List B3))) (fun x => [(7, .int .i64 (x.1 : Int))]) _ (fun x => [CompK 189 75 222 cb gb v (.func (.func gf) #[] caps) E m xs x.2]) _ (fun x => j1 < x.1 ∧ x.1 ≤ v ∧ goesC cont l.length (leaf xs (compJ (n - 1) v m i1 j1 x.1)) = true ∧ x.2 = l ++ (leaf xs (compJ (n - 1) v m i1 j1 x.1))) (fun x => v - x.1) (j1 + 1, l) (by (try dsimp only); exact ⟨by omega, by omega, by rw [compJ_low (by omega)]; rfl, by rw [compJ_low (by omega)]; simp [leaf]⟩) (Ent.cons rfl (Ent.nil _)) (Ent.cons (t := 0) rfl (Ent.cons (t := 1) rfl (Ent.cons (t := 5) rfl (Ent.nil _)))) (Sub.keep 0 rfl (Sub.refl _)) ?_
    rintro ⟨p, l2⟩ ⟨hp0, hp, hgo, hl2⟩
    dsimp only at hp0 hp hgo hl2 ⊢
    refine V.seq ?_
    refine V.seq ?_
    refine V.compK (fun xA2 xk2 G2 hrel2 => ?_)
    refine V.region ?_
    refine O.p rfl rfl rfl (Pu.move rfl rfl) ?_
    refine O.p rfl rfl rfl (Pu.move rfl rfl) ?_
    refine O.p rfl rfl rfl (Pu.nilCheck rfl rfl) ?_
    refine O.p rfl rfl rfl (Pu.fieldAddr 0 rfl Try.underlying189 rfl sz2 rfl rfl) ?_
    refine O.p rfl rfl rfl (Pu.load rfl pl2 rfl (Ld.blk 0 rfl rfl)) ?_
    refine O.p rfl rfl rfl (Pu.lss rfl rfl rfl) ?_
    refine O.nil ?_
    refine X.next ?_
    refine V.condD rfl (fun c2 => ?_) (fun c2 => ?_)
    · skip
      refine V.skip ?_
      refine X.next ?_
      refine V.seq ?_
      refine V.block ?_
      refine V.seq ?_
      refine V.region ?_
      refine O.p rfl rfl rfl (Pu.move rfl rfl) ?_
      refine O.p rfl rfl rfl (Pu.move rfl rfl) ?_
      refine O.p rfl rfl rfl (Pu.move rfl rfl) ?_
      refine O.p rfl rfl rfl (Pu.buildA (cs := [.int .i64 (↑i1 : Int), .int .i64 (↑j1 : Int), .int .i64 (↑p : Int)]) (v := B3.v ((↑i1 : Int), (↑j1 : Int), (↑p : Int))) rfl rfl Try.underlying75 zr75 sz2 rfl (by kernel_rfl)) ?_
      refine O.e rfl rfl rfl (Ef.alloc rfl zr75 rfl) ?_
      rintro _ _ ⟨b1, rfl, rfl⟩
      refine O.s rfl rfl (Ef.storeAll 0 rfl sz75 rfl rfl rfl rfl (by simp [Value.oneCell']) rfl) ?_
      rintro _ _ rfl
      refine O.nil ?_
      refine X.next ?_
      refine V.seq ?_
      refine V.seq ?_
      refine V.draw mo (by kernel_rfl) (fun hwf => ?_)
      refine D.p 0 rfl rfl rfl rfl rfl rfl (Pu.move rfl rfl) ?_
      refine D.p 1 rfl rfl rfl rfl rfl rfl (Pu.nilCheck rfl rfl) ?_
      refine D.p 2 rfl rfl rfl rfl rfl rfl (Pu.fieldAddr 1 rfl Try.underlying189 rfl sz119 rfl rfl) ?_
      refine D.p 3 rfl rfl rfl rfl rfl rfl (Pu.load rfl pl119 rfl (Ld.blk 1 rfl rfl)) ?_
      refine D.p 4 rfl rfl rfl rfl rfl rfl (Pu.loadAgg' (v := B3.v (b3N i1 j1 p)) rfl rfl ag75 sz75 rfl rfl (Ld.whole 0 rfl)) ?_
      refine D.eff hwf (e := 5) rfl rfl rfl rfl (Ef.callP call213 rfl rfl (fun w hw => isLeft_ok _ _ (b3N i1 j1 p) w (GridAt.of (i := 2) hw (by exact rfl)) (by unfold b3N; simp only; omega))) rfl rfl rfl ?_
      rintro _ _ ⟨rfl, rfl⟩ hs
      refine ⟨fun w hw => hw, ?_⟩
      refine D.p 6 rfl rfl rfl rfl rfl rfl (Pu.not rfl rfl) ?_
      refine D.done hwf rfl ?_
      refine X.next ?_
      refine V.condNot rfl (fun c3 => ?_) (fun c3 => ?_)
      · skip
        rw [rel_left hrel2 (by omega) (by omega) (by omega) hI.left] at c3
        refine V.exit ?_
        refine X.thenExit ?_
        refine X.blockHit ?_
        refine X.next ?_
        refine V.region ?_
        refine O.p rfl rfl rfl (Pu.move rfl rfl) ?_
        refine O.p rfl rfl rfl (Pu.add64 (r := ((p + 1 : Nat) : Int)) rfl (by omega) rfl rfl rfl) ?_
        refine O.p rfl rfl rfl (Pu.assign rfl rfl) ?_
        refine O.nil ?_
        refine X.map (fun w hw => CompK.mk hrel2 (hw.sub (Sub.keep 1 rfl (Sub.keep 1 rfl (Sub.keep 1 rfl (Sub.keep 1 rfl (Sub.keep 0 rfl (Sub.refl _)))))))) ?_
        exact X.back3 (p + 1, l2) (by (try dsimp only); exact ⟨by omega, by omega, by rw [compJ_no (by simpa using c3)]; exact hgo, by rw [compJ_no (by simpa using c3)]; exact hl2⟩) (by first | omega | (dsimp only; omega)) (Ent.cons rfl (Ent.nil _)) (Ent.cons (t := 0) rfl (Ent.cons (t := 1) rfl (Ent.cons (t := 5) rfl (Ent.nil _)))) (Sub.keep 0 rfl (Sub.drop (Sub.refl _)))
      · skip
        rw [rel_left hrel2 (by omega) (by omega) (by omega) hI.left] at c3
        have hlp := leftN_put (v := v) (m := m) (a := i1) (b := j1) (c := p) (by omega) (by omega) (by omega) (by omega) hI.ab hI.bv hI.left
        have hsM := step_M2 hgo c3 (by omega) hM hl2
        have hll := congrArg List.length hl2
        rw [List.length_append] at hll
        refine V.skip ?_
        refine X.next ?_
        refine V.seq ?_
        refine V.drawS mo (by kernel_rfl) (Sub.keep 1 rfl (Sub.keep 0 rfl (Sub.drop (Sub.drop (Sub.drop (Sub.refl _)))))) (fun hwf => ?_)
        refine D.p 0 rfl rfl rfl rfl rfl rfl (Pu.move rfl rfl) ?_
        refine D.p 1 rfl rfl rfl rfl rfl rfl (Pu.nilCheck rfl rfl) ?_
        refine D.p 2 rfl rfl rfl rfl rfl rfl (Pu.fieldAddr 1 rfl Try.underlying189 rfl sz119 rfl rfl) ?_
        refine D.p 3 rfl rfl rfl rfl rfl rfl (Pu.load rfl pl119 rfl (Ld.blk 0 rfl rfl)) ?_
        refine D.p 4 rfl rfl rfl rfl rfl rfl (Pu.loadAgg' (v := B3.v (b3N i1 j1 p)) rfl rfl ag75 sz75 rfl rfl (Ld.whole 1 rfl)) ?_
        refine D.eff hwf (e := 5) rfl rfl rfl rfl (Ef.callM 2 call214 rfl rfl rfl (fun H _ => put_true _ _ (b3N i1 j1 p) _ H (by unfold b3N; simp only; omega))) rfl rfl rfl ?_
        rintro _ _ ⟨rfl, rfl⟩ hs
        refine ⟨fun w hw => hw.sub (Sub.keep 1 rfl (Sub.keep 0 rfl (Sub.drop (Sub.drop (Sub.drop (Sub.refl _)))))), ?_⟩
        refine D.done hwf rfl ?_
        refine X.next ?_
        refine V.seq ?_
        refine V.drawS mo (by kernel_rfl) (Sub.keep 1 rfl (Sub.keep 0 rfl (Sub.drop (Sub.drop (Sub.drop (Sub.refl _)))))) (fun hwf => ?_)
        refine D.p 0 rfl rfl rfl rfl rfl rfl (Pu.move rfl rfl) ?_
        refine D.p 1 rfl rfl rfl rfl rfl rfl (Pu.move rfl rfl) ?_
        refine D.p 2 rfl rfl rfl rfl rfl rfl (Pu.nilCheck rfl rfl) ?_
        refine D.p 3 rfl rfl rfl rfl rfl rfl (Pu.fieldAddr 2 rfl Try.underlying189 rfl sz28 rfl rfl) ?_
        refine D.p 4 rfl rfl rfl rfl rfl rfl (Pu.load rfl pl28 rfl (Ld.blk 0 rfl rfl)) ?_
        refine D.p 5 rfl rfl rfl rfl rfl rfl (Pu.loadAgg' (v := B3.v (b3N i1 j1 p)) rfl rfl ag75 sz75 rfl rfl (Ld.whole 1 rfl)) ?_
        refine D.p 8 rfl rfl rfl rfl rfl rfl (Pu.nilCheck rfl rfl) ?_
        refine D.p 9 rfl rfl rfl rfl rfl rfl (Pu.fieldAddr 2 rfl Try.underlying189 rfl sz28 rfl rfl) ?_
        refine D.eff hwf (e := 6) rfl rfl rfl rfl (Ef.build B3C ([(b3N i1 j1 p)] : List B3) rfl Try.underlying28 inf75 rfl rfl rfl (by first | decide | (simp; done)) (by kernel_rfl)) rfl rfl rfl ?_
        rintro _ _ ⟨A1, hA1, rfl, rfl⟩ hs
        refine ⟨fun w hw => hw.sub (Sub.keep 2 rfl (Sub.keep 1 rfl (Sub.drop (Sub.drop (Sub.drop (Sub.drop (Sub.refl _))))))), ?_⟩
        refine D.eff hwf (e := 7) rfl rfl rfl rfl (Ef.append (xs := xs) (ys := ([(b3N i1 j1 p)] : List B3)) 4 rfl Try.underlying28 inf75 rfl rfl rfl rfl rfl rfl hA1 (Ld.own 0 (by exact rfl)) (by simp only [List.length_append, List.length_cons, List.length_nil] at *; omega) (by decide)) rfl rfl rfl ?_
        rintro _ _ ⟨A2, k1, rfl, rfl, hA2⟩ hs
        replace hA2 := hA2 (.inr (by simp))
        refine ⟨fun w hw => hw.sub (Sub.keep 2 rfl (Sub.keep 1 rfl (Sub.drop (Sub.drop (Sub.drop (Sub.drop (Sub.refl _))))))), ?_⟩
        refine D.effX (Hs' := []) hwf (e := 10) rfl rfl rfl rfl (Ef.store1 (cs' := [_, _, _, _]) 2 rfl sz28 rfl rfl rfl rfl rfl (ltb rfl) rfl) rfl [8] rfl (List.forall_mem_cons.2 ⟨⟨63, _, rfl, rfl, Det.of rfl rfl rfl (Pu.nilCheck rfl rfl)⟩, List.forall_mem_nil _⟩) ?_
        rintro _ _ rfl
        refine ⟨fun w hw => hw.sub (Sub.nil _), ?_⟩
        refine D.done hwf rfl ?_
        refine X.next ?_
        refine V.seq ?_
        refine V.map (fun w hw => CompK.mk (rel_put hrel2 (by omega) (by omega) (by omega) hv) (hw.sub (Sub.keep 2 rfl (Sub.keep 2 rfl (Sub.keep 2 rfl (Sub.keep 2 rfl (Sub.keep 0 rfl (Sub.keep 0 rfl (Sub.refl _))))))))) ?_
        refine V.region ?_
        refine O.p rfl rfl rfl (Pu.move rfl rfl) ?_
        refine O.p rfl rfl rfl (Pu.move rfl rfl) ?_
        refine O.e rfl rfl rfl (Ef.call call196 rfl rfl (Does.pre (fun w hw => hw.sub (Sub.keep 0 rfl (Sub.keep 0 rfl (Sub.keep 0 rfl (Sub.refl _))))) (ih (n - 1) (by omega)  cb gb v gf caps E cont okL M (putM m i1 j1 p) (xs ++ [(b3N i1 j1 p)]) l2 i1 w0 _   hok hcb hv (by omega) (fun i j h1 h2 h3 => (usd_put (by omega) (by omega) (by omega) (by omega) (by omega)).2 (.inl (hI.rows i j h1 h2 h3))) (by omega) hsM hMM (step_ok c3 (by omega) hokl) (by simp only [List.length_append, List.length_singleton]; omega)))) ?_
        rintro _ _ rfl
        refine O.sep ?_
        refine O.pur ?_
        rintro rfl
        refine O.p rfl rfl rfl (Pu.assign rfl rfl) ?_
        refine O.nil ?_
        refine X.next ?_
        refine V.seq ?_
        refine V.compK (fun xA3 xk3 G3 hrel3 => ?_)
        refine V.drawS mo (by kernel_rfl) (Sub.keep 0 rfl (Sub.keep 4 rfl (Sub.drop (Sub.drop (Sub.drop (Sub.drop (Sub.refl _))))))) (fun hwf => ?_)
        refine D.p 0 rfl rfl rfl rfl rfl rfl (Pu.move rfl rfl) ?_
        refine D.p 1 rfl rfl rfl rfl rfl rfl (Pu.nilCheck rfl rfl) ?_
        refine D.p 2 rfl rfl rfl rfl rfl rfl (Pu.fieldAddr 1 rfl Try.underlying189 rfl sz119 rfl rfl) ?_
        refine D.p 3 rfl rfl rfl rfl rfl rfl (Pu.load rfl pl119 rfl (Ld.blk 0 rfl rfl)) ?_
        refine D.p 4 rfl rfl rfl rfl rfl rfl (Pu.loadAgg' (v := B3.v (b3N i1 j1 p)) rfl rfl ag75 sz75 rfl rfl (Ld.whole 1 rfl)) ?_
        refine D.eff hwf (e := 5) rfl rfl rfl rfl (Ef.callM 1 call214 rfl rfl rfl (fun H _ => put_false _ _ (b3N i1 j1 p) _ H (by unfold b3N; simp only; omega))) rfl rfl rfl ?_
        rintro _ _ ⟨rfl, rfl⟩ hs
        refine ⟨fun w hw => hw.sub (Sub.keep 0 rfl (Sub.keep 4 rfl (Sub.drop (Sub.drop (Sub.drop (Sub.drop (Sub.refl _))))))), ?_⟩
        refine D.done hwf rfl ?_
        refine X.next ?_
        refine V.seq ?_
        have hxb : (xs ++ [b3N i1 j1 p]).length = xs.length + 1 := by simp
        refine V.fact (fun w hw => Own.cap hw (i := 2) rfl) (fun hcap => ?_)
        refine V.draw mo (by kernel_rfl) (fun hwf => ?_)
        refine D.p 0 rfl rfl rfl rfl rfl rfl (Pu.move rfl rfl) ?_
        refine D.p 1 rfl rfl rfl rfl rfl rfl (Pu.move rfl rfl) ?_
        refine D.p 2 rfl rfl rfl rfl rfl rfl (Pu.nilCheck rfl rfl) ?_
        refine D.p 3 rfl rfl rfl rfl rfl rfl (Pu.fieldAddr 2 rfl Try.underlying189 rfl sz28 rfl rfl) ?_
        refine D.p 4 rfl rfl rfl rfl rfl rfl (Pu.load rfl pl28 rfl (Ld.blk 0 rfl rfl)) ?_
        refine D.p 5 rfl rfl rfl rfl rfl rfl (Pu.move rfl rfl) ?_
        refine D.p 6 rfl rfl rfl rfl rfl rfl (Pu.nilCheck rfl rfl) ?_
        refine D.p 7 rfl rfl rfl rfl rfl rfl (Pu.fieldAddr 2 rfl Try.underlying189 rfl sz28 rfl rfl) ?_
        refine D.p 8 rfl rfl rfl rfl rfl rfl (Pu.load rfl pl28 rfl (Ld.blk 0 rfl rfl)) ?_
        refine D.p 9 rfl rfl rfl rfl rfl rfl (Pu.len rfl Try.underlying28 rfl) ?_
        refine D.p 10 rfl rfl rfl rfl rfl rfl (Pu.sub64 rfl (by omega) rfl rfl rfl) ?_
        refine D.p 11 rfl rfl rfl rfl rfl rfl (Pu.sliceH ((((↑((xs ++ [(b3N i1 j1 p)]).length) : Int) - (1 : Int))).toNat) rfl Try.underlying28 sz75 rfl rfl (by omega) (by omega)) ?_
        refine D.p 12 rfl rfl rfl rfl rfl rfl (Pu.nilCheck rfl rfl) ?_
        refine D.p 13 rfl rfl rfl rfl rfl rfl (Pu.fieldAddr 2 rfl Try.underlying189 rfl sz28 rfl rfl) ?_
        refine D.effX (Hs' := []) hwf (e := 14) rfl rfl rfl rfl (Ef.store1 (cs' := [_, _, _, _]) 0 rfl sz28 rfl rfl rfl rfl rfl (ltb rfl) rfl) rfl [12] rfl (List.forall_mem_cons.2 ⟨⟨86, _, rfl, rfl, Det.of rfl rfl rfl (Pu.nilCheck rfl rfl)⟩, List.forall_mem_nil _⟩) ?_
        rintro _ _ rfl
        refine ⟨fun w hw => hw.sub (Sub.nil _), ?_⟩
        refine D.done hwf rfl ?_
        refine X.next ?_
        refine V.seq ?_
        refine V.region ?_
        refine O.p rfl rfl rfl (Pu.move rfl rfl) ?_
        refine O.p rfl rfl rfl (Pu.not rfl rfl) ?_
        refine O.nil ?_
        refine X.next ?_
        refine V.condNot rfl (fun c4 => ?_) (fun c4 => ?_)
        · skip
          refine V.seq ?_
          refine V.map (fun w hw => CompK.mk' (rel_del hrel3 (by omega) (by omega) (by omega) hv hI.left c3) (by simp only [List.length_append, List.length_singleton]; omega) (hw.sub (Sub.keep 0 rfl (Sub.keep 0 rfl (Sub.keep 0 rfl (Sub.keep 0 rfl (Sub.keep 0 rfl (Sub.keep 0 rfl (Sub.refl _))))))))) ?_
          refine V.region ?_
          refine O.p rfl rfl rfl (Pu.assign rfl rfl) ?_
          refine O.nil ?_
          refine X.next ?_
          refine V.ret ?_
          refine X.blockRet ?_
          refine X.thenRet ?_
          refine X.thenRet ?_
          refine X.blockRet ?_
          refine X.thenRet ?_
          refine X.ret1 rfl rfl ?_
          exact fun w hw => St.unsep (St.addPur (boolF (by rw [hcm, (step_stop hgo c3 (by omega) (by rw [hl2, List.length_append] at c4; exact c4)).1]; decide)) (hw.sub (Sub.cons 0 rfl (fun w F h => by rw [hcm, (step_stop hgo c3 (by omega) (by rw [hl2, List.length_append] at c4; exact c4)).2, ← List.append_assoc, ← hl2, ← hll]; exact h) (Sub.drop (Sub.drop (Sub.refl _))))))
        · skip
          refine V.skip ?_
          refine X.blockNormal ?_
          refine X.next ?_
          refine V.region ?_
          refine O.p rfl rfl rfl (Pu.move rfl rfl) ?_
          refine O.p rfl rfl rfl (Pu.add64 (r := ((p + 1 : Nat) : Int)) rfl (by omega) rfl rfl rfl) ?_
          refine O.p rfl rfl rfl (Pu.assign rfl rfl) ?_
          refine O.nil ?_
          refine X.map (fun w hw => CompK.mk' (rel_del hrel3 (by omega) (by omega) (by omega) hv hI.left c3) (by simp only [List.length_append, List.length_singleton]; omega) (hw.sub (Sub.keep 0 rfl (Sub.keep 0 rfl (Sub.keep 0 rfl (Sub.keep 0 rfl (Sub.keep 0 rfl (Sub.keep 0 rfl (Sub.refl _))))))))) ?_
          exact X.back3 (p + 1, (l2 ++ runC cont l2.length (leaf (xs ++ [(b3N i1 j1 p)]) (compM (n - 1) v (putM m i1 j1 p))))) (by (try dsimp only); exact ⟨by omega, by omega, step_go hgo c3 (by rw [hl2, List.length_append] at c4; exact c4), by rw [hl2, leaf_step c3, runC_all (by rw [hl2] at c4; exact c4), List.append_assoc]⟩) (by first | omega | (dsimp only; omega)) (Ent.cons rfl (Ent.nil _)) (Ent.cons (t := 0) rfl (Ent.cons (t := 1) rfl (Ent.cons (t := 5) rfl (Ent.nil _)))) (Sub.keep 0 rfl (Sub.drop (Sub.drop (Sub.refl _))))
    · skip
      refine V.exit ?_
      refine X.thenExit ?_
      refine X.thenExit ?_
      refine X.blockHit ?_
      refine X.next ?_
      refine V.seq ?_
      refine V.map (fun w hw => CompK.mk hrel2 (hw.sub (Sub.keep 0 rfl (Sub.keep 0 rfl (Sub.keep 0 rfl (Sub.keep 0 rfl (Sub.refl _))))))) ?_
      refine V.region ?_
      refine O.p rfl rfl rfl (Pu.assign rfl rfl) ?_
      refine O.nil ?_
      refine X.next ?_
      refine V.ret ?_
      refine X.ret1 rfl rfl ?_
      exact fun w hw => St.unsep (St.addPur (boolT (by have e : p = v := (by omega); subst e; rw [hcm]; exact hgo)) (hw.sub (Sub.cons 0 rfl (fun w F h => by have e : p = v := (by omega); subst e; rw [hcm, runC_all hgo, ← hl2]; exact h) (Sub.refl _))))

theorem from_ok (n : Nat) : L_from n := by
  induction n using Nat.strongRecOn with
  | _ n ih => exact fun cb gb v gf caps E cont okL M m xs l a w0 H hok hcb hv ha hrows hn hM hMM hokl hxs => from_step n ih cb gb v gf caps E cont okL M m xs l a w0 H hok hcb hv ha hrows hn hM hMM hokl hxs
end Go.Proofs.Ytjpfngmoabnffaa
