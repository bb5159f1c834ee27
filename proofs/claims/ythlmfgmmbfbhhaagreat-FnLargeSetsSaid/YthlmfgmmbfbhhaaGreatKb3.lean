/-
  Contracts, part 3.
-/
import Derived.Test.YthlmfgmmbfbhhaaGreatKb2
set_option linter.unusedVariables false
set_option linter.unusedSimpArgs false
namespace Go.Proofs.YthlmfgmmbfbhhaaGreat
open Go Go.RowKit Go.Vc Go.Proofs
set_option maxRecDepth 100000 in
set_option maxHeartbeats 1000000 in
theorem from_step (n : Nat) (ih : ∀ n', n' < n → L_from n') (cb gb v gf : Nat) (caps : Array Value) (E : List (List B3) → Assn) (cont : Nat → Bool) (okL : List B3 → Prop) (M m : Nat) (xs : List B3) (l : List (List B3)) (a : Nat) (w0 : World) (H : List Assn) (hok : CallOk Tryz.prog gf) (hcb : CallB Tryz.prog w0 65 gf caps E cont okL M) (hv : v ≤ 15) (ha : a ≤ v) (hrows : ∀ i j, i < a → i < j → j < v → usd m i j = true) (hn : leftN v m ≤ n) (hM : l.length + (runC cont l.length (leaf xs (compM n v m))).length ≤ M) (hMM : M ≤ 10000000000) (hokl : ∀ q ∈ leaf xs (compM n v m), okL q) (hxs : xs.length + n ≤ 1000) : Does Tryz.prog 149 [.pointer (some ⟨cb, 0, none⟩), .int .i64 (a : Int)] w0 (CompK 164 65 176 cb gb v (.func (.func gf) #[] caps) E m xs l :: H) (fun r => [.sep (.pur (r = .bool (decide (goesC cont l.length (leaf xs (compM n v m)) = true)))) (CompK 164 65 176 cb gb v (.func (.func gf) #[] caps) E m xs (l ++ runC cont l.length (leaf xs (compM n v m))))] ++ H) := by
 refine Does.enter Tryz.func149 rfl rfl [(0, .pointer (some ⟨cb, 0, none⟩)), (1, .int .i64 (a : Int))] rfl (V.seq (V.region (O.m rfl (O.nil (X.next (V.seq (V.compK (fun xA1 xk1 G1 hrel1 => V.region (O.m rfl (O.m rfl (O.f rfl (Ef.call1 call161 rfl rfl (fun w hw => next_ok  cb gb v G1 m _ _ a w (Blk.rdb hw (i := 0) (by exact rfl)) (GridAt.of (i := 1) hw (by exact rfl))  (by first | assumption | omega | (try dsimp only at *; omega)) (by first | assumption | omega | (try dsimp only at *; omega)) (by first | assumption | omega | (try dsimp only at *; omega)) (by first | assumption | omega | (try dsimp only at *; omega)))) ?_)))))))))))
 rintro _ _ rfl
 refine O.exi (fun i1 => O.exi (fun j1 => O.pur ?_))
 rintro ⟨rfl, hi1_1⟩
 refine O.m rfl (O.m rfl (O.m rfl (O.m rfl (O.m rfl (O.m rfl (O.m rfl (O.nil (X.next (V.seq (V.seq (V.region ?_)))))))))))
 refine O.m rfl (O.q rfl (Pu.not rfl rfl) (O.nil (X.next (V.condNot rfl (fun c1 => ?_) (fun c1 => ?_)))))
 ·have hnone : nextM v m = none := by cases h : nextM v m with | none => rfl | some q => rw [h] at c1; exact absurd rfl c1
  refine V.seq (V.ent (Ent.cons (t := 0) rfl (Ent.cons (t := 1) rfl (Ent.cons (t := 5) rfl (Ent.nil _)))) (V.drawS mo (by kernel_rfl) (Sub.k (Sub.drop (Sub.drop (Sub.drop (Sub.refl _))))) (fun hwf => D.m 0 rfl (D.m 1 rfl (D.q 2 rfl (Pu.fieldAddr 3 rfl Tryz.underlying164 rfl sz115 rfl rfl) (D.q 3 rfl (Pu.load rfl pl115 rfl (Ld.blk 0 rfl rfl)) (D.m 4 rfl (D.m 5 rfl (D.q 6 rfl (Pu.fieldAddr 2 rfl Tryz.underlying164 rfl sz24 rfl rfl) (D.q 7 rfl (Pu.load rfl pl24 rfl (Ld.blk 0 rfl rfl)) (D.f hwf 8 rfl (Ef.callV rfl rfl hok rfl (Does.pre (fun w hw => hw.sub (Sub.keep 2 rfl (Sub.keep 2 rfl (Sub.k (Sub.k (Sub.refl _)))))) (hcb l xs _ _ _ (by rw [leaf_none hnone, runC_one] at hM; simp only [List.length_singleton] at hM; omega) (hokl _ (by rw [leaf_none hnone]; exact List.mem_singleton.2 rfl))))) ?_)))))))))))
  rintro _ _ rfl hs
  refine ⟨fun w hw => hw.tail.sub (Sub.k (Sub.drop (Sub.refl _))), (D.sep (D.pur1 ?_))⟩
  rintro rfl
  exact D.sep (D.m 9 rfl (D.done hwf rfl (X.next (V.ret (X.thenRet (X.map (fun w hw => CompK.mk hrel1 (hw.sub (Sub.keep 2 rfl (Sub.keep 2 rfl (Sub.k (Sub.k (Sub.refl _))))))) (X.ret1 rfl rfl (fun w hw => St.unsep (St.addPur (boolE (by rw [leaf_none hnone, goesC_one])) (hw.sub (Sub.cons 0 rfl (fun w F h => by rw [leaf_none hnone, runC_one]; exact h) (Sub.refl _))))))))))))
 ·obtain ⟨⟨x, y⟩, hxy⟩ := Option.isSome_iff_exists.1 c1
  obtain ⟨e1, e2, hI⟩ := hi1_1 x y hxy
  subst e1 e2
  have hn0 := left_pos hI hn
  have hcm := comp_some' hxy hn0
  rw [hcm] at hM hokl
  have hab := hI.ab
  have hbv := hI.bv
  refine V.skip (X.next (V.seq (V.seq (V.map (fun w hw => CompK.mk hrel1 (hw.sub (Sub.k (Sub.k (Sub.k (Sub.k (Sub.refl _))))))) (V.region (O.m rfl (O.q rfl (Pu.add64 (r := ((j1 + 1 : Nat) : Int)) rfl (by omega) rfl rfl rfl) (O.m rfl (O.nil (X.next (V.block ?_)))))))))))
  refine V.loop3 (β := Nat × (List (List B3))) (fun x => [(7, .int .i64 (x.1 : Int))]) _ (fun x => [CompK 164 65 176 cb gb v (.func (.func gf) #[] caps) E m xs x.2]) _ (fun x => j1 < x.1 ∧ x.1 ≤ v ∧ goesC cont l.length (leaf xs (compJ (n - 1) v m i1 j1 x.1)) = true ∧ x.2 = l ++ (leaf xs (compJ (n - 1) v m i1 j1 x.1))) (fun x => v - x.1) (j1 + 1, l) (by (try dsimp only); exact ⟨by omega, by omega, by rw [compJ_low (by omega)]; rfl, by rw [compJ_low (by omega)]; simp [leaf]⟩) (Ent.cons rfl (Ent.nil _)) (Ent.cons (t := 0) rfl (Ent.cons (t := 1) rfl (Ent.cons (t := 5) rfl (Ent.nil _)))) (Sub.k (Sub.refl _)) ?_
  rintro ⟨p, l2⟩ ⟨hp0, hp, hgo, hl2⟩
  dsimp only at hp0 hp hgo hl2 ⊢
  refine V.seq (V.seq (V.compK (fun xA2 xk2 G2 hrel2 => V.region (O.m rfl (O.m rfl (O.m rfl (O.q rfl (Pu.fieldAddr 0 rfl Tryz.underlying164 rfl sz2 rfl rfl) (O.q rfl (Pu.load rfl pl2 rfl (Ld.blk 0 rfl rfl)) (O.q rfl (Pu.lss rfl rfl rfl) (O.nil (X.next (V.condD rfl (fun c2 => ?_) (fun c2 => ?_)))))))))))))
  ·refine V.skip (X.next (V.seq (V.block (V.seq (V.region (O.m rfl (O.m rfl (O.m rfl (O.q rfl (Pu.buildA (cs := [.int .i64 (↑i1 : Int), .int .i64 (↑j1 : Int), .int .i64 (↑p : Int)]) (v := B3.v ((↑i1 : Int), (↑j1 : Int), (↑p : Int))) rfl rfl Tryz.underlying65 zr65 sz2 rfl (by kernel_rfl)) (O.f rfl (Ef.alloc rfl zr65 rfl) ?_))))))))))
   rintro _ _ ⟨b1, rfl, rfl⟩
   refine O.s rfl rfl (Ef.storeAll 0 rfl sz65 rfl rfl rfl rfl (by simp [Value.oneCell']) rfl) ?_
   rintro _ _ rfl
   refine O.nil (X.next (V.seq (V.seq (V.draw mo (by kernel_rfl) (fun hwf => D.m 0 rfl (D.m 1 rfl (D.q 2 rfl (Pu.fieldAddr 1 rfl Tryz.underlying164 rfl sz126 rfl rfl) (D.q 3 rfl (Pu.load rfl pl126 rfl (Ld.blk 1 rfl rfl)) (D.q 4 rfl (Pu.loadAgg' (v := B3.v (b3N i1 j1 p)) rfl rfl ag65 sz65 rfl rfl (Ld.whole 0 rfl)) (D.f hwf 5 rfl (Ef.callP call141 rfl rfl (fun w hw => isLeft_ok _ _ (b3N i1 j1 p) w (GridAt.of (i := 2) hw (by exact rfl)) (by unfold b3N; simp only; omega))) ?_))))))))))
   rintro _ _ ⟨rfl, rfl⟩ hs
   refine ⟨fun w hw => hw, (D.q 6 rfl (Pu.not rfl rfl) (D.done hwf rfl (X.next (V.condNot rfl (fun c3 => ?_) (fun c3 => ?_)))))⟩
   ·rw [rel_left hrel2 (by omega) (by omega) (by omega) hI.left] at c3
    exact V.exit (X.thenExit (X.blockHit (X.next (V.region (O.m rfl (O.q rfl (Pu.add64 (r := ((p + 1 : Nat) : Int)) rfl (by omega) rfl rfl rfl) (O.m rfl (O.nil (X.map (fun w hw => CompK.mk hrel2 (hw.sub (Sub.keep 1 rfl (Sub.keep 1 rfl (Sub.keep 1 rfl (Sub.keep 1 rfl (Sub.k (Sub.refl _)))))))) (X.back3 (p + 1, l2) (by (try dsimp only); exact ⟨by omega, by omega, by rw [compJ_no (by simpa using c3)]; exact hgo, by rw [compJ_no (by simpa using c3)]; exact hl2⟩) (by first | omega | (dsimp only; omega)) (Ent.cons rfl (Ent.nil _)) (Ent.cons (t := 0) rfl (Ent.cons (t := 1) rfl (Ent.cons (t := 5) rfl (Ent.nil _)))) (Sub.k (Sub.drop (Sub.refl _)))))))))))))
   ·rw [rel_left hrel2 (by omega) (by omega) (by omega) hI.left] at c3
    have hlp := leftN_put (v := v) (m := m) (a := i1) (b := j1) (c := p) (by omega) (by omega) (by omega) (by omega) hI.ab hI.bv hI.left
    have hsM := step_M2 hgo c3 (by omega) hM hl2
    have hll := congrArg List.length hl2
    rw [List.length_append] at hll
    refine V.skip (X.next (V.seq (V.drawS mo (by kernel_rfl) (Sub.keep 1 rfl (Sub.k (Sub.drop (Sub.drop (Sub.drop (Sub.refl _)))))) (fun hwf => D.m 0 rfl (D.m 1 rfl (D.q 2 rfl (Pu.fieldAddr 1 rfl Tryz.underlying164 rfl sz126 rfl rfl) (D.q 3 rfl (Pu.load rfl pl126 rfl (Ld.blk 0 rfl rfl)) (D.q 4 rfl (Pu.loadAgg' (v := B3.v (b3N i1 j1 p)) rfl rfl ag65 sz65 rfl rfl (Ld.whole 1 rfl)) (D.f hwf 5 rfl (Ef.callM 2 call142 rfl rfl rfl (fun H _ => put_true _ _ (b3N i1 j1 p) _ H (by unfold b3N; simp only; omega))) ?_)))))))))
    rintro _ _ ⟨rfl, rfl⟩ hs
    refine ⟨fun w hw => hw.sub (Sub.keep 1 rfl (Sub.k (Sub.drop (Sub.drop (Sub.drop (Sub.refl _)))))), (D.done hwf rfl (X.next (V.seq (V.drawS mo (by kernel_rfl) (Sub.keep 1 rfl (Sub.k (Sub.drop (Sub.drop (Sub.drop (Sub.refl _)))))) (fun hwf => D.m 0 rfl (D.m 1 rfl (D.m 2 rfl (D.q 3 rfl (Pu.fieldAddr 2 rfl Tryz.underlying164 rfl sz24 rfl rfl) (D.q 4 rfl (Pu.load rfl pl24 rfl (Ld.blk 0 rfl rfl)) (D.q 5 rfl (Pu.loadAgg' (v := B3.v (b3N i1 j1 p)) rfl rfl ag65 sz65 rfl rfl (Ld.whole 1 rfl)) (D.m 8 rfl ?_)))))))))))⟩
    refine D.q 9 rfl (Pu.fieldAddr 2 rfl Tryz.underlying164 rfl sz24 rfl rfl) (D.f hwf 6 rfl (Ef.build B3C ([(b3N i1 j1 p)] : List B3) rfl Tryz.underlying24 inf65 rfl rfl rfl (by first | decide | (simp; done)) (by kernel_rfl)) ?_)
    rintro _ _ ⟨A1, hA1, rfl, rfl⟩ hs
    refine ⟨fun w hw => hw.sub (Sub.keep 2 rfl (Sub.keep 1 rfl (Sub.drop (Sub.drop (Sub.drop (Sub.drop (Sub.refl _))))))), (D.f hwf 7 rfl (Ef.append (xs := xs) (ys := ([(b3N i1 j1 p)] : List B3)) 4 rfl Tryz.underlying24 inf65 rfl rfl rfl rfl rfl rfl hA1 (Ld.own 0 (by exact rfl)) (by simp only [List.length_append, List.length_cons, List.length_nil] at *; omega) (by decide)) ?_)⟩
    rintro _ _ ⟨A2, k1, rfl, rfl, hA2⟩ hs
    replace hA2 := hA2 (.inr (by simp))
    refine ⟨fun w hw => hw.sub (Sub.keep 2 rfl (Sub.keep 1 rfl (Sub.drop (Sub.drop (Sub.drop (Sub.drop (Sub.refl _))))))), (D.effX (Hs' := []) hwf (e := 10) rfl rfl rfl rfl (Ef.store1 (cs' := [_, _, _, _]) 2 rfl sz24 rfl rfl rfl rfl rfl (ltb rfl) rfl) rfl [8] rfl (List.forall_mem_cons.2 ⟨⟨63, _, rfl, rfl, Det.of rfl rfl rfl (Pu.nilCheck rfl rfl)⟩, List.forall_mem_nil _⟩) ?_)⟩
    rintro _ _ rfl
    refine ⟨fun w hw => hw.sub (Sub.nil _), (D.done hwf rfl (X.next (V.seq (V.map (fun w hw => CompK.mk (rel_put hrel2 (by omega) (by omega) (by omega) hv) (hw.sub (Sub.keep 2 rfl (Sub.keep 2 rfl (Sub.keep 2 rfl (Sub.keep 2 rfl (Sub.k (Sub.k (Sub.refl _))))))))) (V.region (O.m rfl (O.m rfl (O.f rfl (Ef.call call149 rfl rfl (Does.pre (fun w hw => hw.sub (Sub.k (Sub.k (Sub.k (Sub.refl _))))) (ih (n - 1) (by omega)  cb gb v gf caps E cont okL M (putM m i1 j1 p) (xs ++ [(b3N i1 j1 p)]) l2 i1 w0 _   hok hcb hv (by omega) (fun i j h1 h2 h3 => (usd_put (by omega) (by omega) (by omega) (by omega) (by omega)).2 (.inl (hI.rows i j h1 h2 h3))) (by omega) hsM hMM (step_ok c3 (by omega) hokl) (by simp only [List.length_append, List.length_singleton]; omega)))) ?_))))))))⟩
    rintro _ _ rfl
    refine O.sep (O.pur ?_)
    rintro rfl
    refine O.m rfl (O.nil (X.next (V.seq (V.compK (fun xA3 xk3 G3 hrel3 => V.drawS mo (by kernel_rfl) (Sub.k (Sub.keep 4 rfl (Sub.drop (Sub.drop (Sub.drop (Sub.drop (Sub.refl _))))))) (fun hwf => D.m 0 rfl (D.m 1 rfl (D.q 2 rfl (Pu.fieldAddr 1 rfl Tryz.underlying164 rfl sz126 rfl rfl) (D.q 3 rfl (Pu.load rfl pl126 rfl (Ld.blk 0 rfl rfl)) (D.q 4 rfl (Pu.loadAgg' (v := B3.v (b3N i1 j1 p)) rfl rfl ag65 sz65 rfl rfl (Ld.whole 1 rfl)) (D.f hwf 5 rfl (Ef.callM 1 call142 rfl rfl rfl (fun H _ => put_false _ _ (b3N i1 j1 p) _ H (by unfold b3N; simp only; omega))) ?_)))))))))))
    rintro _ _ ⟨rfl, rfl⟩ hs
    refine ⟨fun w hw => hw.sub (Sub.k (Sub.keep 4 rfl (Sub.drop (Sub.drop (Sub.drop (Sub.drop (Sub.refl _))))))), (D.done hwf rfl (X.next (V.seq ?_)))⟩
    have hxb : (xs ++ [b3N i1 j1 p]).length = xs.length + 1 := by simp
    refine V.fact (fun w hw => Own.cap hw (i := 2) rfl) (fun hcap => V.draw mo (by kernel_rfl) (fun hwf => D.m 0 rfl (D.m 1 rfl (D.m 2 rfl (D.q 3 rfl (Pu.fieldAddr 2 rfl Tryz.underlying164 rfl sz24 rfl rfl) (D.q 4 rfl (Pu.load rfl pl24 rfl (Ld.blk 0 rfl rfl)) (D.m 5 rfl (D.m 6 rfl (D.q 7 rfl (Pu.fieldAddr 2 rfl Tryz.underlying164 rfl sz24 rfl rfl) (D.q 8 rfl (Pu.load rfl pl24 rfl (Ld.blk 0 rfl rfl)) (D.q 9 rfl (Pu.len rfl Tryz.underlying24 rfl) ?_)))))))))))
    refine D.q 10 rfl (Pu.sub64 rfl (by omega) rfl rfl rfl) (D.q 11 rfl (Pu.sliceH ((((↑((xs ++ [(b3N i1 j1 p)]).length) : Int) - (1 : Int))).toNat) rfl Tryz.underlying24 sz65 rfl rfl (by omega) (by omega)) (D.m 12 rfl (D.q 13 rfl (Pu.fieldAddr 2 rfl Tryz.underlying164 rfl sz24 rfl rfl) (D.effX (Hs' := []) hwf (e := 14) rfl rfl rfl rfl (Ef.store1 (cs' := [_, _, _, _]) 0 rfl sz24 rfl rfl rfl rfl rfl (ltb rfl) rfl) rfl [12] rfl (List.forall_mem_cons.2 ⟨⟨86, _, rfl, rfl, Det.of rfl rfl rfl (Pu.nilCheck rfl rfl)⟩, List.forall_mem_nil _⟩) ?_))))
    rintro _ _ rfl
    refine ⟨fun w hw => hw.sub (Sub.nil _), (D.done hwf rfl (X.next (V.seq (V.region (O.m rfl (O.q rfl (Pu.not rfl rfl) (O.nil (X.next (V.condNot rfl (fun c4 => ?_) (fun c4 => ?_))))))))))⟩
    ·refine V.seq (V.map (fun w hw => CompK.mk' (rel_del hrel3 (by omega) (by omega) (by omega) hv hI.left c3) (by simp only [List.length_append, List.length_singleton]; omega) (hw.sub (Sub.k (Sub.k (Sub.k (Sub.k (Sub.k (Sub.k (Sub.refl _))))))))) (V.region (O.m rfl (O.nil (X.next (V.ret (X.blockRet (X.thenRet (X.thenRet (X.blockRet (X.thenRet ?_)))))))))))
     exact X.ret1 rfl rfl (fun w hw => St.unsep (St.addPur (boolF (by rw [hcm, (step_stop hgo c3 (by omega) (by rw [hl2, List.length_append] at c4; exact c4)).1]; decide)) (hw.sub (Sub.cons 0 rfl (fun w F h => by rw [hcm, (step_stop hgo c3 (by omega) (by rw [hl2, List.length_append] at c4; exact c4)).2, ← List.append_assoc, ← hl2, ← hll]; exact h) (Sub.drop (Sub.drop (Sub.refl _)))))))
    ·exact V.skip (X.blockNormal (X.next (V.region (O.m rfl (O.q rfl (Pu.add64 (r := ((p + 1 : Nat) : Int)) rfl (by omega) rfl rfl rfl) (O.m rfl (O.nil (X.map (fun w hw => CompK.mk' (rel_del hrel3 (by omega) (by omega) (by omega) hv hI.left c3) (by simp only [List.length_append, List.length_singleton]; omega) (hw.sub (Sub.k (Sub.k (Sub.k (Sub.k (Sub.k (Sub.k (Sub.refl _))))))))) (X.back3 (p + 1, (l2 ++ runC cont l2.length (leaf (xs ++ [(b3N i1 j1 p)]) (compM (n - 1) v (putM m i1 j1 p))))) (by (try dsimp only); exact ⟨by omega, by omega, step_go hgo c3 (by rw [hl2, List.length_append] at c4; exact c4), by rw [hl2, leaf_step c3, runC_all (by rw [hl2] at c4; exact c4), List.append_assoc]⟩) (by first | omega | (dsimp only; omega)) (Ent.cons rfl (Ent.nil _)) (Ent.cons (t := 0) rfl (Ent.cons (t := 1) rfl (Ent.cons (t := 5) rfl (Ent.nil _)))) (Sub.k (Sub.drop (Sub.drop (Sub.refl _)))))))))))))
  ·refine V.exit (X.thenExit (X.thenExit (X.blockHit (X.next (V.seq (V.map (fun w hw => CompK.mk hrel2 (hw.sub (Sub.k (Sub.k (Sub.k (Sub.k (Sub.refl _))))))) (V.region (O.m rfl (O.nil (X.next (V.ret ?_)))))))))))
   exact X.ret1 rfl rfl (fun w hw => St.unsep (St.addPur (boolT (by have e : p = v := (by omega); subst e; rw [hcm]; exact hgo)) (hw.sub (Sub.cons 0 rfl (fun w F h => by have e : p = v := (by omega); subst e; rw [hcm, runC_all hgo, ← hl2]; exact h) (Sub.refl _)))))
theorem from_ok (n : Nat) : L_from n := by
 induction n using Nat.strongRecOn with
 | _ n ih => exact fun cb gb v gf caps E cont okL M m xs l a w0 H hok hcb hv ha hrows hn hM hMM hokl hxs => from_step n ih cb gb v gf caps E cont okL M m xs l a w0 H hok hcb hv ha hrows hn hM hMM hokl hxs
theorem zr164 : Zr Tryz.prog 164 (.agg #[.int .i64 0, .pointer none, .slice none 0 0, .nilFunc]) := by unfold Zr; kernel_rfl
theorem gridFit_ok (bs : List B3) (A : Option Addr) (c : Nat) (w : World) (hx : Rd B3C w A bs) (lx : bs.length ≤ 4611686018427387904) (hb : ∀ b ∈ bs, good 15 b) (hft : fitsAt bs bs.length) : Does Tryz.prog 109 [.slice A bs.length c] w [] (fun v => [.exi fun g : Nat => .sep (.pur (v = .tuple #[.pointer (some ⟨g, 0, none⟩), .bool true])) (Grid g (tab bs) 176)]) :=
  (gridOf_ok bs A c w hx lx hb).mono (fun v w hs => by
    obtain ⟨g, hs⟩ := hs.exi
    rcases g with _ | g
    · exact absurd hft hs.pur.1.2
    · have h := hs.sep.pur
      exact St.mkExi g (St.unsep (St.addPur h.1.1 h.2)))
set_option maxRecDepth 100000 in
set_option maxHeartbeats 1000000 in
theorem sysGrid_ok (v : Int) (bs : List B3) (A : Option Addr) (c : Nat) (w : World) (hx : Rd B3C w A bs) (lx : bs.length ≤ 4611686018427387904) (hb : ∀ b ∈ bs, good 15 b) (hft : fitsAt bs bs.length) : Does Tryz.prog 148 [.agg #[.int .i64 v, .slice A bs.length c]] w [] (fun r => [.exi fun (g : Nat) => .sep (.pur (r = .pointer (some ⟨g, 0, none⟩))) (Grid g (tab bs) 176)]) := by
 refine Does.enter Tryz.func148 rfl rfl [(0, .agg #[.int .i64 v, .slice A bs.length c])] rfl (V.seq (V.region (O.f rfl (Ef.box rfl rfl rfl) ?_)))
 rintro _ _ ⟨b1, rfl, rfl⟩
 refine O.m rfl (O.nil (X.next (V.seq (V.region (O.q rfl (Pu.fieldAddr 1 rfl Tryz.underlying26 rfl sz24 rfl rfl) (O.q rfl (Pu.load rfl pl24 rfl (Ld.blk 0 rfl rfl)) (O.f rfl (Ef.call1 call109 rfl rfl (fun w hw => gridFit_ok bs _ _ w ((Ld.old hx) w hw) (by omega) hb hft)) ?_)))))))
 rintro _ _ rfl
 refine O.exi (fun g1 => O.sep (O.pur ?_))
 rintro rfl
 refine O.m rfl (O.m rfl (O.m rfl (O.m rfl (O.m rfl (O.nil (X.next (V.seq (V.region (O.m rfl (O.m rfl (O.nil ?_)))))))))))
 exact X.next (V.ret (X.ret1 rfl rfl (fun w hw => St.mkExi g1 (St.unsep (St.addPur rfl (hw.sub (Sub.k (Sub.nil _))))))))
set_option maxRecDepth 100000 in
set_option maxHeartbeats 1000000 in
theorem complete_ok (v : Nat) (bs : List B3) (gf : Nat) (caps : Array Value) (E : List (List B3) → Assn) (cont : Nat → Bool) (okL : List B3 → Prop) (M n m : Nat) (l : List (List B3)) (A : Option Addr) (c : Nat) (w0 : World) (H : List Assn) (hx : ∀ w, St w0 H w → Rd B3C w A bs) (lx : bs.length ≤ 4611686018427387904) (hb : ∀ b ∈ bs, good 15 b) (hft : fitsAt bs bs.length) (hv : v ≤ 15) (hrel : Rel v (tab bs) m) (hok : CallOk Tryz.prog gf) (hcb : CallB Tryz.prog w0 65 gf caps E cont okL M) (hn : leftN v m ≤ n) (hM : l.length + (runC cont l.length (leaf bs (compM n v m))).length ≤ M) (hMM : M ≤ 10000000000) (hokl : ∀ q ∈ leaf bs (compM n v m), okL q) (hxs : bs.length + n ≤ 1000) : Does Tryz.prog 115 [.agg #[.int .i64 (v : Int), .slice A bs.length c], .func (.func gf) #[] caps] w0 (E l :: H) (fun r => [.sep (.pur (r = .tuple #[])) (E (l ++ runC cont l.length (leaf bs (compM n v m))))] ++ H) := by
 refine Does.enter Tryz.func115 rfl rfl [(0, .agg #[.int .i64 (v : Int), .slice A bs.length c]), (1, .func (.func gf) #[] caps)] rfl (V.seq (V.region (O.f rfl (Ef.box rfl rfl rfl) ?_)))
 rintro _ _ ⟨b1, rfl, rfl⟩
 refine O.nil (X.next (V.seq (V.drawS mo (by kernel_rfl) (Sub.k (Sub.k (Sub.refl _))) (fun hwf => D.q 0 rfl (Pu.fieldAddr 0 rfl Tryz.underlying26 rfl sz2 rfl rfl) (D.q 1 rfl (Pu.load rfl pl2 rfl (Ld.blk 0 rfl rfl)) (D.q 2 rfl (Pu.loadAgg rfl ag26 sz26 rfl rfl (Ld.whole 0 rfl)) (D.q 4 rfl (Pu.fieldAddr 1 rfl Tryz.underlying26 rfl sz24 rfl rfl) (D.q 5 rfl (Pu.load rfl pl24 rfl (Ld.blk 0 rfl rfl)) (D.m 7 rfl (D.f hwf 3 rfl (Ef.call1 call148 rfl rfl (fun w hw => sysGrid_ok  (↑v : Int) bs _ _ w ((fun w hw => hx w (hw.sub (Sub.drop (Sub.drop (Sub.refl _))))) w hw) (by first | omega | (simp only [tops_len, conts_len, bl, List.length_append, List.length_cons, List.length_nil] at *; omega)) (by first | assumption | omega | (try dsimp only at *; omega)) (by first | assumption | omega | (try dsimp only at *; omega)))) ?_))))))))))
 rintro _ _ rfl hs
 refine ⟨fun w hw => hs w hw.tail, (D.exi (fun g1 => D.sep (D.pur1 ?_)))⟩
 rintro rfl
 refine D.f hwf 6 rfl (Ef.call1 call41 rfl rfl (fun w hw => cloneB_ok bs _ _ w ((fun w hw => hx w (hw.sub (Sub.drop (Sub.drop (Sub.drop (Sub.refl _)))))) w hw) (by first | omega | (simp only [tops_len] at *; omega)))) ?_
 rintro _ _ rfl hs
 refine ⟨fun w hw => hs w hw.tail, (D.exi (fun p1 => D.sep (D.pur1 ?_)))⟩
 rintro ⟨rfl, hp1⟩
 refine D.q 8 rfl (Pu.buildS (cs := [.int .i64 (↑v : Int), .pointer (some ⟨g1, 0, none⟩), .slice p1.1.1 p1.2.length p1.1.2, .func (.func gf) #[] caps]) rfl rfl Tryz.underlying164 zr164 (by kernel_rfl) rfl (by kernel_rfl)) (D.f hwf 9 rfl (Ef.box rfl rfl rfl) ?_)
 rintro _ _ ⟨b2, rfl, rfl⟩ hs
 refine ⟨fun w hw => hw.sub (Sub.keep 3 rfl (Sub.keep 3 rfl (Sub.drop (Sub.drop (Sub.drop (Sub.refl _)))))), (D.m 10 rfl (D.done hwf rfl (X.next (V.map (fun w hw => CompK.mk (T := 164) (eT := 65) (gT := 176) (v := v) (m := m) (xs := bs) hrel (by have h := hw.sub (Sub.k (Sub.keep 1 rfl (Sub.k (Sub.keep 1 rfl (Sub.k (Sub.refl _)))))); rw [hp1] at h; exact h)) (V.region (O.m rfl (O.f rfl (Ef.call call149 rfl rfl (Does.pre (fun w hw => hw.sub (Sub.k (Sub.k (Sub.refl _)))) (from_ok n  b2 g1 v gf caps E cont okL M m bs l 0 w0 _   hok hcb (by omega) (by omega) (fun i j h => by omega) hn hM hMM hokl hxs))) ?_)))))))⟩
 rintro _ _ rfl
 refine O.sep (O.pur ?_)
 rintro rfl
 exact O.nil (X.endBody (X.compK (fun xA1 xk1 G1 hrel1 => X.ret0 rfl (fun w hw => St.unsep (St.addPur rfl (hw.sub (Sub.keep 3 rfl (Sub.drop (Sub.drop (Sub.drop (Sub.drop (Sub.refl _))))))))))))
set_option maxRecDepth 100000 in
set_option maxHeartbeats 1000000 in
theorem systemsOf1_ok (list : List B3) (v : Int) (b0 b1 : Nat) (l : List (List B3)) (listA : Option Addr) (listc : Nat) (w0 : World) (H : List Assn) (hl : l.length ≤ 2000) (hxs : list.length ≤ 1000) : Does Tryz.prog 116 [.slice listA list.length listc, .pointer (some ⟨b0, 0, none⟩), .pointer (some ⟨b1, 0, none⟩)] w0 (Own 65 B3C listA listc list :: SysE 26 65 28 2 v b0 b1 l :: H) (fun r => [.sep (.pur (r = .bool true)) (.sep (Own 65 B3C listA listc list) (SysE 26 65 28 2 v b0 b1 (l ++ [list])))] ++ H) := by
 refine Does.enter Tryz.func116 rfl rfl [(0, .slice listA list.length listc), (1, .pointer (some ⟨b0, 0, none⟩)), (2, .pointer (some ⟨b1, 0, none⟩))] rfl (V.seq (V.region (O.m rfl (O.nil (X.next (V.seq (V.map (fun w hw => hw.sub (Sub.keep 1 rfl (Sub.k (Sub.refl _)))) (V.sysE (fun yA1 yk1 ps1 hps1 => V.fact (RowsA.len 3 rfl) (fun hn_ps1 => ?_))))))))))
 have htl_ps1 := tops_len ps1
 have hcl := conts_len ps1
 have hpl : ps1.length = l.length := by rw [← hcl, hps1]
 refine V.drawS mo (by kernel_rfl) (Sub.k (Sub.k (Sub.drop (Sub.drop (Sub.drop (Sub.refl _)))))) (fun hwf => D.q 0 rfl (Pu.load rfl pl28 rfl (Ld.blk 0 rfl rfl)) (D.q 1 rfl (Pu.load rfl pl2 rfl (Ld.blk 1 rfl rfl)) (D.m 2 rfl (D.f hwf 3 rfl (Ef.call1 call41 rfl rfl (fun w hw => cloneB_ok list _ _ w ((Ld.own 4 (by exact rfl)) w hw) (by first | omega | (simp only [tops_len] at *; omega)))) ?_))))
 rintro _ _ rfl hs
 refine ⟨fun w hw => hs w hw.tail, (D.exi (fun p1 => D.sep (D.pur1 ?_)))⟩
 rintro ⟨rfl, hp1⟩
 refine D.q 4 rfl (Pu.buildS (cs := [.int .i64 v, .slice p1.1.1 p1.2.length p1.1.2]) rfl rfl Tryz.underlying26 zr26 (by kernel_rfl) rfl (by kernel_rfl)) (D.f hwf 5 rfl (Ef.build (SyC v) ([⟨p1.1.1, p1.2.length, p1.1.2⟩] : List Sl) rfl Tryz.underlying28 inf26 rfl rfl rfl (by first | decide | (simp; done)) (by kernel_rfl)) ?_)
 rintro _ _ ⟨A1, hA1, rfl, rfl⟩ hs
 refine ⟨fun w hw => hw.sub (Sub.keep 2 rfl (Sub.keep 2 rfl (Sub.drop (Sub.drop (Sub.drop (Sub.drop (Sub.drop (Sub.refl _)))))))), (D.f hwf 6 rfl (Ef.append (xs := (tops ps1)) (ys := ([⟨p1.1.1, p1.2.length, p1.1.2⟩] : List Sl)) 4 rfl Tryz.underlying28 inf26 rfl rfl rfl rfl rfl rfl hA1 (Ld.own 0 (by exact rfl)) (by simp only [List.length_append, List.length_cons, List.length_nil] at *; omega) (by decide)) ?_)⟩
 rintro _ _ ⟨A2, k1, rfl, rfl, hA2⟩ hs
 replace hA2 := hA2 (.inr (by simp))
 refine ⟨fun w hw => hw.sub (Sub.keep 2 rfl (Sub.keep 2 rfl (Sub.drop (Sub.drop (Sub.drop (Sub.drop (Sub.drop (Sub.refl _)))))))), (D.effX (Hs' := []) hwf (e := 7) rfl rfl rfl rfl (Ef.store1 (cs' := [_]) 2 rfl sz28 rfl rfl rfl rfl rfl (ltb rfl) rfl) rfl [] rfl (List.forall_mem_nil _) ?_)⟩
 rintro _ _ rfl
 exact ⟨fun w hw => hw.sub (Sub.nil _), (D.done hwf rfl (X.map (fun w hw => snoc_heap (ps := ps1) (xs := p1.2) (hw.sub (Sub.keep 4 rfl (Sub.keep 4 rfl (Sub.keep 1 rfl (Sub.k (Sub.k (Sub.k (Sub.k (Sub.refl _)))))))))) (X.next (V.seq (V.region (O.m rfl (O.nil (X.next (V.ret (X.map (fun w hw => SysE.mk (l := l ++ [list]) (by rw [conts_append, hps1]; exact congrArg (fun q => l ++ [q]) hp1) (hw.sub (Sub.cons 3 rfl (fun w F h => by rw [tops_append]; exact h) (Sub.keep 3 rfl (Sub.k (Sub.k (Sub.k (Sub.k (Sub.refl _))))))))) (X.ret1 rfl rfl (fun w hw => St.unsep (St.addPur rfl (St.unsep (hw.sub (Sub.keep 2 rfl (Sub.k (Sub.drop (Sub.refl _)))))))))))))))))))⟩
theorem systemsOf1_call (v : Int) (b0 b1 : Nat) (w0 : World) : CallB Tryz.prog w0 65 116 #[.pointer (some ⟨b0, 0, none⟩), .pointer (some ⟨b1, 0, none⟩)] (SysE 26 65 28 2 v b0 b1) (fun _ => true) (fun xs => xs.length ≤ 1000) 2000 :=
  fun l xs A k H hl hx => systemsOf1_ok xs v b0 b1 l A k w0 H (by omega) hx
set_option maxRecDepth 100000 in
set_option maxHeartbeats 1000000 in
theorem systemsOf_ok (n : Nat) (pv : Nat) (w : World) (hv : pv ≤ 15) (hn : leftN pv 0 ≤ n) (hM : (compM n pv 0).length ≤ 1000) (hxs : n ≤ 1000) : Does Tryz.prog 81 [.int .i64 (pv : Int)] w [] (fun rv_ => [.exi fun (rA : Option Addr) => .exi fun (rc : Nat) => .exi fun (r : List (Sl × List B3)) => .sep (.pur (rv_ = .slice rA (tops r).length rc ∧ conts r = compM n pv 0)) (.sep (Own 26 (SyC (pv:Int)) rA rc (tops r)) (RowsA 65 B3C r))]) := by
 refine Does.enter Tryz.func81 rfl rfl [(0, .int .i64 (pv : Int))] rfl (V.seq (V.region (O.f rfl (Ef.box rfl rfl rfl) ?_)))
 rintro _ _ ⟨b1, rfl, rfl⟩
 refine O.m rfl (O.nil (X.next (V.seq (V.region (O.f rfl (Ef.alloc rfl zr28 rfl) ?_)))))
 rintro _ _ ⟨b2, rfl, rfl⟩
 refine O.nil (X.next (V.seq (V.region (O.q rfl (Pu.load rfl pl2 rfl (Ld.blk 1 rfl rfl)) (O.q rfl (Pu.buildS (cs := [.int .i64 (↑pv : Int), .slice none 0 0]) rfl rfl Tryz.underlying26 zr26 (by kernel_rfl) rfl (by kernel_rfl)) (O.q rfl (Pu.makeFunc rfl rfl) (O.map (fun w hw => SysE.mk (sT := 26) (bT := 65) (v := (pv : Int)) (l := []) (ps := []) rfl ((St.addNil (T := 26) (C := SyC (pv : Int)) (RowsA.nil (T := 65) (C := B3C) hw)).sub (Sub.keep 2 rfl (Sub.keep 2 rfl (Sub.k (Sub.k (Sub.nil _))))))) (O.f rfl (Ef.call call115 rfl rfl (Does.pre (fun w hw => hw.sub (Sub.k (Sub.nil _))) (complete_ok  pv ([]) (116) (#[.pointer (some ⟨b2, 0, none⟩), .pointer (some ⟨b1, 0, none⟩)]) (SysE 26 65 28 2 (pv:Int) b2 b1) (fun _ => true) (fun xs => xs.length ≤ 1000) 2000 n 0 ([]) _ _ w _ (fun w hw => Rd.nil _ _ _) (by first | omega | (simp only [tops_len, conts_len, bl, List.length_append, List.length_cons, List.length_nil] at *; omega)) (by simp) fitsAt_nil hv rel_nil (call116) (systemsOf1_call _ _ _ _) hn (by rw [runC_all goesC_true, leaf_len]; simp only [List.length_nil]; omega) (by decide) (fun q hq => Nat.le_trans (leaf_nil_len hq) hxs) (by simp only [List.length_nil]; omega)))) ?_))))))))
 rintro _ _ rfl
 refine O.sep (O.pur ?_)
 rintro rfl
 refine O.nil (X.next (V.seq (V.sysE (fun yA1 yk1 ps1 hps1 => V.fact (RowsA.len 3 rfl) (fun hn_ps1 => ?_)))))
 have htl_ps1 := tops_len ps1
 exact V.region (O.q rfl (Pu.load rfl pl28 rfl (Ld.blk 0 rfl rfl)) (O.m rfl (O.nil (X.next (V.ret (X.ret1 rfl rfl (fun w hw => St.mkExi yA1 (St.mkExi yk1 (St.mkExi ps1 (St.unsep (St.addPur ⟨(by first | rfl | (simp only [tops_append]; done) | (simp only [tops_append]; rfl)), by rw [hps1, runC_all goesC_true]; simp [leaf]⟩ (St.unsep (hw.sub (Sub.keep 2 rfl (Sub.keep 2 rfl (Sub.nil _))))))))))))))))
theorem systemsOfI_ok (n : Nat) (pv : Int) (w : World) (h0 : 0 ≤ pv) (hv : pv.toNat ≤ 15) (hn : leftN pv.toNat 0 ≤ n) (hM : (compM n pv.toNat 0).length ≤ 1000) (hxs : n ≤ 1000) : Does Tryz.prog 81 [.int .i64 pv] w [] (fun r => [.exi fun rA : Option Addr => .exi fun rc : Nat => .exi fun r_ : List (Sl × List B3) => .sep (.pur (r = .slice rA (tops r_).length rc ∧ conts r_ = compM n pv.toNat 0)) (.sep (Own 26 (SyC pv) rA rc (tops r_)) (RowsA 65 B3C r_))]) := by
 obtain ⟨k, rfl⟩ := Int.eq_ofNat_of_zero_le h0
 exact systemsOf_ok n k w hv hn hM hxs
set_option maxRecDepth 100000 in
set_option maxHeartbeats 1000000 in
theorem isFullI_ok (v : Int) (bs : List B3) (A : Option Addr) (c : Nat) (w : World) (hx : Rd B3C w A bs) (lx : bs.length ≤ 4611686018427387904) (hf : bs.length ≤ 1000000) (hvv : -1000000 ≤ v ∧ v ≤ 1000000) (hmul : 0 ≤ v * (v - 1) ∧ v * (v - 1) ≤ 1000000) : Does Tryz.prog 64 [.agg #[.int .i64 v, .slice A bs.length c]] w [] (fun r => [.pur (r = .bool (decide (6 * (bs.length : Int) = v * (v - 1))))]) := by
 refine Does.enter Tryz.func64 rfl rfl [(0, .agg #[.int .i64 v, .slice A bs.length c])] rfl (V.seq (V.region (O.f rfl (Ef.box rfl rfl rfl) ?_)))
 rintro _ _ ⟨b1, rfl, rfl⟩
 refine O.m rfl (O.nil (X.next (V.seq (V.region (O.q rfl (Pu.fieldAddr 1 rfl Tryz.underlying26 rfl sz24 rfl rfl) (O.q rfl (Pu.load rfl pl24 rfl (Ld.blk 0 rfl rfl)) (O.q rfl (Pu.len rfl Tryz.underlying24 rfl) (O.q rfl (Pu.mul64 rfl (by omega) rfl rfl rfl) (O.q rfl (Pu.fieldAddr 0 rfl Tryz.underlying26 rfl sz2 rfl rfl) (O.q rfl (Pu.load rfl pl2 rfl (Ld.blk 0 rfl rfl)) (O.q rfl (Pu.fieldAddr 0 rfl Tryz.underlying26 rfl sz2 rfl rfl) ?_)))))))))))
 exact O.q rfl (Pu.load rfl pl2 rfl (Ld.blk 0 rfl rfl)) (O.q rfl (Pu.sub64 rfl (by omega) rfl rfl rfl) (O.q rfl (Pu.mul64 rfl (by omega) rfl rfl rfl) (O.q rfl (Pu.eql rfl rfl rfl) (O.m rfl (O.nil (X.next (V.ret (X.ret1 rfl rfl (fun w hw => St.retP (boolD (Iff.rfl)) hw)))))))))
set_option maxRecDepth 100000 in
set_option maxHeartbeats 1000000 in
theorem l01Full_ok (v : Int) (bs : List B3) (A : Option Addr) (c : Nat) (w : World) (hx : Rd B3C w A bs) (lx : bs.length ≤ 4611686018427387904) (hf : bs.length ≤ 1000000) (hvv : -1000000 ≤ v ∧ v ≤ 1000000) (hmul : 0 ≤ v * (v - 1) ∧ v * (v - 1) ≤ 1000000) : Does Tryz.prog 65 [.agg #[.int .i64 v, .slice A bs.length c]] w [] (fun r => [.pur (r = .bool (decide (6 * (bs.length : Int) = v * (v - 1))))]) := by
 refine Does.enter Tryz.func65 rfl rfl [(0, .agg #[.int .i64 v, .slice A bs.length c])] rfl (V.seq (V.region (O.f rfl (Ef.box rfl rfl rfl) ?_)))
 rintro _ _ ⟨b1, rfl, rfl⟩
 refine O.m rfl (O.nil (X.next (V.seq (V.region (O.q rfl (Pu.fieldAddr 1 rfl Tryz.underlying26 rfl sz24 rfl rfl) (O.q rfl (Pu.load rfl pl24 rfl (Ld.blk 0 rfl rfl)) (O.q rfl (Pu.len rfl Tryz.underlying24 rfl) (O.q rfl (Pu.mul64 rfl (by omega) rfl rfl rfl) (O.q rfl (Pu.fieldAddr 0 rfl Tryz.underlying26 rfl sz2 rfl rfl) (O.q rfl (Pu.load rfl pl2 rfl (Ld.blk 0 rfl rfl)) (O.q rfl (Pu.fieldAddr 0 rfl Tryz.underlying26 rfl sz2 rfl rfl) ?_)))))))))))
 exact O.q rfl (Pu.load rfl pl2 rfl (Ld.blk 0 rfl rfl)) (O.q rfl (Pu.sub64 rfl (by omega) rfl rfl rfl) (O.q rfl (Pu.mul64 rfl (by omega) rfl rfl rfl) (O.q rfl (Pu.eql rfl rfl rfl) (O.m rfl (O.nil (X.next (V.ret (X.ret1 rfl rfl (fun w hw => St.retP (boolD (Iff.rfl)) hw)))))))))
set_option maxRecDepth 100000 in
set_option maxHeartbeats 1000000 in
theorem l04Pair_ok (a : Nat) (b : Nat) (w : World) (ha : a < 16) (hb : b < 16) : Does Tryz.prog 157 [.int .i64 (a : Int), .int .i64 (b : Int)] w [] (fun r => [.pur (r = .int .i64 ((prI a b : Nat) : Int))]) := by
 refine Does.enter Tryz.func157 rfl rfl [(0, .int .i64 (a : Int)), (1, .int .i64 (b : Int))] rfl (V.seq (V.region (O.m rfl (O.nil (X.next (V.seq (V.region (O.m rfl (O.m rfl (O.q rfl (Pu.min2 (r := (↑(min a b) : Int)) (by omega) rfl rfl rfl) (O.q rfl (Pu.mul64 rfl (by omega) rfl rfl rfl) ?_)))))))))))
 exact O.m rfl (O.m rfl (O.q rfl (Pu.max2 (r := (↑(max a b) : Int)) (by omega) rfl rfl rfl) (O.q rfl (Pu.add64 rfl (by omega) rfl rfl rfl) (O.m rfl (O.nil (X.next (V.ret (X.ret1 rfl rfl (fun w hw => St.retP (iv (by unfold prI; omega)) hw)))))))))
set_option maxRecDepth 100000 in
set_option maxHeartbeats 1000000 in
theorem l01Block_ok (a : Nat) (b : Nat) (c_ : Nat) (w : World) (h1 : a < b) (h2 : b < c_) (h3 : c_ < 16) : Does Tryz.prog 98 [.int .i64 (a : Int), .int .i64 (b : Int), .int .i64 (c_ : Int)] w [] (fun r => [.pur (r = B3.v (b3N a b c_))]) := by
 refine Does.enter Tryz.func98 rfl rfl [(0, .int .i64 (a : Int)), (1, .int .i64 (b : Int)), (2, .int .i64 (c_ : Int))] rfl (V.seq (V.region (O.f rfl (Ef.alloc rfl zr65 rfl) ?_)))
 rintro _ _ ⟨b1, rfl, rfl⟩
 refine O.nil (X.next (V.seq (V.region (O.m rfl (O.m rfl (O.m rfl (O.q rfl (Pu.min3 (r := (↑a : Int)) (by omega) rfl rfl rfl rfl) (O.m rfl (O.m rfl (O.m rfl (O.q rfl (Pu.max3 (r := (↑c_ : Int)) (by omega) rfl rfl rfl rfl) ?_)))))))))))
 refine O.m rfl (O.m rfl (O.nil (X.next (V.seq (V.region (O.m rfl (O.m rfl (O.m rfl (O.q rfl (Pu.add64 (r := ((a + b : Nat) : Int)) (by omega) (by omega) rfl rfl rfl) (O.m rfl (O.q rfl (Pu.add64 (r := ((a + b + c_ : Nat) : Int)) (by omega) (by omega) rfl rfl rfl) ?_)))))))))))
 refine O.m rfl (O.q rfl (Pu.sub64 rfl (by omega) rfl rfl rfl) (O.m rfl (O.q rfl (Pu.sub64 rfl (by omega) rfl rfl rfl) (O.m rfl (O.q rfl (Pu.buildA (cs := [.int .i64 (↑a : Int), .int .i64 (((↑(a + b + c_) : Int) - (↑a : Int)) - (↑c_ : Int)), .int .i64 (↑c_ : Int)]) (v := B3.v ((↑a : Int), (((↑(a + b + c_) : Int) - (↑a : Int)) - (↑c_ : Int)), (↑c_ : Int))) rfl rfl Tryz.underlying65 zr65 sz2 rfl (by kernel_rfl)) (O.s rfl rfl (Ef.storeAll 0 rfl sz65 rfl rfl rfl rfl (by simp [Value.oneCell']) rfl) ?_))))))
 rintro _ _ rfl
 exact O.nil (X.next (V.ret (X.retCell rfl ag65 sz65 rfl rfl (Ld.whole 0 rfl) (fun w hw => St.retP (by show B3.v ((a : Int), ((↑(a + b + c_) : Int) - (a : Int)) - (c_ : Int), (c_ : Int)) = _; rw [show ((↑(a + b + c_) : Int) - (a : Int)) - (c_ : Int) = (b : Int) by omega]; rfl) hw))))
set_option maxRecDepth 100000 in
set_option maxHeartbeats 1000000 in
theorem l04Member_ok (list : List B3) (b : B3) (listA : Option Addr) (listc : Nat) (w : World) (hlist : Rd B3C w listA list) (llist : list.length ≤ 1099511627776) : Does Tryz.prog 96 [.slice listA list.length listc, B3.v b] w [] (fun r => [.pur (r = .bool (decide (b ∈ list)))]) := by
 refine Does.enter Tryz.func96 rfl rfl [(0, .slice listA list.length listc), (1, B3.v b)] rfl (V.seq (V.region (O.f rfl (Ef.box rfl rfl rfl) ?_)))
 rintro _ _ ⟨b1, rfl, rfl⟩
 refine O.m rfl (O.nil (X.next (V.seq (V.seq (V.region (O.m rfl (O.nil (X.next (V.block (V.loop3 (β := Nat) (fun i => [(5, .int .i64 (i : Int))]) _ (fun i => []) _ (fun i => i ≤ list.length ∧ ∀ j (hj : j < list.length), j < i → ¬ list[j] = b) (fun i => list.length - i) 0 ⟨by omega, fun j hj h => by omega⟩ (Ent.cons rfl (Ent.nil _)) (Ent.cons (t := 0) rfl (Ent.cons (t := 3) rfl (Ent.nil _))) (Sub.k (Sub.nil _)) ?_))))))))))
 rintro i ⟨hi, hn⟩
 refine V.seq (V.seq (V.region (O.m rfl (O.m rfl (O.q rfl (Pu.len rfl Tryz.underlying24 rfl) (O.q rfl (Pu.lss rfl rfl rfl) (O.nil (X.next (V.condD rfl (fun c1 => ?_) (fun c1 => ?_))))))))))
 ·refine V.skip (X.next (V.seq (V.block (V.seq (V.draw mo (by kernel_rfl) (fun hwf => D.m 0 rfl (D.m 1 rfl (D.q 2 rfl (Pu.indexAddr (i) rfl Tryz.underlying24 sz65 rfl rfl (by omega) (by omega) (hlist.some (by omega))) ?_))))))))
  have e1 : i < list.length := by omega
  refine D.q 3 rfl (Pu.loadAgg' (v := B3.v (list[i]'e1)) rfl rfl ag65 sz65 rfl rfl (Ld.rds (Ld.old hlist) (k := i) e1 rfl)) (D.q 4 rfl (Pu.loadAgg' (v := B3.v b) rfl rfl ag65 sz65 rfl rfl (Ld.whole 0 rfl)) (D.q 5 rfl (Pu.eqlB3 Tryz.underlying65 Tryz.underlying2 sz2 (by kernel_rfl) rfl rfl rfl) (D.done hwf rfl (X.next (V.condD rfl (fun c2 => ?_) (fun c2 => ?_))))))
  ·exact V.seq (V.region (O.m rfl (O.nil (X.next (V.ret (X.blockRet (X.thenRet (X.thenRet (X.blockRet (X.thenRet (X.ret1 rfl rfl (fun w hw => St.retP (boolT (c2 ▸ List.getElem_mem e1)) hw))))))))))))
  ·exact V.skip (X.blockNormal (X.next (V.region (O.m rfl (O.q rfl (Pu.add64 (r := ((i + 1 : Nat) : Int)) rfl (by omega) rfl rfl rfl) (O.m rfl (O.nil (X.back3 (i + 1) ⟨by omega, fun j hj h => by by_cases e : j = i; (· subst e; exact c2); (· exact hn j hj (by omega))⟩ (by first | omega | (dsimp only; omega)) (Ent.cons rfl (Ent.nil _)) (Ent.cons (t := 0) rfl (Ent.cons (t := 3) rfl (Ent.nil _))) (Sub.k (Sub.nil _))))))))))
 ·exact V.exit (X.thenExit (X.thenExit (X.blockHit (X.next (V.seq (V.region (O.m rfl (O.nil (X.next (V.ret (X.ret1 rfl rfl (fun w hw => St.retP (boolF (fun h => by obtain ⟨j, hj, e⟩ := List.getElem_of_mem h; exact hn j hj (by omega) e)) hw))))))))))))
set_option maxRecDepth 100000 in
set_option maxHeartbeats 1000000 in
theorem l10Common_ok (v : Int) (bs : List B3) (v2 : Int) (bs2 : List B3) (A : Option Addr) (c : Nat) (A2 : Option Addr) (c2 : Nat) (w : World) (hx : Rd B3C w A bs) (hx2 : Rd B3C w A2 bs2) (lx : bs.length ≤ 4611686018427387904) (lx2 : bs2.length ≤ 4611686018427387904) (lb : bs.length ≤ 1000000) (lb2 : bs2.length ≤ 1000000) : Does Tryz.prog 58 [.agg #[.int .i64 v, .slice A bs.length c], .agg #[.int .i64 v2, .slice A2 bs2.length c2]] w [] (fun r => [.pur (r = .int .i64 (((bs.filter fun b => decide (b ∈ bs2)).length : Nat) : Int))]) := by
 refine Does.enter Tryz.func58 rfl rfl [(0, .agg #[.int .i64 v, .slice A bs.length c]), (1, .agg #[.int .i64 v2, .slice A2 bs2.length c2])] rfl (V.seq (V.region (O.f rfl (Ef.box rfl rfl rfl) ?_)))
 rintro _ _ ⟨b1, rfl, rfl⟩
 refine O.f rfl (Ef.box rfl rfl rfl) ?_
 rintro _ _ ⟨b2, rfl, rfl⟩
 refine O.m rfl (O.nil (X.next (V.seq (V.region (O.m rfl (O.nil (X.next (V.seq (V.seq (V.region (O.m rfl ?_)))))))))))
 refine O.nil (X.next (V.block (V.loop3 (β := Nat × Nat) (fun x => [(5, .int .i64 (x.1 : Int)), (6, .int .i64 (x.2 : Int))]) _ (fun x => []) _ (fun x => x.2 ≤ bs.length ∧ x.1 = ((bs.take x.2).filter fun b => decide (b ∈ bs2)).length ∧ x.1 ≤ x.2) (fun x => bs.length - x.2) (0, 0) (by (try dsimp only); exact ⟨by omega, rfl, by omega⟩) (Ent.cons rfl (Ent.cons rfl (Ent.nil _))) (Ent.cons (t := 2) rfl (Ent.cons (t := 3) rfl (Ent.nil _))) (Sub.k (Sub.k (Sub.nil _))) ?_)))
 rintro ⟨count, i⟩ ⟨hi, hc, hci⟩
 dsimp only at hi hc hci ⊢
 refine V.seq (V.seq (V.region (O.m rfl (O.q rfl (Pu.fieldAddr 1 rfl Tryz.underlying26 rfl sz24 rfl rfl) (O.q rfl (Pu.load rfl pl24 rfl (Ld.blk 1 rfl rfl)) (O.q rfl (Pu.len rfl Tryz.underlying24 rfl) (O.q rfl (Pu.lss rfl rfl rfl) (O.nil (X.next (V.condD rfl (fun c1 => ?_) (fun c1 => ?_)))))))))))
 ·refine V.skip (X.next (V.seq (V.block (V.seq (V.draw mo (by kernel_rfl) (fun hwf => D.q 0 rfl (Pu.fieldAddr 1 rfl Tryz.underlying26 rfl sz24 rfl rfl) (D.q 1 rfl (Pu.load rfl pl24 rfl (Ld.blk 0 rfl rfl)) (D.q 2 rfl (Pu.fieldAddr 1 rfl Tryz.underlying26 rfl sz24 rfl rfl) (D.q 3 rfl (Pu.load rfl pl24 rfl (Ld.blk 1 rfl rfl)) (D.m 4 rfl (D.q 5 rfl (Pu.indexAddr (i) rfl Tryz.underlying24 sz65 rfl rfl (by omega) (by omega) (hx.some (by omega))) ?_)))))))))))
  have e1 : i < bs.length := by omega
  refine D.q 6 rfl (Pu.loadAgg' (v := B3.v (bs[i]'e1)) rfl rfl ag65 sz65 rfl rfl (Ld.rds (Ld.old hx) (k := i) e1 rfl)) (D.f hwf 7 rfl (Ef.callP call96 rfl rfl (fun w hw => l04Member_ok  bs2 (bs[i]'e1) _ _ w ((Ld.old hx2) w hw) (by first | omega | (simp only [tops_len, conts_len, bl, List.length_append, List.length_cons, List.length_nil] at *; omega)) )) ?_)
  rintro _ _ ⟨rfl, rfl⟩ hs
  refine ⟨fun w hw => hw, (D.done hwf rfl (X.next (V.condD rfl (fun c2 => ?_) (fun c2 => ?_))))⟩
  ·exact V.region (O.m rfl (O.q rfl (Pu.add64 (r := ((count + 1 : Nat) : Int)) rfl (by omega) rfl rfl rfl) (O.m rfl (O.nil (X.blockNormal (X.next (V.region (O.m rfl (O.q rfl (Pu.add64 (r := ((i + 1 : Nat) : Int)) rfl (by omega) rfl rfl rfl) (O.m rfl (O.nil (X.back3 (count + 1, i + 1) (by (try dsimp only); exact ⟨by omega, by rw [take_snoc (by omega), List.filter_append, List.length_append, hc]; simp [c2], by omega⟩) (by first | omega | (dsimp only; omega)) (Ent.cons rfl (Ent.cons rfl (Ent.nil _))) (Ent.cons (t := 2) rfl (Ent.cons (t := 3) rfl (Ent.nil _))) (Sub.k (Sub.k (Sub.nil _)))))))))))))))
  ·exact V.skip (X.blockNormal (X.next (V.region (O.m rfl (O.q rfl (Pu.add64 (r := ((i + 1 : Nat) : Int)) rfl (by omega) rfl rfl rfl) (O.m rfl (O.nil (X.back3 (count, i + 1) (by (try dsimp only); exact ⟨by omega, by rw [take_snoc (by omega), List.filter_append, List.length_append, hc]; simp [c2], by omega⟩) (by first | omega | (dsimp only; omega)) (Ent.cons rfl (Ent.cons rfl (Ent.nil _))) (Ent.cons (t := 2) rfl (Ent.cons (t := 3) rfl (Ent.nil _))) (Sub.k (Sub.k (Sub.nil _)))))))))))
 ·refine V.exit (X.thenExit (X.thenExit (X.blockHit (X.next (V.seq (V.region (O.m rfl (O.m rfl (O.nil (X.next (V.ret ?_)))))))))))
  exact X.ret1 rfl rfl (fun w hw => St.retP (iv (by rw [hc, List.take_of_length_le (by omega)])) hw)
set_option maxRecDepth 100000 in
set_option maxHeartbeats 1000000 in
theorem l08Before_ok (a : List B3) (b : List B3) (aA : Option Addr) (ac : Nat) (bA : Option Addr) (bc : Nat) (w : World) (ha : Rd B3C w aA a) (hb : Rd B3C w bA b) (la : a.length ≤ 1099511627776) (lb : b.length ≤ 1099511627776) (hlen : a.length ≤ b.length) : Does Tryz.prog 127 [.slice aA a.length ac, .slice bA b.length bc] w [] (fun r => [.pur (r = .bool (decide (befB a b)))]) := by
 refine Does.enter Tryz.func127 rfl rfl [(0, .slice aA a.length ac), (1, .slice bA b.length bc)] rfl (V.seq (V.region (O.m rfl (O.nil (X.next (V.seq (V.seq (V.region (O.m rfl (O.nil (X.next ?_)))))))))))
 refine V.block (V.loop2 (β := Nat) (fun i => [(5, .int .i64 (i : Int))]) _ (fun i => []) (fun i => i ≤ a.length ∧ a.take i = b.take i) (fun i => a.length - i) 0 ⟨by omega, rfl⟩ (Ent.cons rfl (Ent.nil _)) (Ent.cons (t := 0) rfl (Ent.cons (t := 1) rfl (Ent.nil _))) (Sub.nil _) ?_)
 rintro i ⟨hi, he⟩
 refine V.seq (V.seq (V.region (O.m rfl (O.m rfl (O.q rfl (Pu.len rfl Tryz.underlying24 rfl) (O.q rfl (Pu.lss rfl rfl rfl) (O.nil (X.next (V.condD rfl (fun c1 => ?_) (fun c1 => ?_))))))))))
 ·refine V.skip (X.next (V.seq (V.block (V.seq (V.draw mo (by kernel_rfl) (fun hwf => D.m 0 rfl (D.m 1 rfl (D.q 2 rfl (Pu.indexAddr (i) rfl Tryz.underlying24 sz65 rfl rfl (by omega) (by omega) (ha.some (by omega))) ?_))))))))
  have e1 : i < a.length := by omega
  refine D.q 3 rfl (Pu.loadAgg' (v := B3.v (a[i]'e1)) rfl rfl ag65 sz65 rfl rfl (Ld.rds (Ld.old ha) (k := i) e1 rfl)) (D.m 4 rfl (D.m 5 rfl (D.q 6 rfl (Pu.indexAddr (i) rfl Tryz.underlying24 sz65 rfl rfl (by omega) (by omega) (hb.some (by omega))) ?_)))
  have e2 : i < b.length := by omega
  refine D.q 7 rfl (Pu.loadAgg' (v := B3.v (b[i]'e2)) rfl rfl ag65 sz65 rfl rfl (Ld.rds (Ld.old hb) (k := i) e2 rfl)) (D.q 8 rfl (Pu.neqB3 Tryz.underlying65 Tryz.underlying2 sz2 (by kernel_rfl) rfl rfl rfl) (D.done hwf rfl (X.next (V.condNot rfl (fun c2 => ?_) (fun c2 => ?_)))))
  ·refine V.seq (V.draw mo (by kernel_rfl) (fun hwf => D.m 0 rfl (D.m 1 rfl (D.q 2 rfl (Pu.indexAddr (i) rfl Tryz.underlying24 sz65 rfl rfl (by omega) (by omega) (ha.some (by omega))) (D.q 3 rfl (Pu.loadAgg' (v := B3.v (a[i]'e1)) rfl rfl ag65 sz65 rfl rfl (Ld.rds (Ld.old ha) (k := i) e1 rfl)) (D.m 4 rfl (D.m 5 rfl (D.q 6 rfl (Pu.indexAddr (i) rfl Tryz.underlying24 sz65 rfl rfl (by omega) (by omega) (hb.some (by omega))) (D.q 7 rfl (Pu.loadAgg' (v := B3.v (b[i]'e2)) rfl rfl ag65 sz65 rfl rfl (Ld.rds (Ld.old hb) (k := i) e2 rfl)) (D.f hwf 8 rfl (Ef.callP call93 rfl rfl (fun w hw => l01Before_ok _ _ _)) ?_))))))))))
   rintro _ _ ⟨rfl, rfl⟩ hs
   exact ⟨fun w hw => hw, (D.m 9 rfl (D.done hwf rfl (X.next (V.ret (X.blockRet (X.thenRet (X.thenRet (X.blockRet (X.thenRet (X.ret1 rfl rfl (fun w hw => St.retP (boolD (befB_at (by omega) (by omega) he c2)) hw)))))))))))⟩
  ·exact V.skip (X.blockNormal (X.next (V.region (O.m rfl (O.q rfl (Pu.add64 (r := ((i + 1 : Nat) : Int)) rfl (by omega) rfl rfl rfl) (O.m rfl (O.nil (X.back2 (i + 1) ⟨by omega, by rw [take_snoc (by omega), take_snoc (by omega), he]; simp_all⟩ (by first | omega | (dsimp only; omega)) (Ent.cons rfl (Ent.nil _)) (Ent.cons (t := 0) rfl (Ent.cons (t := 1) rfl (Ent.nil _))) (Sub.nil _)))))))))
 ·exact V.exit (X.thenExit (X.thenExit (X.blockHit (X.next (V.seq (V.region (O.m rfl (O.nil (X.next (V.ret (X.ret1 rfl rfl (fun w hw => St.retP (boolF (befB_pre (by rw [List.take_of_length_le (by omega)] at he; exact he))) hw))))))))))))
set_option maxRecDepth 100000 in
set_option maxHeartbeats 1000000 in
theorem l01Sort_ok (blocks : List B3) (blocksA : Option Addr) (blocksc : Nat) (w : World) (hblocks : Rd B3C w blocksA blocks) (lblocks : blocks.length ≤ 1099511627776) (lb : blocks.length ≤ 1000000) : Does Tryz.prog 106 [.slice blocksA blocks.length blocksc] w [] (fun rv_ => [.exi fun (rA : Option Addr) => .exi fun (rc : Nat) => .exi fun (r : List B3) => .sep (.pur (rv_ = .slice rA r.length rc ∧ r.Perm blocks ∧ SrtB r)) (Own 65 B3C rA rc r)]) := by
 refine Does.enter Tryz.func106 rfl rfl [(0, .slice blocksA blocks.length blocksc)] rfl (V.seq (V.region (O.m rfl (O.nil (X.next (V.seq (V.region (O.f rfl (Ef.build B3C ([] : List B3) rfl Tryz.underlying24 inf65 rfl rfl rfl (by first | decide | (simp; done)) (by kernel_rfl)) ?_))))))))
 rintro _ _ ⟨A1, hA1, rfl, rfl⟩
 refine O.m rfl (O.nil (X.next (V.seq (V.seq (V.region (O.m rfl (O.nil (X.next (V.block (V.loop2 (β := (Option Addr) × Nat × (List B3) × Nat) (fun x => [(3, .slice x.1 x.2.2.1.length x.2.1), (4, .int .i64 (x.2.2.2 : Int))]) _ (fun x => [Own 65 B3C x.1 x.2.1 x.2.2.1]) (fun x => x.2.2.2 ≤ blocks.length ∧ x.2.2.1.Perm (blocks.take x.2.2.2) ∧ SrtB x.2.2.1) (fun x => blocks.length - x.2.2.2) (A1, 0, ([] : List B3), 0) (by (try dsimp only); exact ⟨by omega, by simp, List.Pairwise.nil⟩) (Ent.cons rfl (Ent.cons rfl (Ent.nil _))) (Ent.cons (t := 0) rfl (Ent.nil _)) (Sub.k (Sub.nil _)) ?_))))))))))
 rintro ⟨outA, outc, out, i⟩ ⟨hi, hp, hsr⟩
 dsimp only at hi hp hsr ⊢
 have hol : out.length = i := by rw [hp.length_eq, List.length_take]; omega
 refine V.seq (V.seq (V.region (O.m rfl (O.m rfl (O.q rfl (Pu.len rfl Tryz.underlying24 rfl) (O.q rfl (Pu.lss rfl rfl rfl) (O.nil (X.next (V.condD rfl (fun c1 => ?_) (fun c1 => ?_))))))))))
 ·refine V.skip (X.next (V.seq (V.block (V.seq (V.region (O.m rfl (O.q rfl (Pu.len rfl Tryz.underlying24 rfl) (O.m rfl (O.nil (X.next (V.seq ?_)))))))))))
  refine V.region (O.m rfl (O.m rfl (O.m rfl (O.q rfl (Pu.indexAddr (i) rfl Tryz.underlying24 sz65 rfl rfl (by omega) (by omega) (hblocks.some (by omega))) ?_))))
  have e1 : i < blocks.length := by omega
  refine O.q rfl (Pu.loadAgg' (v := B3.v (blocks[i]'e1)) rfl rfl ag65 sz65 rfl rfl (Ld.rds (Ld.old hblocks) (k := i) e1 rfl)) (O.f rfl (Ef.build B3C ([(blocks[i]'e1)] : List B3) rfl Tryz.underlying24 inf65 rfl rfl rfl (by first | decide | (simp; done)) (by kernel_rfl)) ?_)
  rintro _ _ ⟨A2, hA2, rfl, rfl⟩
  refine O.f rfl (Ef.append (xs := out) (ys := ([(blocks[i]'e1)] : List B3)) 1 rfl Tryz.underlying24 inf65 rfl rfl rfl rfl rfl rfl hA2 (Ld.own 0 (by exact rfl)) (by simp only [List.length_append, List.length_cons, List.length_nil] at *; omega) (by decide)) ?_
  rintro _ _ ⟨A3, k1, rfl, rfl, hA3⟩
  replace hA3 := hA3 (.inr (by simp))
  refine O.m rfl (O.nil (X.next (V.seq (V.block (V.loop3 (β := Nat × (List B3)) (fun x => [(5, .int .i64 (x.1 : Int))]) _ (fun x => [Own 65 B3C A3 k1 x.2]) _ (fun x => x.1 ≤ out.length ∧ x.2 = shiftAt out (blocks[i]'e1) x.1 ∧ ∀ j (hj : j < out.length), x.1 ≤ j → B3.lt (blocks[i]'e1) out[j]) (fun x => x.1) (out.length, (out ++ ([(blocks[i]'e1)] : List B3))) (by (try dsimp only); exact ⟨by omega, shiftAt_start.symm, fun j hj h => by omega⟩) (Ent.cons rfl (Ent.nil _)) (Ent.cons (t := 0) rfl (Ent.cons (t := 3) rfl (Ent.cons (t := 4) rfl (Ent.nil _)))) (Sub.keep 1 rfl (Sub.k (Sub.nil _))) ?_)))))
  rintro ⟨y, z⟩ ⟨hy, hz, hz2⟩
  dsimp only at hy hz hz2 ⊢
  have hzl : z.length = out.length + 1 := by rw [hz]; exact shiftAt_len hy
  have hoa : (out ++ [(blocks[i]'e1)]).length = out.length + 1 := by simp
  refine V.seq (V.seq (V.draw mo (by kernel_rfl) (fun hwf => D.m 0 rfl (D.q 1 rfl (Pu.gtr rfl rfl rfl) (D.m 2 rfl (D.splitD 24 rfl (fun c2 => ?_) (fun c2 => ?_)))))))
  ·refine D.gm 3 rfl (D.gm 4 rfl (D.gq 5 rfl (Pu.indexAddr (i) rfl Tryz.underlying24 sz65 rfl rfl (by omega) (by omega) (hblocks.some (by omega))) (D.gq 6 rfl (Pu.loadAgg' (v := B3.v (blocks[i]'e1)) rfl rfl ag65 sz65 rfl rfl (Ld.rds (Ld.old hblocks) (k := i) e1 rfl)) (D.gm 7 rfl (D.gm 8 rfl (D.gq 9 rfl (Pu.sub64 (r := ((y - 1 : Nat) : Int)) (by omega) (by omega) rfl rfl rfl) (D.gq 10 rfl (Pu.indexAddrS (y - 1) rfl Tryz.underlying24 sz65 rfl rfl (by omega) (by omega) (fun w hw => Own.some hw (i := 0) (by exact rfl) (by omega))) ?_)))))))
   have e2 : y - 1 < z.length := by omega
   refine D.gq 11 rfl (Pu.loadAgg' (v := B3.v (z[y - 1]'e2)) rfl rfl ag65 sz65 rfl rfl (Ld.rds (C := B3C) (Ld.own 0 (by exact rfl)) (k := y - 1) e2 rfl)) (D.geff hwf (e := 12) rfl rfl rfl rfl rfl rfl (Ef.callP call93 rfl rfl (fun w hw => l01Before_ok _ _ _)) rfl rfl rfl ?_)
   rintro _ _ ⟨rfl, rfl⟩ hs
   refine ⟨fun w hw => hw, (D.m 13 rfl (D.done hwf rfl (X.next (V.condD rfl (fun c3 => ?_) (fun c3 => ?_)))))⟩
   ·refine V.skip (X.next (V.block (V.seq (V.region (O.m rfl (O.m rfl (O.m rfl (O.m rfl (O.q rfl (Pu.sub64 (r := ((y - 1 : Nat) : Int)) (by omega) (by omega) rfl rfl rfl) (O.q rfl (Pu.indexAddrS (y - 1) rfl Tryz.underlying24 sz65 rfl rfl (by omega) (by omega) (fun w hw => Own.some hw (i := 0) (by exact rfl) (by omega))) (O.q rfl (Pu.loadAgg' (v := B3.v (z[y - 1]'e2)) rfl rfl ag65 sz65 rfl rfl (Ld.rds (C := B3C) (Ld.own 0 (by exact rfl)) (k := y - 1) e2 rfl)) ?_)))))))))))
    refine O.q rfl (Pu.indexAddrS (y) rfl Tryz.underlying24 sz65 rfl rfl (by omega) (by omega) (fun w hw => Own.some hw (i := 0) (by exact rfl) (by omega))) (O.s rfl rfl (Ef.storeOwn 0 (y) (z[y - 1]'e2) rfl sz65 rfl rfl rfl rfl (by omega) rfl) ?_)
    rintro _ _ rfl
    exact O.nil (X.next (V.region (O.m rfl (O.q rfl (Pu.sub64 (r := ((y - 1 : Nat) : Int)) (by omega) (by omega) rfl rfl rfl) (O.m rfl (O.nil (X.blockNormal (X.back3 (y - 1, (z.set (y) (z[y - 1]'e2))) (by (try dsimp only); exact ⟨by omega, by subst hz; exact shiftAt_step hy (by omega) _, fun j hj h => by by_cases e : j = y - 1; (· subst e; have e4 : z[y - 1]'(by omega) = out[y - 1]'(by omega) := (by subst hz; exact shiftAt_lt hy (by omega) _); rw [← e4]; exact c3); (· exact hz2 j hj (by omega))⟩) (by first | omega | (dsimp only; omega)) (Ent.cons rfl (Ent.nil _)) (Ent.cons (t := 0) rfl (Ent.cons (t := 3) rfl (Ent.cons (t := 4) rfl (Ent.nil _)))) (Sub.k (Sub.k (Sub.nil _)))))))))))
   ·refine V.exit (X.thenExit (X.thenExit (X.blockHit (X.next (V.region (O.m rfl (O.m rfl (O.m rfl (O.m rfl (O.q rfl (Pu.indexAddr (i) rfl Tryz.underlying24 sz65 rfl rfl (by omega) (by omega) (hblocks.some (by omega))) (O.q rfl (Pu.loadAgg' (v := B3.v (blocks[i]'e1)) rfl rfl ag65 sz65 rfl rfl (Ld.rds (Ld.old hblocks) (k := i) e1 rfl)) ?_)))))))))))
    refine O.q rfl (Pu.indexAddrS (y) rfl Tryz.underlying24 sz65 rfl rfl (by omega) (by omega) (fun w hw => Own.some hw (i := 0) (by exact rfl) (by omega))) (O.s rfl rfl (Ef.storeOwn 0 (y) (blocks[i]'e1) rfl sz65 rfl rfl rfl rfl (by omega) rfl) ?_)
    rintro _ _ rfl
    exact O.nil (X.blockNormal (X.next (V.region (O.m rfl (O.q rfl (Pu.add64 (r := ((i + 1 : Nat) : Int)) rfl (by omega) rfl rfl rfl) (O.m rfl (O.nil (X.back2 (A3, k1, (out.take y ++ (blocks[i]'e1) :: out.drop y), i + 1) (by (try dsimp only); exact ⟨by omega, ((ins_perm (y := y)).trans ((hp.append_right _).trans (by rw [take_snoc e1]))), ins_sorted hsr hy hz2 (fun h0 => by have e4 : z[y - 1]'(by omega) = out[y - 1]'(by omega) := (by subst hz; exact shiftAt_lt hy (by omega) _); rw [← e4]; exact c3)⟩) (by first | omega | (dsimp only; omega)) (Ent.cons' rfl (by rw [(ins_perm (y := y)).length_eq]) (Ent.cons rfl (Ent.nil _))) (Ent.cons (t := 0) rfl (Ent.nil _)) (Sub.cons 0 rfl (fun w F h => by rw [hz, shiftAt_done hy] at h; exact h) (Sub.nil _))))))))))
  ·refine D.g 3 rfl (D.g 4 rfl (D.g 5 rfl (D.g 6 rfl (D.g 7 rfl (D.g 8 rfl (D.g 9 rfl (D.g 10 rfl (D.g 11 rfl (D.g 12 rfl (D.m 13 rfl (D.done hwf rfl ?_)))))))))))
   refine X.next (V.condF rfl (V.exit (X.thenExit (X.thenExit (X.blockHit (X.next (V.region (O.m rfl (O.m rfl (O.m rfl (O.m rfl ?_)))))))))))
   refine O.q rfl (Pu.indexAddr (i) rfl Tryz.underlying24 sz65 rfl rfl (by omega) (by omega) (hblocks.some (by omega))) (O.q rfl (Pu.loadAgg' (v := B3.v (blocks[i]'e1)) rfl rfl ag65 sz65 rfl rfl (Ld.rds (Ld.old hblocks) (k := i) e1 rfl)) (O.q rfl (Pu.indexAddrS (y) rfl Tryz.underlying24 sz65 rfl rfl (by omega) (by omega) (fun w hw => Own.some hw (i := 0) (by exact rfl) (by omega))) (O.s rfl rfl (Ef.storeOwn 0 (y) (blocks[i]'e1) rfl sz65 rfl rfl rfl rfl (by omega) rfl) ?_)))
   rintro _ _ rfl
   exact O.nil (X.blockNormal (X.next (V.region (O.m rfl (O.q rfl (Pu.add64 (r := ((i + 1 : Nat) : Int)) rfl (by omega) rfl rfl rfl) (O.m rfl (O.nil (X.back2 (A3, k1, (out.take y ++ (blocks[i]'e1) :: out.drop y), i + 1) (by (try dsimp only); exact ⟨by omega, ((ins_perm (y := y)).trans ((hp.append_right _).trans (by rw [take_snoc e1]))), ins_sorted hsr hy hz2 (fun h0 => by omega)⟩) (by first | omega | (dsimp only; omega)) (Ent.cons' rfl (by rw [(ins_perm (y := y)).length_eq]) (Ent.cons rfl (Ent.nil _))) (Ent.cons (t := 0) rfl (Ent.nil _)) (Sub.cons 0 rfl (fun w F h => by rw [hz, shiftAt_done hy] at h; exact h) (Sub.nil _))))))))))
 ·refine V.exit (X.thenExit (X.thenExit (X.blockHit (X.next (V.seq (V.region (O.m rfl (O.m rfl (O.nil (X.next (V.ret ?_)))))))))))
  exact X.ret1 rfl rfl (fun w hw => St.mkExi outA (St.mkExi outc (St.mkExi out (St.unsep (St.addPur ⟨rfl, by rw [List.take_of_length_le (by omega)] at hp; exact hp, hsr⟩ (hw.sub (Sub.k (Sub.nil _))))))))
def L_l08Go (n : Nat) : Prop := ∀ (sb v most : Nat) (keep : Bool) (m : Nat) (l : List (List B3)) (blocks : List B3) (blocksA : Option Addr) (blocksc : Nat) (w0 : World) (H : List Assn) (hblocks : ∀ w, St w0 H w → Rd B3C w blocksA blocks) (lblocks : blocks.length ≤ 1099511627776) (hbS : blocksA.isSome = true) (hv : v ≤ 15) (hn : leftN v m ≤ n) (hlm : l.length < most) (hmm : most ≤ 1000000000) (hM : l.length + (runC (fun j => decide (j < most)) l.length (leaf blocks (compM n v m))).length ≤ 1000000) (hxs : blocks.length + n ≤ 1000), Does Tryz.prog 152 [.pointer (some ⟨sb, 0, none⟩), .slice blocksA blocks.length blocksc] w0 (SrchK 145 4 24 65 sb v most keep m l :: H) (fun r => [.sep (.pur (r = .tuple #[])) (SrchK 145 4 24 65 sb v most keep m (l ++ runC (fun j => decide (j < most)) l.length (leaf blocks (compM n v m))))] ++ H)
end Go.Proofs.YthlmfgmmbfbhhaaGreat
