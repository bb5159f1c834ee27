/-
  Contracts, part 4.
-/
import Derived.Test.YtjkddnpmfcllhaaKb3
set_option linter.unusedVariables false
set_option linter.unusedSimpArgs false
namespace Go.Proofs.Ytjkddnpmfcllhaa
open Go Go.RowKit Go.Vc Go.Proofs
set_option maxRecDepth 100000 in
theorem has_ok (b : B3) (p : Int) (w : World) : Does Try.prog 80 [B3.v b, .int .i64 p] w [] (fun v => [.pur (v = .bool (decide (has b p)))]) := by
  refine Does.enter Try.func80 rfl rfl [(0, B3.v b), (1, .int .i64 p)] rfl ?_
  refine V.seq ?_
  refine V.region ?_
  refine O.e rfl rfl rfl (Ef.box rfl rfl rfl) ?_
  rintro _ _ ⟨b1, rfl, rfl⟩
  refine O.p rfl rfl rfl (Pu.assign rfl rfl) ?_
  refine O.nil ?_
  refine X.next ?_
  refine V.seq ?_
  refine V.region ?_
  refine O.p rfl rfl rfl (Pu.indexArr 0 0 rfl Try.underlying66 sz2 rfl rfl (by decide) (by decide) (by decide)) ?_
  refine O.p rfl rfl rfl (Pu.load rfl pl2 rfl (Ld.blk 0 rfl rfl)) ?_
  refine O.p rfl rfl rfl (Pu.move rfl rfl) ?_
  refine O.p rfl rfl rfl (Pu.eql rfl rfl rfl) ?_
  refine O.p rfl rfl rfl (Pu.move rfl rfl) ?_
  refine O.splitD 9 rfl (fun c1 => ?_) (fun c1 => ?_)
  · skip
    refine O.gs rfl rfl rfl rfl rfl rfl ?_
    refine O.gs rfl rfl rfl rfl rfl rfl ?_
    refine O.gs rfl rfl rfl rfl rfl rfl ?_
    refine O.gs rfl rfl rfl rfl rfl rfl ?_
    refine O.p rfl rfl rfl (Pu.pickT rfl rfl rfl) ?_
    refine O.p rfl rfl rfl (Pu.move rfl rfl) ?_
    refine O.gs rfl rfl rfl rfl rfl rfl ?_
    refine O.gs rfl rfl rfl rfl rfl rfl ?_
    refine O.gs rfl rfl rfl rfl rfl rfl ?_
    refine O.gs rfl rfl rfl rfl rfl rfl ?_
    refine O.p rfl rfl rfl (Pu.pickT rfl rfl rfl) ?_
    refine O.p rfl rfl rfl (Pu.assign rfl rfl) ?_
    refine O.nil ?_
    refine X.next ?_
    refine V.ret ?_
    refine X.ret1 rfl rfl ?_
    exact fun w hw => St.retP (by first | exact boolT (.inl c1) | exact boolT (.inr (.inl c2)) | exact boolT (.inr (.inl c3)) | exact boolD (by unfold has; simp only [c1, c2, false_or])) hw
  · skip
    refine O.gp rfl rfl rfl rfl rfl (Pu.indexArr 1 1 rfl Try.underlying66 sz2 rfl rfl (by decide) (by decide) (by decide)) ?_
    refine O.gp rfl rfl rfl rfl rfl (Pu.load rfl pl2 rfl (Ld.blk 0 rfl rfl)) ?_
    refine O.gp rfl rfl rfl rfl rfl (Pu.move rfl rfl) ?_
    refine O.gp rfl rfl rfl rfl rfl (Pu.eql rfl rfl rfl) ?_
    refine O.p rfl rfl rfl (Pu.pickF rfl rfl rfl) ?_
    refine O.p rfl rfl rfl (Pu.move rfl rfl) ?_
    refine O.splitD 15 rfl (fun c2 => ?_) (fun c2 => ?_)
    · skip
      refine O.gs rfl rfl rfl rfl rfl rfl ?_
      refine O.gs rfl rfl rfl rfl rfl rfl ?_
      refine O.gs rfl rfl rfl rfl rfl rfl ?_
      refine O.gs rfl rfl rfl rfl rfl rfl ?_
      refine O.p rfl rfl rfl (Pu.pickT rfl rfl rfl) ?_
      refine O.p rfl rfl rfl (Pu.assign rfl rfl) ?_
      refine O.nil ?_
      refine X.next ?_
      refine V.ret ?_
      refine X.ret1 rfl rfl ?_
      exact fun w hw => St.retP (by first | exact boolT (.inl c1) | exact boolT (.inr (.inl c2)) | exact boolT (.inr (.inl c3)) | exact boolD (by unfold has; simp only [c1, c2, false_or])) hw
    · skip
      refine O.gp rfl rfl rfl rfl rfl (Pu.indexArr 2 2 rfl Try.underlying66 sz2 rfl rfl (by decide) (by decide) (by decide)) ?_
      refine O.gp rfl rfl rfl rfl rfl (Pu.load rfl pl2 rfl (Ld.blk 0 rfl rfl)) ?_
      refine O.gp rfl rfl rfl rfl rfl (Pu.move rfl rfl) ?_
      refine O.gp rfl rfl rfl rfl rfl (Pu.eql rfl rfl rfl) ?_
      refine O.p rfl rfl rfl (Pu.pickF rfl rfl rfl) ?_
      refine O.p rfl rfl rfl (Pu.assign rfl rfl) ?_
      refine O.nil ?_
      refine X.next ?_
      refine V.ret ?_
      refine X.ret1 rfl rfl ?_
      exact fun w hw => St.retP (by first | exact boolT (.inl c1) | exact boolT (.inr (.inl c2)) | exact boolT (.inr (.inl c3)) | exact boolD (by unfold has; simp only [c1, c2, false_or])) hw
set_option maxRecDepth 100000 in
theorem eqInt64S_ok (xs ys : List Int) (A A2 : Option Addr) (c c2 : Nat) (w : World) (hx : Rd I64 w A xs) (hy : Rd I64 w A2 ys) (lx : xs.length ≤ 9223372036854775807) (ly : ys.length ≤ 9223372036854775807) : Does Try.prog 29 [.slice A xs.length c, .slice A2 ys.length c2] w [] (fun v => [.pur (v = .bool (decide (xs = ys)))]) := by
  refine Does.enter Try.func29 rfl rfl [(0, .slice A xs.length c), (1, .slice A2 ys.length c2)] rfl ?_
  refine V.seq ?_
  refine V.region ?_
  refine O.p rfl rfl rfl (Pu.assign rfl rfl) ?_
  refine O.nil ?_
  refine X.next ?_
  refine V.seq ?_
  refine V.seq ?_
  refine V.region ?_
  refine O.p rfl rfl rfl (Pu.move rfl rfl) ?_
  refine O.p rfl rfl rfl (Pu.len rfl Try.underlying52 rfl) ?_
  refine O.p rfl rfl rfl (Pu.move rfl rfl) ?_
  refine O.p rfl rfl rfl (Pu.len rfl Try.underlying52 rfl) ?_
  refine O.p rfl rfl rfl (Pu.neq rfl rfl rfl) ?_
  refine O.nil ?_
  refine X.next ?_
  refine V.condNot rfl (fun c1 => ?_) (fun c1 => ?_)
  · skip
    refine V.seq ?_
    refine V.region ?_
    refine O.p rfl rfl rfl (Pu.assign rfl rfl) ?_
    refine O.nil ?_
    refine X.next ?_
    refine V.ret ?_
    refine X.thenRet ?_
    refine X.ret1 rfl rfl ?_
    exact fun w hw => St.retP (boolF (fun h => c1 (by rw [h]))) hw
  · skip
    refine V.skip ?_
    refine X.next ?_
    refine V.seq ?_
    refine V.seq ?_
    refine V.region ?_
    refine O.p rfl rfl rfl (Pu.assign rfl rfl) ?_
    refine O.nil ?_
    refine X.next ?_
    refine V.block ?_
    refine V.loop2 (β := Nat) (fun k => [(5, .int .i64 (k : Int))]) _ (fun k => []) (fun k => k ≤ xs.length ∧ ∀ j (h1 : j < xs.length) (h2 : j < ys.length), j < k → xs[j] = ys[j]) (fun k => xs.length - k) 0 ⟨by omega, fun j _ _ h => by omega⟩ (Ent.cons rfl (Ent.nil _)) (Ent.cons (t := 0) rfl (Ent.cons (t := 1) rfl (Ent.nil _))) (Sub.nil _) ?_
    rintro k ⟨hk, he⟩
    refine V.seq ?_
    refine V.seq ?_
    refine V.region ?_
    refine O.p rfl rfl rfl (Pu.move rfl rfl) ?_
    refine O.p rfl rfl rfl (Pu.move rfl rfl) ?_
    refine O.p rfl rfl rfl (Pu.len rfl Try.underlying52 rfl) ?_
    refine O.p rfl rfl rfl (Pu.lss rfl rfl rfl) ?_
    refine O.nil ?_
    refine X.next ?_
    refine V.condD rfl (fun c2 => ?_) (fun c2 => ?_)
    · skip
      refine V.skip ?_
      refine X.next ?_
      refine V.seq ?_
      refine V.block ?_
      refine V.seq ?_
      refine V.draw mo (by kernel_rfl) (fun hwf => ?_)
      refine D.p 0 rfl rfl rfl rfl rfl rfl (Pu.move rfl rfl) ?_
      refine D.p 1 rfl rfl rfl rfl rfl rfl (Pu.move rfl rfl) ?_
      refine D.p 2 rfl rfl rfl rfl rfl rfl (Pu.indexAddr (k) rfl Try.underlying52 sz2 rfl rfl (by omega) (by omega) (hx.some (by omega))) ?_
      have e1 : k < xs.length := by omega
      refine D.p 3 rfl rfl rfl rfl rfl rfl (Pu.load rfl pl2 rfl (Ld.rd (Ld.old hx) (k := k) e1 rfl rfl)) ?_
      refine D.p 4 rfl rfl rfl rfl rfl rfl (Pu.move rfl rfl) ?_
      refine D.p 5 rfl rfl rfl rfl rfl rfl (Pu.move rfl rfl) ?_
      refine D.p 6 rfl rfl rfl rfl rfl rfl (Pu.indexAddr (k) rfl Try.underlying52 sz2 rfl rfl (by omega) (by omega) (hy.some (by omega))) ?_
      have e2 : k < ys.length := by omega
      refine D.p 7 rfl rfl rfl rfl rfl rfl (Pu.load rfl pl2 rfl (Ld.rd (Ld.old hy) (k := k) e2 rfl rfl)) ?_
      refine D.p 8 rfl rfl rfl rfl rfl rfl (Pu.neq rfl rfl rfl) ?_
      refine D.done hwf rfl ?_
      refine X.next ?_
      refine V.condNot rfl (fun c3 => ?_) (fun c3 => ?_)
      · skip
        refine V.seq ?_
        refine V.region ?_
        refine O.p rfl rfl rfl (Pu.assign rfl rfl) ?_
        refine O.nil ?_
        refine X.next ?_
        refine V.ret ?_
        refine X.blockRet ?_
        refine X.thenRet ?_
        refine X.thenRet ?_
        refine X.blockRet ?_
        refine X.thenRet ?_
        refine X.ret1 rfl rfl ?_
        exact fun w hw => St.retP (boolF (fun h => c3 (by simp [h]))) hw
      · skip
        refine V.skip ?_
        refine X.blockNormal ?_
        refine X.next ?_
        refine V.region ?_
        refine O.p rfl rfl rfl (Pu.move rfl rfl) ?_
        refine O.p rfl rfl rfl (Pu.add64 (r := ((k + 1 : Nat) : Int)) rfl (by omega) rfl rfl rfl) ?_
        refine O.p rfl rfl rfl (Pu.assign rfl rfl) ?_
        refine O.nil ?_
        exact X.back2 (k + 1) ⟨by omega, fun j h1 h2 hj => by by_cases e : j = k; (· subst e; exact c3); (· exact he j h1 h2 (by omega))⟩ (by omega) (Ent.cons rfl (Ent.nil _)) (Ent.cons (t := 0) rfl (Ent.cons (t := 1) rfl (Ent.nil _))) (Sub.nil _)
    · skip
      refine V.exit ?_
      refine X.thenExit ?_
      refine X.thenExit ?_
      refine X.blockHit ?_
      refine X.next ?_
      refine V.seq ?_
      refine V.region ?_
      refine O.p rfl rfl rfl (Pu.assign rfl rfl) ?_
      refine O.nil ?_
      refine X.next ?_
      refine V.ret ?_
      refine X.ret1 rfl rfl ?_
      exact fun w hw => St.retP (boolT (List.ext_getElem (by omega) (fun j h1 h2 => he j h1 h2 (by omega)))) hw
set_option maxRecDepth 100000 in
theorem eqInt64SS_ok (ps qs : List (Sl × List Int)) (A A2 : Option Addr) (c c2 : Nat) (w : World) (hx : RdL I64 w A ps) (hy : RdL I64 w A2 qs) (lx : ps.length ≤ 4611686018427387904) (ly : qs.length ≤ 4611686018427387904) : Does Try.prog 13 [.slice A (tops ps).length c, .slice A2 (tops qs).length c2] w [] (fun v => [.pur (v = .bool (decide (conts ps = conts qs)))]) := by
  refine Does.enter Try.func13 rfl rfl [(0, .slice A (tops ps).length c), (1, .slice A2 (tops qs).length c2)] rfl ?_
  refine V.seq ?_
  have htp := tops_len ps
  have htq := tops_len qs
  have hcp := conts_len ps
  have hcq := conts_len qs
  refine V.region ?_
  refine O.p rfl rfl rfl (Pu.assign rfl rfl) ?_
  refine O.nil ?_
  refine X.next ?_
  refine V.seq ?_
  refine V.seq ?_
  refine V.region ?_
  refine O.p rfl rfl rfl (Pu.move rfl rfl) ?_
  refine O.p rfl rfl rfl (Pu.len rfl Try.underlying34 rfl) ?_
  refine O.p rfl rfl rfl (Pu.move rfl rfl) ?_
  refine O.p rfl rfl rfl (Pu.len rfl Try.underlying34 rfl) ?_
  refine O.p rfl rfl rfl (Pu.neq rfl rfl rfl) ?_
  refine O.nil ?_
  refine X.next ?_
  refine V.condNot rfl (fun c1 => ?_) (fun c1 => ?_)
  · skip
    refine V.seq ?_
    refine V.region ?_
    refine O.p rfl rfl rfl (Pu.assign rfl rfl) ?_
    refine O.nil ?_
    refine X.next ?_
    refine V.ret ?_
    refine X.thenRet ?_
    refine X.ret1 rfl rfl ?_
    exact fun w hw => St.retP (boolF (fun h => c1 (by rw [← htp, ← htq] at *; have := congrArg List.length h; omega))) hw
  · skip
    refine V.skip ?_
    refine X.next ?_
    refine V.seq ?_
    refine V.seq ?_
    refine V.region ?_
    refine O.p rfl rfl rfl (Pu.assign rfl rfl) ?_
    refine O.nil ?_
    refine X.next ?_
    refine V.block ?_
    refine V.loop2 (β := Nat) (fun k => [(5, .int .i64 (k : Int))]) _ (fun k => []) (fun k => k ≤ (tops ps).length ∧ ∀ j (h1 : j < ps.length) (h2 : j < qs.length), j < k → (ps[j]).2 = (qs[j]).2) (fun k => (tops ps).length - k) 0 ⟨by omega, fun j _ _ h => by omega⟩ (Ent.cons rfl (Ent.nil _)) (Ent.cons (t := 0) rfl (Ent.cons (t := 1) rfl (Ent.nil _))) (Sub.nil _) ?_
    rintro k ⟨hk, he⟩
    refine V.seq ?_
    refine V.seq ?_
    refine V.region ?_
    refine O.p rfl rfl rfl (Pu.move rfl rfl) ?_
    refine O.p rfl rfl rfl (Pu.move rfl rfl) ?_
    refine O.p rfl rfl rfl (Pu.len rfl Try.underlying34 rfl) ?_
    refine O.p rfl rfl rfl (Pu.lss rfl rfl rfl) ?_
    refine O.nil ?_
    refine X.next ?_
    refine V.condD rfl (fun c2 => ?_) (fun c2 => ?_)
    · skip
      refine V.skip ?_
      refine X.next ?_
      refine V.seq ?_
      refine V.block ?_
      refine V.seq ?_
      refine V.draw mo (by kernel_rfl) (fun hwf => ?_)
      refine D.p 0 rfl rfl rfl rfl rfl rfl (Pu.move rfl rfl) ?_
      refine D.p 1 rfl rfl rfl rfl rfl rfl (Pu.move rfl rfl) ?_
      refine D.p 2 rfl rfl rfl rfl rfl rfl (Pu.indexAddr (k) rfl Try.underlying34 sz52 rfl rfl (by omega) (by omega) (hx.top.some (by omega))) ?_
      have e1 : k < ps.length := by have := tops_len ps; omega
      refine D.p 3 rfl rfl rfl rfl rfl rfl (Pu.load rfl pl52 rfl (Ld.row (Ld.old hx.top) hx.len e1 rfl)) ?_
      refine D.p 4 rfl rfl rfl rfl rfl rfl (Pu.move rfl rfl) ?_
      refine D.p 5 rfl rfl rfl rfl rfl rfl (Pu.move rfl rfl) ?_
      refine D.p 6 rfl rfl rfl rfl rfl rfl (Pu.indexAddr (k) rfl Try.underlying34 sz52 rfl rfl (by omega) (by omega) (hy.top.some (by omega))) ?_
      have e2 : k < qs.length := by have := tops_len qs; omega
      refine D.p 7 rfl rfl rfl rfl rfl rfl (Pu.load rfl pl52 rfl (Ld.row (Ld.old hy.top) hy.len e2 rfl)) ?_
      refine D.eff hwf (e := 8) rfl rfl rfl rfl (Ef.callP call29 rfl rfl (fun w hw => eqInt64S_ok (ps[k]'e1).2 (qs[k]'e2).2 _ _ _ _ w ((Ld.old (hx.row k e1)) w hw) ((Ld.old (hy.row k e2)) w hw) (hx.len.le e1) (hy.len.le e2))) rfl rfl rfl ?_
      rintro _ _ ⟨rfl, rfl⟩ hs
      refine ⟨fun w hw => hw, ?_⟩
      refine D.p 9 rfl rfl rfl rfl rfl rfl (Pu.not rfl rfl) ?_
      refine D.done hwf rfl ?_
      refine X.next ?_
      refine V.condNot rfl (fun c3 => ?_) (fun c3 => ?_)
      · skip
        refine V.seq ?_
        refine V.region ?_
        refine O.p rfl rfl rfl (Pu.assign rfl rfl) ?_
        refine O.nil ?_
        refine X.next ?_
        refine V.ret ?_
        refine X.blockRet ?_
        refine X.thenRet ?_
        refine X.thenRet ?_
        refine X.blockRet ?_
        refine X.thenRet ?_
        refine X.ret1 rfl rfl ?_
        exact fun w hw => St.retP (boolF (fun h => c3 (by rw [← conts_get ps (by omega), ← conts_get qs (by omega)]; simp [h]))) hw
      · skip
        refine V.skip ?_
        refine X.blockNormal ?_
        refine X.next ?_
        refine V.region ?_
        refine O.p rfl rfl rfl (Pu.move rfl rfl) ?_
        refine O.p rfl rfl rfl (Pu.add64 (r := ((k + 1 : Nat) : Int)) rfl (by omega) rfl rfl rfl) ?_
        refine O.p rfl rfl rfl (Pu.assign rfl rfl) ?_
        refine O.nil ?_
        exact X.back2 (k + 1) ⟨by omega, fun j h1 h2 hj => by by_cases e : j = k; (· subst e; exact c3); (· exact he j h1 h2 (by omega))⟩ (by omega) (Ent.cons rfl (Ent.nil _)) (Ent.cons (t := 0) rfl (Ent.cons (t := 1) rfl (Ent.nil _))) (Sub.nil _)
    · skip
      refine V.exit ?_
      refine X.thenExit ?_
      refine X.thenExit ?_
      refine X.blockHit ?_
      refine X.next ?_
      refine V.seq ?_
      refine V.region ?_
      refine O.p rfl rfl rfl (Pu.assign rfl rfl) ?_
      refine O.nil ?_
      refine X.next ?_
      refine V.ret ?_
      refine X.ret1 rfl rfl ?_
      exact fun w hw => St.retP (boolT (List.ext_getElem (by omega) (fun j h1 h2 => by rw [conts_get, conts_get]; exact he j (by omega) (by omega) (by omega)))) hw
set_option maxRecDepth 100000 in
theorem markInt64S_ok (xs : List Int) (m : Int) (A : Option Addr) (c : Nat) (w0 : World) (H : List Assn) (hm : 0 ≤ m ∧ m + xs.length ≤ 4611686018427387904) : Does Try.prog 31 [.slice A xs.length c, .int .i64 m] w0 (Own 2 I64 A c xs :: H) (fun v => .pur (v = .int .i64 (m + xs.length)) :: Own 2 I64 A c (marks m xs.length) :: H) := by
  refine Does.enter Try.func31 rfl rfl [(0, .slice A xs.length c), (1, .int .i64 m)] rfl ?_
  refine V.seq ?_
  refine V.region ?_
  refine O.p rfl rfl rfl (Pu.assign rfl rfl) ?_
  refine O.nil ?_
  refine X.next ?_
  refine V.seq ?_
  refine V.seq ?_
  refine V.region ?_
  refine O.p rfl rfl rfl (Pu.assign rfl rfl) ?_
  refine O.nil ?_
  refine X.next ?_
  refine V.block ?_
  refine V.loop3 (β := Nat) (fun k => [(5, .int .i64 (k : Int)), (1, .int .i64 (m + (k : Int)))]) _ (fun k => [Own 2 I64 A c (markAt xs m k)]) _ (fun k => k ≤ xs.length) (fun k => xs.length - k) 0 (by omega) (Ent.cons rfl (Ent.cons' rfl (iv (by omega)) (Ent.nil _))) (Ent.cons (t := 0) rfl (Ent.cons (t := 4) rfl (Ent.nil _))) (Sub.cons 0 rfl (fun w F h => by rw [markAt_zero]; exact h) (Sub.refl _)) ?_
  rintro k hk
  refine V.seq ?_
  refine V.seq ?_
  refine V.region ?_
  refine O.p rfl rfl rfl (Pu.move rfl rfl) ?_
  refine O.p rfl rfl rfl (Pu.move rfl rfl) ?_
  refine O.p rfl rfl rfl (Pu.len rfl Try.underlying52 rfl) ?_
  refine O.p rfl rfl rfl (Pu.lss rfl rfl rfl) ?_
  refine O.nil ?_
  refine X.next ?_
  refine V.condD rfl (fun c1 => ?_) (fun c1 => ?_)
  · skip
    refine V.skip ?_
    refine X.next ?_
    refine V.seq ?_
    refine V.block ?_
    refine V.seq ?_
    refine V.region ?_
    refine O.p rfl rfl rfl (Pu.move rfl rfl) ?_
    refine O.p rfl rfl rfl (Pu.move rfl rfl) ?_
    refine O.p rfl rfl rfl (Pu.move rfl rfl) ?_
    refine O.p rfl rfl rfl (Pu.indexAddrS (k) rfl Try.underlying52 sz2 rfl rfl (by omega) (by omega) (fun w hw => Own.some hw (i := 0) (by exact rfl) (by rw [markAt_len hk]; omega))) ?_
    refine O.s rfl rfl (Ef.storeOwn 0 (k) (m + (↑k : Int)) rfl sz2 rfl rfl rfl rfl (by rw [markAt_len hk]; omega) rfl) ?_
    rintro _ _ rfl
    refine O.nil ?_
    refine X.next ?_
    refine V.region ?_
    refine O.p rfl rfl rfl (Pu.move rfl rfl) ?_
    refine O.p rfl rfl rfl (Pu.add64 rfl (by omega) rfl rfl rfl) ?_
    refine O.p rfl rfl rfl (Pu.assign rfl rfl) ?_
    refine O.nil ?_
    refine X.blockNormal ?_
    refine X.next ?_
    refine V.region ?_
    refine O.p rfl rfl rfl (Pu.move rfl rfl) ?_
    refine O.p rfl rfl rfl (Pu.add64 (r := ((k + 1 : Nat) : Int)) rfl (by omega) rfl rfl rfl) ?_
    refine O.p rfl rfl rfl (Pu.assign rfl rfl) ?_
    refine O.nil ?_
    exact X.back3 (k + 1) (by omega) (by omega) (Ent.cons rfl (Ent.cons' rfl (iv (by omega)) (Ent.nil _))) (Ent.cons (t := 0) rfl (Ent.cons (t := 4) rfl (Ent.nil _))) (Sub.cons 0 rfl (fun w F h => by rw [markAt_set (by omega)] at h; exact h) (Sub.refl _))
  · skip
    refine V.exit ?_
    refine X.thenExit ?_
    refine X.thenExit ?_
    refine X.blockHit ?_
    refine X.next ?_
    refine V.seq ?_
    refine V.region ?_
    refine O.p rfl rfl rfl (Pu.move rfl rfl) ?_
    refine O.p rfl rfl rfl (Pu.assign rfl rfl) ?_
    refine O.nil ?_
    refine X.next ?_
    refine V.ret ?_
    refine X.ret1 rfl rfl ?_
    exact fun w hw => St.addPur (iv (by omega)) (hw.sub (Sub.cons 0 rfl (fun w F h => by rw [markAt_all (by omega)] at h; exact h) (Sub.refl _)))
set_option maxRecDepth 100000 in
theorem heldInt64S_ok (xs : List Int) (m : Int) (A : Option Addr) (c : Nat) (w : World) (hx : Rd I64 w A xs) (hm : 0 ≤ m ∧ m + xs.length ≤ 4611686018427387904) (hq : xs = marks m xs.length) : Does Try.prog 32 [.slice A xs.length c, .int .i64 m] w [] (fun v => [.pur (v = .int .i64 (m + xs.length))]) := by
  refine Does.enter Try.func32 rfl rfl [(0, .slice A xs.length c), (1, .int .i64 m)] rfl ?_
  refine V.seq ?_
  refine V.region ?_
  refine O.p rfl rfl rfl (Pu.assign rfl rfl) ?_
  refine O.nil ?_
  refine X.next ?_
  refine V.seq ?_
  refine V.seq ?_
  refine V.region ?_
  refine O.p rfl rfl rfl (Pu.assign rfl rfl) ?_
  refine O.nil ?_
  refine X.next ?_
  refine V.block ?_
  refine V.loop2 (β := Nat) (fun k => [(5, .int .i64 (k : Int)), (1, .int .i64 (m + (k : Int)))]) _ (fun k => []) (fun k => k ≤ xs.length) (fun k => xs.length - k) 0 (by omega) (Ent.cons rfl (Ent.cons' rfl (iv (by omega)) (Ent.nil _))) (Ent.cons (t := 0) rfl (Ent.nil _)) (Sub.nil _) ?_
  rintro k hk
  refine V.seq ?_
  refine V.seq ?_
  refine V.region ?_
  refine O.p rfl rfl rfl (Pu.move rfl rfl) ?_
  refine O.p rfl rfl rfl (Pu.move rfl rfl) ?_
  refine O.p rfl rfl rfl (Pu.len rfl Try.underlying52 rfl) ?_
  refine O.p rfl rfl rfl (Pu.lss rfl rfl rfl) ?_
  refine O.nil ?_
  refine X.next ?_
  refine V.condD rfl (fun c1 => ?_) (fun c1 => ?_)
  · skip
    refine V.skip ?_
    refine X.next ?_
    refine V.seq ?_
    refine V.block ?_
    refine V.seq ?_
    refine V.seq ?_
    refine V.region ?_
    refine O.p rfl rfl rfl (Pu.move rfl rfl) ?_
    refine O.p rfl rfl rfl (Pu.move rfl rfl) ?_
    refine O.p rfl rfl rfl (Pu.indexAddr (k) rfl Try.underlying52 sz2 rfl rfl (by omega) (by omega) (hx.some (by omega))) ?_
    have e1 : k < xs.length := by omega
    refine O.p rfl rfl rfl (Pu.load rfl pl2 rfl (Ld.rd (Ld.old hx) (k := k) e1 rfl rfl)) ?_
    refine O.p rfl rfl rfl (Pu.move rfl rfl) ?_
    refine O.p rfl rfl rfl (Pu.neq rfl rfl rfl) ?_
    refine O.nil ?_
    refine X.next ?_
    refine V.condNot rfl (fun c2 => ?_) (fun c2 => ?_)
    · skip
      exact absurd (by have h1 := marks_get m xs.length (k := k) (by rw [marks_len]; omega); rw [← h1]; congr 1) c2
    · skip
      refine V.skip ?_
      refine X.next ?_
      refine V.region ?_
      refine O.p rfl rfl rfl (Pu.move rfl rfl) ?_
      refine O.p rfl rfl rfl (Pu.add64 rfl (by omega) rfl rfl rfl) ?_
      refine O.p rfl rfl rfl (Pu.assign rfl rfl) ?_
      refine O.nil ?_
      refine X.blockNormal ?_
      refine X.next ?_
      refine V.region ?_
      refine O.p rfl rfl rfl (Pu.move rfl rfl) ?_
      refine O.p rfl rfl rfl (Pu.add64 (r := ((k + 1 : Nat) : Int)) rfl (by omega) rfl rfl rfl) ?_
      refine O.p rfl rfl rfl (Pu.assign rfl rfl) ?_
      refine O.nil ?_
      exact X.back2 (k + 1) (by omega) (by omega) (Ent.cons rfl (Ent.cons' rfl (iv (by omega)) (Ent.nil _))) (Ent.cons (t := 0) rfl (Ent.nil _)) (Sub.nil _)
  · skip
    refine V.exit ?_
    refine X.thenExit ?_
    refine X.thenExit ?_
    refine X.blockHit ?_
    refine X.next ?_
    refine V.seq ?_
    refine V.region ?_
    refine O.p rfl rfl rfl (Pu.move rfl rfl) ?_
    refine O.p rfl rfl rfl (Pu.assign rfl rfl) ?_
    refine O.nil ?_
    refine X.next ?_
    refine V.ret ?_
    refine X.ret1 rfl rfl ?_
    exact fun w hw => St.retP (iv (by omega)) hw
set_option maxRecDepth 100000 in
theorem markInt64SS_ok (ps : List (Sl × List Int)) (m : Int) (A : Option Addr) (c : Nat) (w0 : World) (H : List Assn) (hm : 0 ≤ m ∧ m + sumLen ps ≤ 4611686018427387904) (lp : ps.length ≤ 4611686018427387904) : Does Try.prog 15 [.slice A (tops ps).length c, .int .i64 m] w0 (Own 52 SlC A c (tops ps) :: RowsA 2 I64 ps :: H) (fun v => .pur (v = .int .i64 (m + sumLen ps)) :: Own 52 SlC A c (tops ps) :: RowsA 2 I64 (markL m ps) :: H) := by
  refine Does.enter Try.func15 rfl rfl [(0, .slice A (tops ps).length c), (1, .int .i64 m)] rfl ?_
  refine V.seq ?_
  refine V.fact (RowsA.len 1 rfl) (fun hn => ?_)
  have htl := tops_len ps
  refine V.region ?_
  refine O.p rfl rfl rfl (Pu.assign rfl rfl) ?_
  refine O.nil ?_
  refine X.next ?_
  refine V.seq ?_
  refine V.seq ?_
  refine V.region ?_
  refine O.p rfl rfl rfl (Pu.assign rfl rfl) ?_
  refine O.nil ?_
  refine X.next ?_
  refine V.block ?_
  refine V.loop3 (β := Nat) (fun k => [(5, .int .i64 (k : Int)), (1, .int .i64 (m + (sumLen (ps.take k) : Int)))]) _ (fun k => [RowsA 2 I64 (markL m (ps.take k) ++ ps.drop k)]) _ (fun k => k ≤ (tops ps).length) (fun k => (tops ps).length - k) 0 (by omega) (Ent.cons rfl (Ent.cons' rfl (iv (by simp [sumLen])) (Ent.nil _))) (Ent.cons (t := 0) rfl (Ent.cons (t := 4) rfl (Ent.nil _))) (Sub.keep 1 rfl (Sub.keep 0 rfl (Sub.refl _))) ?_
  rintro k hk
  refine V.seq ?_
  refine V.seq ?_
  refine V.region ?_
  refine O.p rfl rfl rfl (Pu.move rfl rfl) ?_
  refine O.p rfl rfl rfl (Pu.move rfl rfl) ?_
  refine O.p rfl rfl rfl (Pu.len rfl Try.underlying34 rfl) ?_
  refine O.p rfl rfl rfl (Pu.lss rfl rfl rfl) ?_
  refine O.nil ?_
  refine X.next ?_
  refine V.condD rfl (fun c1 => ?_) (fun c1 => ?_)
  · skip
    refine V.skip ?_
    refine X.next ?_
    refine V.seq ?_
    refine V.block ?_
    have e1 : k < ps.length := by omega
    have hst := sumLen_take e1
    have hsl := sumLen_le (ps := ps) (k := k + 1)
    refine V.map (fun w hw => row_out e1 (hw.sub (Sub.keep 0 rfl (Sub.keep 0 rfl (Sub.refl _))))) ?_
    refine V.region ?_
    refine O.p rfl rfl rfl (Pu.move rfl rfl) ?_
    refine O.p rfl rfl rfl (Pu.move rfl rfl) ?_
    refine O.p rfl rfl rfl (Pu.indexAddrS (k) rfl Try.underlying34 sz52 rfl rfl (by omega) (by omega) (fun w hw => Own.some hw (i := 2) (by exact rfl) (by omega))) ?_
    refine O.p rfl rfl rfl (Pu.load rfl pl52 rfl (Ld.row (Ld.own 2 (by exact rfl)) hn e1 rfl)) ?_
    refine O.p rfl rfl rfl (Pu.move rfl rfl) ?_
    refine O.e rfl rfl rfl (Ef.callM 0 call31 rfl rfl rfl (fun H _ => markInt64S_ok _ _ _ _ _ H (by omega))) ?_
    rintro _ _ ⟨rfl, rfl⟩
    refine O.p rfl rfl rfl (Pu.assign rfl rfl) ?_
    refine O.nil ?_
    refine X.blockNormal ?_
    refine X.next ?_
    refine V.region ?_
    refine O.p rfl rfl rfl (Pu.move rfl rfl) ?_
    refine O.p rfl rfl rfl (Pu.add64 (r := ((k + 1 : Nat) : Int)) rfl (by omega) rfl rfl rfl) ?_
    refine O.p rfl rfl rfl (Pu.assign rfl rfl) ?_
    refine O.nil ?_
    refine X.map (fun w hw => row_in (by rw [marks_len]; exact (hn _ (List.getElem_mem e1)).1) (hw.sub (Sub.keep 0 rfl (Sub.keep 0 rfl (Sub.keep 0 rfl (Sub.refl _)))))) ?_
    exact X.back3 (k + 1) (by omega) (by omega) (Ent.cons rfl (Ent.cons' rfl (iv (by rw [hst]; push_cast; omega)) (Ent.nil _))) (Ent.cons (t := 0) rfl (Ent.cons (t := 4) rfl (Ent.nil _))) (Sub.cons 0 rfl (fun w F h => by rw [markL_take e1]; exact h) (Sub.keep 0 rfl (Sub.refl _)))
  · skip
    refine V.exit ?_
    refine X.thenExit ?_
    refine X.thenExit ?_
    refine X.blockHit ?_
    refine X.next ?_
    refine V.seq ?_
    refine V.region ?_
    refine O.p rfl rfl rfl (Pu.move rfl rfl) ?_
    refine O.p rfl rfl rfl (Pu.assign rfl rfl) ?_
    refine O.nil ?_
    refine X.next ?_
    refine V.ret ?_
    refine X.ret1 rfl rfl ?_
    exact fun w hw => by have e : k = ps.length := (by omega); subst e; rw [List.take_length, List.drop_length, List.append_nil] at hw; exact St.addPur (iv (by rw [List.take_length])) (hw.sub (Sub.keep 1 rfl (Sub.keep 0 rfl (Sub.refl _))))
set_option maxRecDepth 100000 in
theorem heldInt64SS_ok (ps : List (Sl × List Int)) (m : Int) (A : Option Addr) (c : Nat) (w : World) (hx : RdL I64 w A (markL m ps)) (hm : 0 ≤ m ∧ m + sumLen ps ≤ 4611686018427387904) (lp : ps.length ≤ 4611686018427387904) : Does Try.prog 16 [.slice A (tops ps).length c, .int .i64 m] w [] (fun v => [.pur (v = .int .i64 (m + sumLen ps))]) := by
  refine Does.enter Try.func16 rfl rfl [(0, .slice A (tops ps).length c), (1, .int .i64 m)] rfl ?_
  refine V.seq ?_
  have htl := tops_len ps
  have hml := markL_len m ps
  have htm := tops_len (markL m ps)
  refine V.region ?_
  refine O.p rfl rfl rfl (Pu.assign rfl rfl) ?_
  refine O.nil ?_
  refine X.next ?_
  refine V.seq ?_
  refine V.seq ?_
  refine V.region ?_
  refine O.p rfl rfl rfl (Pu.assign rfl rfl) ?_
  refine O.nil ?_
  refine X.next ?_
  refine V.block ?_
  refine V.loop2 (β := Nat) (fun k => [(5, .int .i64 (k : Int)), (1, .int .i64 (m + (sumLen (ps.take k) : Int)))]) _ (fun k => []) (fun k => k ≤ (tops ps).length) (fun k => (tops ps).length - k) 0 (by omega) (Ent.cons rfl (Ent.cons' rfl (iv (by simp [sumLen])) (Ent.nil _))) (Ent.cons (t := 0) rfl (Ent.nil _)) (Sub.nil _) ?_
  rintro k hk
  refine V.seq ?_
  refine V.seq ?_
  refine V.region ?_
  refine O.p rfl rfl rfl (Pu.move rfl rfl) ?_
  refine O.p rfl rfl rfl (Pu.move rfl rfl) ?_
  refine O.p rfl rfl rfl (Pu.len rfl Try.underlying34 rfl) ?_
  refine O.p rfl rfl rfl (Pu.lss rfl rfl rfl) ?_
  refine O.nil ?_
  refine X.next ?_
  refine V.condD rfl (fun c1 => ?_) (fun c1 => ?_)
  · skip
    refine V.skip ?_
    refine X.next ?_
    refine V.seq ?_
    refine V.block ?_
    refine V.seq ?_
    have e0 : k < ps.length := by omega
    have hst := sumLen_take e0
    have hsl := sumLen_le (ps := ps) (k := k + 1)
    have hg := markL_get m e0 (by omega)
    have hgl := congrArg (fun p : Sl × List Int => p.2.length) hg
    simp only [marks_len] at hgl
    refine V.region ?_
    refine O.p rfl rfl rfl (Pu.move rfl rfl) ?_
    refine O.p rfl rfl rfl (Pu.move rfl rfl) ?_
    refine O.p rfl rfl rfl (Pu.indexAddr (k) rfl Try.underlying34 sz52 rfl rfl (by omega) (by omega) (hx.top.some (by omega))) ?_
    have e1 : k < (markL m ps).length := by have := tops_len (markL m ps); omega
    refine O.p rfl rfl rfl (Pu.load rfl pl52 rfl (Ld.row (Ld.old hx.top) hx.len e1 rfl)) ?_
    refine O.p rfl rfl rfl (Pu.move rfl rfl) ?_
    refine O.e rfl rfl rfl (Ef.callP call32 rfl rfl (fun w hw => heldInt64S_ok ((markL m ps)[k]'e1).2 _ _ _ w ((Ld.old (hx.row k e1)) w hw) (by omega) (by rw [hg]; simp only [marks_len]))) ?_
    rintro _ _ ⟨rfl, rfl⟩
    refine O.p rfl rfl rfl (Pu.assign rfl rfl) ?_
    refine O.nil ?_
    refine X.next ?_
    refine V.seq ?_
    refine V.region ?_
    refine O.p rfl rfl rfl (Pu.move rfl rfl) ?_
    refine O.p rfl rfl rfl (Pu.lss rfl rfl rfl) ?_
    refine O.nil ?_
    refine X.next ?_
    refine V.condD rfl (fun c2 => ?_) (fun c2 => ?_)
    · skip
      exact absurd c2 (by omega)
    · skip
      refine V.skip ?_
      refine X.blockNormal ?_
      refine X.next ?_
      refine V.region ?_
      refine O.p rfl rfl rfl (Pu.move rfl rfl) ?_
      refine O.p rfl rfl rfl (Pu.add64 (r := ((k + 1 : Nat) : Int)) rfl (by omega) rfl rfl rfl) ?_
      refine O.p rfl rfl rfl (Pu.assign rfl rfl) ?_
      refine O.nil ?_
      exact X.back2 (k + 1) (by omega) (by omega) (Ent.cons rfl (Ent.cons' rfl (iv (by rw [hst]; push_cast; omega)) (Ent.nil _))) (Ent.cons (t := 0) rfl (Ent.nil _)) (Sub.nil _)
  · skip
    refine V.exit ?_
    refine X.thenExit ?_
    refine X.thenExit ?_
    refine X.blockHit ?_
    refine X.next ?_
    refine V.seq ?_
    refine V.region ?_
    refine O.p rfl rfl rfl (Pu.move rfl rfl) ?_
    refine O.p rfl rfl rfl (Pu.assign rfl rfl) ?_
    refine O.nil ?_
    refine X.next ?_
    refine V.ret ?_
    refine X.ret1 rfl rfl ?_
    exact fun w hw => St.retP (iv (by have e : k = ps.length := (by omega); subst e; rw [List.take_length])) hw
set_option maxRecDepth 100000 in
set_option maxHeartbeats 1000000 in
theorem l03Others_ok (b : B3) (a : Int) (w : World) : Does Try.prog 66 [B3.v b, .int .i64 a] w [] (fun r => [.pur (r = .tuple #[.int .i64 (oth1 b a), .int .i64 (oth2 b a)])]) := by
  refine Does.enter Try.func66 rfl rfl [(0, B3.v b), (1, .int .i64 a)] rfl ?_
  refine V.seq ?_
  refine V.region ?_
  refine O.e rfl rfl rfl (Ef.box rfl rfl rfl) ?_
  rintro _ _ ⟨b1, rfl, rfl⟩
  refine O.p rfl rfl rfl (Pu.assign rfl rfl) ?_
  refine O.p rfl rfl rfl (Pu.assign rfl rfl) ?_
  refine O.nil ?_
  refine X.next ?_
  refine V.seq ?_
  refine V.seq ?_
  refine V.region ?_
  refine O.p rfl rfl rfl (Pu.move rfl rfl) ?_
  refine O.nil ?_
  refine X.next ?_
  refine V.block ?_
  refine V.seq ?_
  refine V.region ?_
  refine O.p rfl rfl rfl (Pu.indexArr 0 0 rfl Try.underlying66 sz2 rfl rfl (by decide) (by decide) (by decide)) ?_
  refine O.p rfl rfl rfl (Pu.load rfl pl2 rfl (Ld.blk 0 rfl rfl)) ?_
  refine O.p rfl rfl rfl (Pu.eql rfl rfl rfl) ?_
  refine O.p rfl rfl rfl (Pu.assign rfl rfl) ?_
  refine O.nil ?_
  refine X.next ?_
  refine V.condD rfl (fun c1 => ?_) (fun c1 => ?_)
  · skip
    refine V.seq ?_
    refine V.ent (Ent.cons (t := 2) rfl (Ent.nil _)) ?_
    refine V.draw mo (by kernel_rfl) (fun hwf => ?_)
    refine D.p 0 rfl rfl rfl rfl rfl rfl (Pu.indexArr 1 1 rfl Try.underlying66 sz2 rfl rfl (by decide) (by decide) (by decide)) ?_
    refine D.p 1 rfl rfl rfl rfl rfl rfl (Pu.load rfl pl2 rfl (Ld.blk 0 rfl rfl)) ?_
    refine D.p 2 rfl rfl rfl rfl rfl rfl (Pu.indexArr 2 2 rfl Try.underlying66 sz2 rfl rfl (by decide) (by decide) (by decide)) ?_
    refine D.p 3 rfl rfl rfl rfl rfl rfl (Pu.load rfl pl2 rfl (Ld.blk 0 rfl rfl)) ?_
    refine D.p 4 rfl rfl rfl rfl rfl rfl (Pu.assign rfl rfl) ?_
    refine D.p 5 rfl rfl rfl rfl rfl rfl (Pu.assign rfl rfl) ?_
    refine D.done hwf rfl ?_
    refine X.next ?_
    refine V.ret ?_
    refine X.blockRet ?_
    refine X.thenRet ?_
    refine X.ret2 rfl rfl rfl ?_
    exact fun w hw => St.addPur (by unfold oth1 oth2; rw [if_pos c1, if_pos c1]) (hw.sub (Sub.nil _))
  · skip
    refine V.seq ?_
    refine V.region ?_
    refine O.p rfl rfl rfl (Pu.indexArr 1 1 rfl Try.underlying66 sz2 rfl rfl (by decide) (by decide) (by decide)) ?_
    refine O.p rfl rfl rfl (Pu.load rfl pl2 rfl (Ld.blk 0 rfl rfl)) ?_
    refine O.p rfl rfl rfl (Pu.eql rfl rfl rfl) ?_
    refine O.p rfl rfl rfl (Pu.assign rfl rfl) ?_
    refine O.nil ?_
    refine X.next ?_
    refine V.condD rfl (fun c2 => ?_) (fun c2 => ?_)
    · skip
      refine V.seq ?_
      refine V.ent (Ent.cons (t := 2) rfl (Ent.nil _)) ?_
      refine V.draw mo (by kernel_rfl) (fun hwf => ?_)
      refine D.p 0 rfl rfl rfl rfl rfl rfl (Pu.indexArr 0 0 rfl Try.underlying66 sz2 rfl rfl (by decide) (by decide) (by decide)) ?_
      refine D.p 1 rfl rfl rfl rfl rfl rfl (Pu.load rfl pl2 rfl (Ld.blk 0 rfl rfl)) ?_
      refine D.p 2 rfl rfl rfl rfl rfl rfl (Pu.indexArr 2 2 rfl Try.underlying66 sz2 rfl rfl (by decide) (by decide) (by decide)) ?_
      refine D.p 3 rfl rfl rfl rfl rfl rfl (Pu.load rfl pl2 rfl (Ld.blk 0 rfl rfl)) ?_
      refine D.p 4 rfl rfl rfl rfl rfl rfl (Pu.assign rfl rfl) ?_
      refine D.p 5 rfl rfl rfl rfl rfl rfl (Pu.assign rfl rfl) ?_
      refine D.done hwf rfl ?_
      refine X.next ?_
      refine V.ret ?_
      refine X.blockRet ?_
      refine X.thenRet ?_
      refine X.ret2 rfl rfl rfl ?_
      exact fun w hw => St.addPur (by unfold oth1 oth2; rw [if_neg c1, if_neg c1, if_pos c2]) (hw.sub (Sub.nil _))
    · skip
      refine V.skip ?_
      refine X.blockNormal ?_
      refine X.next ?_
      refine V.seq ?_
      refine V.ent (Ent.cons (t := 2) rfl (Ent.nil _)) ?_
      refine V.draw mo (by kernel_rfl) (fun hwf => ?_)
      refine D.p 0 rfl rfl rfl rfl rfl rfl (Pu.indexArr 0 0 rfl Try.underlying66 sz2 rfl rfl (by decide) (by decide) (by decide)) ?_
      refine D.p 1 rfl rfl rfl rfl rfl rfl (Pu.load rfl pl2 rfl (Ld.blk 0 rfl rfl)) ?_
      refine D.p 2 rfl rfl rfl rfl rfl rfl (Pu.indexArr 1 1 rfl Try.underlying66 sz2 rfl rfl (by decide) (by decide) (by decide)) ?_
      refine D.p 3 rfl rfl rfl rfl rfl rfl (Pu.load rfl pl2 rfl (Ld.blk 0 rfl rfl)) ?_
      refine D.p 4 rfl rfl rfl rfl rfl rfl (Pu.assign rfl rfl) ?_
      refine D.p 5 rfl rfl rfl rfl rfl rfl (Pu.assign rfl rfl) ?_
      refine D.done hwf rfl ?_
      refine X.next ?_
      refine V.ret ?_
      refine X.ret2 rfl rfl rfl ?_
      exact fun w hw => St.addPur (by unfold oth1 oth2; rw [if_neg c1, if_neg c1, if_neg c2]) (hw.sub (Sub.nil _))
set_option maxRecDepth 100000 in
set_option maxHeartbeats 1000000 in
theorem others_ok (b : B3) (p : Int) (w : World) : Does Try.prog 81 [B3.v b, .int .i64 p] w [] (fun r => [.pur (r = .tuple #[.int .i64 (oth1 b p), .int .i64 (oth2 b p)])]) := by
  refine Does.enter Try.func81 rfl rfl [(0, B3.v b), (1, .int .i64 p)] rfl ?_
  refine V.seq ?_
  refine V.region ?_
  refine O.e rfl rfl rfl (Ef.box rfl rfl rfl) ?_
  rintro _ _ ⟨b1, rfl, rfl⟩
  refine O.p rfl rfl rfl (Pu.assign rfl rfl) ?_
  refine O.p rfl rfl rfl (Pu.assign rfl rfl) ?_
  refine O.nil ?_
  refine X.next ?_
  refine V.seq ?_
  refine V.seq ?_
  refine V.region ?_
  refine O.p rfl rfl rfl (Pu.move rfl rfl) ?_
  refine O.nil ?_
  refine X.next ?_
  refine V.block ?_
  refine V.seq ?_
  refine V.region ?_
  refine O.p rfl rfl rfl (Pu.indexArr 0 0 rfl Try.underlying66 sz2 rfl rfl (by decide) (by decide) (by decide)) ?_
  refine O.p rfl rfl rfl (Pu.load rfl pl2 rfl (Ld.blk 0 rfl rfl)) ?_
  refine O.p rfl rfl rfl (Pu.eql rfl rfl rfl) ?_
  refine O.p rfl rfl rfl (Pu.assign rfl rfl) ?_
  refine O.nil ?_
  refine X.next ?_
  refine V.condD rfl (fun c1 => ?_) (fun c1 => ?_)
  · skip
    refine V.seq ?_
    refine V.ent (Ent.cons (t := 2) rfl (Ent.nil _)) ?_
    refine V.draw mo (by kernel_rfl) (fun hwf => ?_)
    refine D.p 0 rfl rfl rfl rfl rfl rfl (Pu.indexArr 1 1 rfl Try.underlying66 sz2 rfl rfl (by decide) (by decide) (by decide)) ?_
    refine D.p 1 rfl rfl rfl rfl rfl rfl (Pu.load rfl pl2 rfl (Ld.blk 0 rfl rfl)) ?_
    refine D.p 2 rfl rfl rfl rfl rfl rfl (Pu.indexArr 2 2 rfl Try.underlying66 sz2 rfl rfl (by decide) (by decide) (by decide)) ?_
    refine D.p 3 rfl rfl rfl rfl rfl rfl (Pu.load rfl pl2 rfl (Ld.blk 0 rfl rfl)) ?_
    refine D.p 4 rfl rfl rfl rfl rfl rfl (Pu.assign rfl rfl) ?_
    refine D.p 5 rfl rfl rfl rfl rfl rfl (Pu.assign rfl rfl) ?_
    refine D.done hwf rfl ?_
    refine X.next ?_
    refine V.ret ?_
    refine X.blockRet ?_
    refine X.thenRet ?_
    refine X.ret2 rfl rfl rfl ?_
    exact fun w hw => St.addPur (by unfold oth1 oth2; rw [if_pos c1, if_pos c1]) (hw.sub (Sub.nil _))
  · skip
    refine V.seq ?_
    refine V.region ?_
    refine O.p rfl rfl rfl (Pu.indexArr 1 1 rfl Try.underlying66 sz2 rfl rfl (by decide) (by decide) (by decide)) ?_
    refine O.p rfl rfl rfl (Pu.load rfl pl2 rfl (Ld.blk 0 rfl rfl)) ?_
    refine O.p rfl rfl rfl (Pu.eql rfl rfl rfl) ?_
    refine O.p rfl rfl rfl (Pu.assign rfl rfl) ?_
    refine O.nil ?_
    refine X.next ?_
    refine V.condD rfl (fun c2 => ?_) (fun c2 => ?_)
    · skip
      refine V.seq ?_
      refine V.ent (Ent.cons (t := 2) rfl (Ent.nil _)) ?_
      refine V.draw mo (by kernel_rfl) (fun hwf => ?_)
      refine D.p 0 rfl rfl rfl rfl rfl rfl (Pu.indexArr 0 0 rfl Try.underlying66 sz2 rfl rfl (by decide) (by decide) (by decide)) ?_
      refine D.p 1 rfl rfl rfl rfl rfl rfl (Pu.load rfl pl2 rfl (Ld.blk 0 rfl rfl)) ?_
      refine D.p 2 rfl rfl rfl rfl rfl rfl (Pu.indexArr 2 2 rfl Try.underlying66 sz2 rfl rfl (by decide) (by decide) (by decide)) ?_
      refine D.p 3 rfl rfl rfl rfl rfl rfl (Pu.load rfl pl2 rfl (Ld.blk 0 rfl rfl)) ?_
      refine D.p 4 rfl rfl rfl rfl rfl rfl (Pu.assign rfl rfl) ?_
      refine D.p 5 rfl rfl rfl rfl rfl rfl (Pu.assign rfl rfl) ?_
      refine D.done hwf rfl ?_
      refine X.next ?_
      refine V.ret ?_
      refine X.blockRet ?_
      refine X.thenRet ?_
      refine X.ret2 rfl rfl rfl ?_
      exact fun w hw => St.addPur (by unfold oth1 oth2; rw [if_neg c1, if_neg c1, if_pos c2]) (hw.sub (Sub.nil _))
    · skip
      refine V.skip ?_
      refine X.blockNormal ?_
      refine X.next ?_
      refine V.seq ?_
      refine V.ent (Ent.cons (t := 2) rfl (Ent.nil _)) ?_
      refine V.draw mo (by kernel_rfl) (fun hwf => ?_)
      refine D.p 0 rfl rfl rfl rfl rfl rfl (Pu.indexArr 0 0 rfl Try.underlying66 sz2 rfl rfl (by decide) (by decide) (by decide)) ?_
      refine D.p 1 rfl rfl rfl rfl rfl rfl (Pu.load rfl pl2 rfl (Ld.blk 0 rfl rfl)) ?_
      refine D.p 2 rfl rfl rfl rfl rfl rfl (Pu.indexArr 1 1 rfl Try.underlying66 sz2 rfl rfl (by decide) (by decide) (by decide)) ?_
      refine D.p 3 rfl rfl rfl rfl rfl rfl (Pu.load rfl pl2 rfl (Ld.blk 0 rfl rfl)) ?_
      refine D.p 4 rfl rfl rfl rfl rfl rfl (Pu.assign rfl rfl) ?_
      refine D.p 5 rfl rfl rfl rfl rfl rfl (Pu.assign rfl rfl) ?_
      refine D.done hwf rfl ?_
      refine X.next ?_
      refine V.ret ?_
      refine X.ret2 rfl rfl rfl ?_
      exact fun w hw => St.addPur (by unfold oth1 oth2; rw [if_neg c1, if_neg c1, if_neg c2]) (hw.sub (Sub.nil _))
set_option maxRecDepth 100000 in
set_option maxHeartbeats 1000000 in
theorem l01Third_ok (v : Int) (bs : List B3) (a : Int) (b : Int) (A : Option Addr) (c : Nat) (w : World) (hx : Rd B3C w A bs) (lx : bs.length ≤ 4611686018427387904) (hg : ∀ d ∈ bs, good 15 d) (hpa : 0 ≤ a ∧ a ≤ 15) (hpb : 0 ≤ b ∧ b ≤ 15) : Does Try.prog 67 [.agg #[.int .i64 v, .slice A bs.length c], .int .i64 a, .int .i64 b] w [] (fun r => [.pur (r = .int .i64 (third bs a b))]) := by
  refine Does.enter Try.func67 rfl rfl [(0, .agg #[.int .i64 v, .slice A bs.length c]), (1, .int .i64 a), (2, .int .i64 b)] rfl ?_
  refine V.seq ?_
  refine V.region ?_
  refine O.e rfl rfl rfl (Ef.box rfl rfl rfl) ?_
  rintro _ _ ⟨b1, rfl, rfl⟩
  refine O.p rfl rfl rfl (Pu.assign rfl rfl) ?_
  refine O.nil ?_
  refine X.next ?_
  refine V.seq ?_
  refine V.seq ?_
  refine V.region ?_
  refine O.p rfl rfl rfl (Pu.assign rfl rfl) ?_
  refine O.nil ?_
  refine X.next ?_
  refine V.block ?_
  refine V.loop3 (β := Nat) (fun i => [(7, .int .i64 (i : Int))]) _ (fun i => []) _ (fun i => i ≤ bs.length ∧ ∀ j (hj : j < bs.length), j < i → ¬ (has bs[j] a ∧ has bs[j] b)) (fun i => bs.length - i) 0 ⟨by omega, fun j hj h => by omega⟩ (Ent.cons rfl (Ent.nil _)) (Ent.cons (t := 1) rfl (Ent.cons (t := 2) rfl (Ent.cons (t := 3) rfl (Ent.nil _)))) (Sub.keep 0 rfl (Sub.nil _)) ?_
  rintro i ⟨hi, hn⟩
  refine V.seq ?_
  refine V.seq ?_
  refine V.region ?_
  refine O.p rfl rfl rfl (Pu.move rfl rfl) ?_
  refine O.p rfl rfl rfl (Pu.fieldAddr 1 rfl Try.underlying30 rfl sz28 rfl rfl) ?_
  refine O.p rfl rfl rfl (Pu.load rfl pl28 rfl (Ld.blk 0 rfl rfl)) ?_
  refine O.p rfl rfl rfl (Pu.len rfl Try.underlying28 rfl) ?_
  refine O.p rfl rfl rfl (Pu.lss rfl rfl rfl) ?_
  refine O.nil ?_
  refine X.next ?_
  refine V.condD rfl (fun c1 => ?_) (fun c1 => ?_)
  · skip
    refine V.skip ?_
    refine X.next ?_
    refine V.seq ?_
    refine V.block ?_
    refine V.seq ?_
    refine V.region ?_
    refine O.p rfl rfl rfl (Pu.fieldAddr 1 rfl Try.underlying30 rfl sz28 rfl rfl) ?_
    refine O.p rfl rfl rfl (Pu.load rfl pl28 rfl (Ld.blk 0 rfl rfl)) ?_
    refine O.p rfl rfl rfl (Pu.move rfl rfl) ?_
    refine O.p rfl rfl rfl (Pu.indexAddr (i) rfl Try.underlying28 sz66 rfl rfl (by omega) (by omega) (hx.some (by omega))) ?_
    have e1 : i < bs.length := by omega
    refine O.p rfl rfl rfl (Pu.loadAgg' (v := B3.v (bs[i]'e1)) rfl rfl ag66 sz66 rfl rfl (Ld.rds (Ld.old hx) (k := i) e1 rfl)) ?_
    refine O.e rfl rfl rfl (Ef.alloc rfl zr66 rfl) ?_
    rintro _ _ ⟨b2, rfl, rfl⟩
    refine O.s rfl rfl (Ef.storeAll 0 rfl sz66 rfl rfl rfl rfl (by simp [Value.oneCell']) rfl) ?_
    rintro _ _ rfl
    refine O.nil ?_
    refine X.next ?_
    refine V.seq ?_
    refine V.region ?_
    refine O.p rfl rfl rfl (Pu.loadAgg' (v := B3.v (bs[i]'e1)) rfl rfl ag66 sz66 rfl rfl (Ld.whole 0 rfl)) ?_
    refine O.p rfl rfl rfl (Pu.move rfl rfl) ?_
    refine O.e rfl rfl rfl (Ef.callP call101 rfl rfl (fun w hw => l01With_ok (bs[i]'e1) _ w)) ?_
    rintro _ _ ⟨rfl, rfl⟩
    refine O.p rfl rfl rfl (Pu.move rfl rfl) ?_
    refine O.splitD 24 rfl (fun c2 => ?_) (fun c2 => ?_)
    · skip
      refine O.gp rfl rfl rfl rfl rfl (Pu.loadAgg' (v := B3.v (bs[i]'e1)) rfl rfl ag66 sz66 rfl rfl (Ld.whole 0 rfl)) ?_
      refine O.gp rfl rfl rfl rfl rfl (Pu.move rfl rfl) ?_
      refine O.ge rfl rfl rfl rfl rfl (Ef.callP call101 rfl rfl (fun w hw => l01With_ok (bs[i]'e1) _ w)) ?_
      rintro _ _ ⟨rfl, rfl⟩
      refine O.p rfl rfl rfl (Pu.pickT rfl rfl rfl) ?_
      refine O.nil ?_
      refine X.next ?_
      refine V.condD rfl (fun c3 => ?_) (fun c3 => ?_)
      · skip
        have hgi := hg _ (List.getElem_mem e1)
        unfold good at hgi
        refine V.seq ?_
        refine V.region ?_
        refine O.p rfl rfl rfl (Pu.indexArr 0 0 rfl Try.underlying66 sz2 rfl rfl (by decide) (by decide) (by decide)) ?_
        refine O.p rfl rfl rfl (Pu.load rfl pl2 rfl (Ld.blk 0 rfl rfl)) ?_
        refine O.p rfl rfl rfl (Pu.indexArr 1 1 rfl Try.underlying66 sz2 rfl rfl (by decide) (by decide) (by decide)) ?_
        refine O.p rfl rfl rfl (Pu.load rfl pl2 rfl (Ld.blk 0 rfl rfl)) ?_
        refine O.p rfl rfl rfl (Pu.add64 rfl (by omega) rfl rfl rfl) ?_
        refine O.p rfl rfl rfl (Pu.indexArr 2 2 rfl Try.underlying66 sz2 rfl rfl (by decide) (by decide) (by decide)) ?_
        refine O.p rfl rfl rfl (Pu.load rfl pl2 rfl (Ld.blk 0 rfl rfl)) ?_
        refine O.p rfl rfl rfl (Pu.add64 rfl (by omega) rfl rfl rfl) ?_
        refine O.p rfl rfl rfl (Pu.move rfl rfl) ?_
        refine O.p rfl rfl rfl (Pu.sub64 rfl (by omega) rfl rfl rfl) ?_
        refine O.p rfl rfl rfl (Pu.move rfl rfl) ?_
        refine O.p rfl rfl rfl (Pu.sub64 rfl (by omega) rfl rfl rfl) ?_
        refine O.p rfl rfl rfl (Pu.assign rfl rfl) ?_
        refine O.nil ?_
        refine X.next ?_
        refine V.ret ?_
        refine X.blockRet ?_
        refine X.thenRet ?_
        refine X.thenRet ?_
        refine X.blockRet ?_
        refine X.thenRet ?_
        refine X.ret1 rfl rfl ?_
        exact fun w hw => St.retP (iv ((third_found e1 c2 c3 hn).2.symm)) hw
      · skip
        refine V.skip ?_
        refine X.blockNormal ?_
        refine X.next ?_
        refine V.region ?_
        refine O.p rfl rfl rfl (Pu.move rfl rfl) ?_
        refine O.p rfl rfl rfl (Pu.add64 (r := ((i + 1 : Nat) : Int)) rfl (by omega) rfl rfl rfl) ?_
        refine O.p rfl rfl rfl (Pu.assign rfl rfl) ?_
        refine O.nil ?_
        exact X.back3 (i + 1) ⟨by omega, fun j hj h hh => by by_cases e : j = i; (· subst e; exact c3 hh.2); (· exact hn j hj (by omega) hh)⟩ (by first | omega | (dsimp only; omega)) (Ent.cons rfl (Ent.nil _)) (Ent.cons (t := 1) rfl (Ent.cons (t := 2) rfl (Ent.cons (t := 3) rfl (Ent.nil _)))) (Sub.keep 1 rfl (Sub.nil _))
    · skip
      refine O.gs rfl rfl rfl rfl rfl rfl ?_
      refine O.gs rfl rfl rfl rfl rfl rfl ?_
      refine O.gs rfl rfl rfl rfl rfl rfl ?_
      refine O.p rfl rfl rfl (Pu.pickF rfl rfl rfl) ?_
      refine O.nil ?_
      refine X.next ?_
      refine V.condF rfl ?_
      refine V.skip ?_
      refine X.blockNormal ?_
      refine X.next ?_
      refine V.region ?_
      refine O.p rfl rfl rfl (Pu.move rfl rfl) ?_
      refine O.p rfl rfl rfl (Pu.add64 (r := ((i + 1 : Nat) : Int)) rfl (by omega) rfl rfl rfl) ?_
      refine O.p rfl rfl rfl (Pu.assign rfl rfl) ?_
      refine O.nil ?_
      exact X.back3 (i + 1) ⟨by omega, fun j hj h hh => by by_cases e : j = i; (· subst e; exact c2 hh.1); (· exact hn j hj (by omega) hh)⟩ (by first | omega | (dsimp only; omega)) (Ent.cons rfl (Ent.nil _)) (Ent.cons (t := 1) rfl (Ent.cons (t := 2) rfl (Ent.cons (t := 3) rfl (Ent.nil _)))) (Sub.keep 1 rfl (Sub.nil _))
  · skip
    refine V.exit ?_
    refine X.thenExit ?_
    refine X.thenExit ?_
    refine X.blockHit ?_
    refine X.next ?_
    refine V.seq ?_
    refine V.region ?_
    refine O.p rfl rfl rfl (Pu.assign rfl rfl) ?_
    refine O.nil ?_
    refine X.next ?_
    refine V.ret ?_
    refine X.ret1 rfl rfl ?_
    exact fun w hw => St.retP (iv ((third_none (fun j hj => hn j hj (by omega))).2.symm)) hw
set_option maxRecDepth 100000 in
set_option maxHeartbeats 1000000 in
theorem l03Number_ok (v : Int) (bs : List B3) (a : Int) (b : Int) (A : Option Addr) (c : Nat) (w : World) (hx : Rd B3C w A bs) (lx : bs.length ≤ 4611686018427387904) : Does Try.prog 69 [.agg #[.int .i64 v, .slice A bs.length c], .int .i64 a, .int .i64 b] w [] (fun r => [.pur (r = .int .i64 (num bs a b))]) := by
  refine Does.enter Try.func69 rfl rfl [(0, .agg #[.int .i64 v, .slice A bs.length c]), (1, .int .i64 a), (2, .int .i64 b)] rfl ?_
  refine V.seq ?_
  refine V.region ?_
  refine O.e rfl rfl rfl (Ef.box rfl rfl rfl) ?_
  rintro _ _ ⟨b1, rfl, rfl⟩
  refine O.p rfl rfl rfl (Pu.assign rfl rfl) ?_
  refine O.nil ?_
  refine X.next ?_
  refine V.seq ?_
  refine V.seq ?_
  refine V.region ?_
  refine O.p rfl rfl rfl (Pu.assign rfl rfl) ?_
  refine O.nil ?_
  refine X.next ?_
  refine V.block ?_
  refine V.loop3 (β := Nat) (fun i => [(7, .int .i64 (i : Int))]) _ (fun i => []) _ (fun i => i ≤ bs.length ∧ ∀ j (hj : j < bs.length), j < i → ¬ (has bs[j] a ∧ has bs[j] b)) (fun i => bs.length - i) 0 ⟨by omega, fun j hj h => by omega⟩ (Ent.cons rfl (Ent.nil _)) (Ent.cons (t := 1) rfl (Ent.cons (t := 2) rfl (Ent.cons (t := 3) rfl (Ent.nil _)))) (Sub.keep 0 rfl (Sub.nil _)) ?_
  rintro i ⟨hi, hn⟩
  refine V.seq ?_
  refine V.seq ?_
  refine V.region ?_
  refine O.p rfl rfl rfl (Pu.move rfl rfl) ?_
  refine O.p rfl rfl rfl (Pu.fieldAddr 1 rfl Try.underlying30 rfl sz28 rfl rfl) ?_
  refine O.p rfl rfl rfl (Pu.load rfl pl28 rfl (Ld.blk 0 rfl rfl)) ?_
  refine O.p rfl rfl rfl (Pu.len rfl Try.underlying28 rfl) ?_
  refine O.p rfl rfl rfl (Pu.lss rfl rfl rfl) ?_
  refine O.nil ?_
  refine X.next ?_
  refine V.condD rfl (fun c1 => ?_) (fun c1 => ?_)
  · skip
    refine V.skip ?_
    refine X.next ?_
    refine V.seq ?_
    refine V.block ?_
    refine V.seq ?_
    refine V.region ?_
    refine O.p rfl rfl rfl (Pu.fieldAddr 1 rfl Try.underlying30 rfl sz28 rfl rfl) ?_
    refine O.p rfl rfl rfl (Pu.load rfl pl28 rfl (Ld.blk 0 rfl rfl)) ?_
    refine O.p rfl rfl rfl (Pu.move rfl rfl) ?_
    refine O.p rfl rfl rfl (Pu.indexAddr (i) rfl Try.underlying28 sz66 rfl rfl (by omega) (by omega) (hx.some (by omega))) ?_
    have e1 : i < bs.length := by omega
    refine O.p rfl rfl rfl (Pu.loadAgg' (v := B3.v (bs[i]'e1)) rfl rfl ag66 sz66 rfl rfl (Ld.rds (Ld.old hx) (k := i) e1 rfl)) ?_
    refine O.p rfl rfl rfl (Pu.move rfl rfl) ?_
    refine O.e rfl rfl rfl (Ef.callP call101 rfl rfl (fun w hw => l01With_ok (bs[i]'e1) _ w)) ?_
    rintro _ _ ⟨rfl, rfl⟩
    refine O.p rfl rfl rfl (Pu.move rfl rfl) ?_
    refine O.splitD 22 rfl (fun c2 => ?_) (fun c2 => ?_)
    · skip
      refine O.gp rfl rfl rfl rfl rfl (Pu.fieldAddr 1 rfl Try.underlying30 rfl sz28 rfl rfl) ?_
      refine O.gp rfl rfl rfl rfl rfl (Pu.load rfl pl28 rfl (Ld.blk 0 rfl rfl)) ?_
      refine O.gp rfl rfl rfl rfl rfl (Pu.move rfl rfl) ?_
      refine O.gp rfl rfl rfl rfl rfl (Pu.indexAddr (i) rfl Try.underlying28 sz66 rfl rfl (by omega) (by omega) (hx.some (by omega))) ?_
      refine O.gp rfl rfl rfl rfl rfl (Pu.loadAgg' (v := B3.v (bs[i]'e1)) rfl rfl ag66 sz66 rfl rfl (Ld.rds (Ld.old hx) (k := i) e1 rfl)) ?_
      refine O.gp rfl rfl rfl rfl rfl (Pu.move rfl rfl) ?_
      refine O.ge rfl rfl rfl rfl rfl (Ef.callP call101 rfl rfl (fun w hw => l01With_ok (bs[i]'e1) _ w)) ?_
      rintro _ _ ⟨rfl, rfl⟩
      refine O.p rfl rfl rfl (Pu.pickT rfl rfl rfl) ?_
      refine O.nil ?_
      refine X.next ?_
      refine V.condD rfl (fun c3 => ?_) (fun c3 => ?_)
      · skip
        refine V.seq ?_
        refine V.region ?_
        refine O.p rfl rfl rfl (Pu.move rfl rfl) ?_
        refine O.p rfl rfl rfl (Pu.assign rfl rfl) ?_
        refine O.nil ?_
        refine X.next ?_
        refine V.ret ?_
        refine X.blockRet ?_
        refine X.thenRet ?_
        refine X.thenRet ?_
        refine X.blockRet ?_
        refine X.thenRet ?_
        refine X.ret1 rfl rfl ?_
        exact fun w hw => St.retP (iv ((third_found e1 c2 c3 hn).1.symm)) hw
      · skip
        refine V.skip ?_
        refine X.blockNormal ?_
        refine X.next ?_
        refine V.region ?_
        refine O.p rfl rfl rfl (Pu.move rfl rfl) ?_
        refine O.p rfl rfl rfl (Pu.add64 (r := ((i + 1 : Nat) : Int)) rfl (by omega) rfl rfl rfl) ?_
        refine O.p rfl rfl rfl (Pu.assign rfl rfl) ?_
        refine O.nil ?_
        exact X.back3 (i + 1) ⟨by omega, fun j hj h hh => by by_cases e : j = i; (· subst e; exact c3 hh.2); (· exact hn j hj (by omega) hh)⟩ (by first | omega | (dsimp only; omega)) (Ent.cons rfl (Ent.nil _)) (Ent.cons (t := 1) rfl (Ent.cons (t := 2) rfl (Ent.cons (t := 3) rfl (Ent.nil _)))) (Sub.keep 0 rfl (Sub.nil _))
    · skip
      refine O.gs rfl rfl rfl rfl rfl rfl ?_
      refine O.gs rfl rfl rfl rfl rfl rfl ?_
      refine O.gs rfl rfl rfl rfl rfl rfl ?_
      refine O.gs rfl rfl rfl rfl rfl rfl ?_
      refine O.gs rfl rfl rfl rfl rfl rfl ?_
      refine O.gs rfl rfl rfl rfl rfl rfl ?_
      refine O.gs rfl rfl rfl rfl rfl rfl ?_
      refine O.p rfl rfl rfl (Pu.pickF rfl rfl rfl) ?_
      refine O.nil ?_
      refine X.next ?_
      refine V.condF rfl ?_
      refine V.skip ?_
      refine X.blockNormal ?_
      refine X.next ?_
      refine V.region ?_
      refine O.p rfl rfl rfl (Pu.move rfl rfl) ?_
      refine O.p rfl rfl rfl (Pu.add64 (r := ((i + 1 : Nat) : Int)) rfl (by omega) rfl rfl rfl) ?_
      refine O.p rfl rfl rfl (Pu.assign rfl rfl) ?_
      refine O.nil ?_
      exact X.back3 (i + 1) ⟨by omega, fun j hj h hh => by by_cases e : j = i; (· subst e; exact c2 hh.1); (· exact hn j hj (by omega) hh)⟩ (by first | omega | (dsimp only; omega)) (Ent.cons rfl (Ent.nil _)) (Ent.cons (t := 1) rfl (Ent.cons (t := 2) rfl (Ent.cons (t := 3) rfl (Ent.nil _)))) (Sub.keep 0 rfl (Sub.nil _))
  · skip
    refine V.exit ?_
    refine X.thenExit ?_
    refine X.thenExit ?_
    refine X.blockHit ?_
    refine X.next ?_
    refine V.seq ?_
    refine V.region ?_
    refine O.p rfl rfl rfl (Pu.assign rfl rfl) ?_
    refine O.nil ?_
    refine X.next ?_
    refine V.ret ?_
    refine X.ret1 rfl rfl ?_
    exact fun w hw => St.retP (iv ((third_none (fun j hj => hn j hj (by omega))).1.symm)) hw
set_option maxRecDepth 100000 in
set_option maxHeartbeats 1000000 in
theorem indexBl_ok (s : List B3) (y : B3) (sA : Option Addr) (sc : Nat) (w : World) (hs : Rd B3C w sA s) (ls : s.length ≤ 1099511627776) : Does Try.prog 77 [.slice sA s.length sc, B3.v y] w [] (fun r => [.pur (r = .int .i64 (idxP (fun x => y = x) s))]) := by
  refine Does.enter Try.func77 rfl rfl [(0, .slice sA s.length sc), (1, B3.v y)] rfl ?_
  refine V.seq ?_
  refine V.region ?_
  refine O.e rfl rfl rfl (Ef.box rfl rfl rfl) ?_
  rintro _ _ ⟨b1, rfl, rfl⟩
  refine O.p rfl rfl rfl (Pu.assign rfl rfl) ?_
  refine O.nil ?_
  refine X.next ?_
  refine V.seq ?_
  refine V.seq ?_
  refine V.region ?_
  refine O.p rfl rfl rfl (Pu.move rfl rfl) ?_
  refine O.p rfl rfl rfl (Pu.len rfl Try.underlying28 rfl) ?_
  refine O.p rfl rfl rfl (Pu.move rfl rfl) ?_
  refine O.nil ?_
  refine X.next ?_
  refine V.block ?_
  refine V.loop3 (β := Nat) (fun i => [(8, .int .i64 (i : Int))]) _ (fun i => []) _ (fun i => i ≤ s.length ∧ ∀ j (hj : j < s.length), j < i → ¬ y = s[j]) (fun i => s.length - i) 0 ⟨by omega, fun j hj h => by omega⟩ (Ent.cons rfl (Ent.nil _)) (Ent.cons (t := 0) rfl (Ent.cons (t := 3) rfl (Ent.cons (t := 7) rfl (Ent.nil _)))) (Sub.keep 0 rfl (Sub.nil _)) ?_
  rintro i ⟨hi, hn⟩
  refine V.seq ?_
  refine V.region ?_
  refine O.p rfl rfl rfl (Pu.lss rfl rfl rfl) ?_
  refine O.nil ?_
  refine X.next ?_
  refine V.seq ?_
  refine V.condD rfl (fun c1 => ?_) (fun c1 => ?_)
  · skip
    refine V.skip ?_
    refine X.next ?_
    refine V.seq ?_
    refine V.block ?_
    refine V.seq ?_
    refine V.region ?_
    refine O.p rfl rfl rfl (Pu.move rfl rfl) ?_
    refine O.p rfl rfl rfl (Pu.assign rfl rfl) ?_
    refine O.nil ?_
    refine X.next ?_
    refine V.seq ?_
    refine V.draw mo (by kernel_rfl) (fun hwf => ?_)
    refine D.p 0 rfl rfl rfl rfl rfl rfl (Pu.loadAgg' (v := B3.v y) rfl rfl ag66 sz66 rfl rfl (Ld.whole 0 rfl)) ?_
    refine D.p 1 rfl rfl rfl rfl rfl rfl (Pu.move rfl rfl) ?_
    refine D.p 2 rfl rfl rfl rfl rfl rfl (Pu.move rfl rfl) ?_
    refine D.p 3 rfl rfl rfl rfl rfl rfl (Pu.indexAddr (i) rfl Try.underlying28 sz66 rfl rfl (by omega) (by omega) (hs.some (by omega))) ?_
    have e1 : i < s.length := by omega
    refine D.p 4 rfl rfl rfl rfl rfl rfl (Pu.loadAgg' (v := B3.v (s[i]'e1)) rfl rfl ag66 sz66 rfl rfl (Ld.rds (Ld.old hs) (k := i) e1 rfl)) ?_
    refine D.p 5 rfl rfl rfl rfl rfl rfl (Pu.eqlB3 Try.underlying66 Try.underlying2 sz2 (by kernel_rfl) rfl rfl rfl) ?_
    refine D.done hwf rfl ?_
    refine X.next ?_
    refine V.condD rfl (fun c2 => ?_) (fun c2 => ?_)
    · skip
      refine V.seq ?_
      refine V.region ?_
      refine O.p rfl rfl rfl (Pu.move rfl rfl) ?_
      refine O.p rfl rfl rfl (Pu.assign rfl rfl) ?_
      refine O.nil ?_
      refine X.next ?_
      refine V.ret ?_
      refine X.blockRet ?_
      refine X.thenRet ?_
      refine X.thenRet ?_
      refine X.blockRet ?_
      refine X.thenRet ?_
      refine X.ret1 rfl rfl ?_
      exact fun w hw => St.retP (iv ((idxP_found (p := fun x => y = x) e1 c2 hn).symm)) hw
    · skip
      refine V.skip ?_
      refine X.blockNormal ?_
      refine X.next ?_
      refine V.region ?_
      refine O.p rfl rfl rfl (Pu.add64 (r := ((i + 1 : Nat) : Int)) rfl (by omega) rfl rfl rfl) ?_
      refine O.p rfl rfl rfl (Pu.move rfl rfl) ?_
      refine O.nil ?_
      exact X.back3 (i + 1) ⟨by omega, fun j hj h => by by_cases e : j = i; (· subst e; exact c2); (· exact hn j hj (by omega))⟩ (by first | omega | (dsimp only; omega)) (Ent.cons rfl (Ent.nil _)) (Ent.cons (t := 0) rfl (Ent.cons (t := 3) rfl (Ent.cons (t := 7) rfl (Ent.nil _)))) (Sub.keep 0 rfl (Sub.nil _))
  · skip
    refine V.exit ?_
    refine X.thenExit ?_
    refine X.thenExit ?_
    refine X.blockHit ?_
    refine X.next ?_
    refine V.seq ?_
    refine V.region ?_
    refine O.p rfl rfl rfl (Pu.assign rfl rfl) ?_
    refine O.nil ?_
    refine X.next ?_
    refine V.ret ?_
    refine X.ret1 rfl rfl ?_
    exact fun w hw => St.retP (iv ((idxP_none (p := fun x => y = x) (fun j hj => hn j hj (by omega))).symm)) hw
set_option maxRecDepth 100000 in
set_option maxHeartbeats 1000000 in
theorem numbersOf_ok (v : Int) (bs : List B3) (p : B3 → Prop) [DecidablePred p] (gf : Nat) (caps : Array Value) (A : Option Addr) (c : Nat) (w : World) (hx : Rd B3C w A bs) (lx : bs.length ≤ 4611686018427387904) (hok : CallOk Try.prog gf) (lf : bs.length ≤ 1099511627776) (hf : ∀ (k : Nat) (hk : k < bs.length) w', Bel w.heap.size w w' → Does Try.prog gf ([B3.v bs[k]] ++ caps.toList) w' [] (fun v => [.pur (v = .bool (decide (p bs[k])))])) : Does Try.prog 78 [.agg #[.int .i64 v, .slice A bs.length c], .func (.func gf) #[] caps] w [] (fun rv_ => [.exi fun (rA : Option Addr) => .exi fun (rc : Nat) => .exi fun (r : List Int) => .sep (.pur (rv_ = .slice rA r.length rc ∧ r = numsAt p bs bs.length)) (Own 2 I64 rA rc r)]) := by
  refine Does.enter Try.func78 rfl rfl [(0, .agg #[.int .i64 v, .slice A bs.length c]), (1, .func (.func gf) #[] caps)] rfl ?_
  refine V.seq ?_
  refine V.region ?_
  refine O.e rfl rfl rfl (Ef.box rfl rfl rfl) ?_
  rintro _ _ ⟨b1, rfl, rfl⟩
  refine O.p rfl rfl rfl (Pu.assign rfl rfl) ?_
  refine O.nil ?_
  refine X.next ?_
  refine V.seq ?_
  refine V.region ?_
  refine O.p rfl rfl rfl (Pu.assign rfl rfl) ?_
  refine O.nil ?_
  refine X.next ?_
  refine V.seq ?_
  refine V.seq ?_
  refine V.region ?_
  refine O.p rfl rfl rfl (Pu.fieldAddr 1 rfl Try.underlying30 rfl sz28 rfl rfl) ?_
  refine O.p rfl rfl rfl (Pu.load rfl pl28 rfl (Ld.blk 0 rfl rfl)) ?_
  refine O.p rfl rfl rfl (Pu.len rfl Try.underlying28 rfl) ?_
  refine O.p rfl rfl rfl (Pu.move rfl rfl) ?_
  refine O.nil ?_
  refine X.next ?_
  refine V.block ?_
  refine V.map (fun w hw => St.addNil (T := 2) (C := I64) hw) ?_
  refine V.loop3 (β := (Option Addr) × Nat × (List Int) × Nat) (fun x => [(5, .slice x.1 x.2.2.1.length x.2.1), (11, .int .i64 (x.2.2.2 : Int))]) _ (fun x => [Own 2 I64 x.1 x.2.1 x.2.2.1]) _ (fun x => x.2.2.2 ≤ bs.length ∧ x.2.2.1 = numsAt p bs x.2.2.2 ∧ x.2.2.1.length ≤ x.2.2.2) (fun x => bs.length - x.2.2.2) (none, 0, [], 0) (by (try dsimp only); exact ⟨by omega, rfl, by simp⟩) (Ent.cons rfl (Ent.cons rfl (Ent.nil _))) (Ent.cons (t := 1) rfl (Ent.cons (t := 9) rfl (Ent.cons (t := 10) rfl (Ent.nil _)))) (Sub.keep 0 rfl (Sub.keep 0 rfl (Sub.nil _))) ?_
  rintro ⟨outA, outc, out, i⟩ ⟨hi, ho, hl⟩
  dsimp only at hi ho hl ⊢
  refine V.seq ?_
  refine V.region ?_
  refine O.p rfl rfl rfl (Pu.lss rfl rfl rfl) ?_
  refine O.nil ?_
  refine X.next ?_
  refine V.seq ?_
  refine V.condD rfl (fun c1 => ?_) (fun c1 => ?_)
  · skip
    refine V.skip ?_
    refine X.next ?_
    refine V.seq ?_
    refine V.block ?_
    refine V.seq ?_
    refine V.region ?_
    refine O.p rfl rfl rfl (Pu.move rfl rfl) ?_
    refine O.p rfl rfl rfl (Pu.indexAddr (i) rfl Try.underlying28 sz66 rfl rfl (by omega) (by omega) (hx.some (by omega))) ?_
    have e1 : i < bs.length := by omega
    refine O.p rfl rfl rfl (Pu.loadAgg' (v := B3.v (bs[i]'e1)) rfl rfl ag66 sz66 rfl rfl (Ld.rds (Ld.old hx) (k := i) e1 rfl)) ?_
    refine O.e rfl rfl rfl (Ef.alloc rfl zr66 rfl) ?_
    rintro _ _ ⟨b2, rfl, rfl⟩
    refine O.p rfl rfl rfl (Pu.assign rfl rfl) ?_
    refine O.s rfl rfl (Ef.storeAll 0 rfl sz66 rfl rfl rfl rfl (by simp [Value.oneCell']) rfl) ?_
    rintro _ _ rfl
    refine O.nil ?_
    refine X.next ?_
    refine V.seq ?_
    refine V.region ?_
    refine O.p rfl rfl rfl (Pu.move rfl rfl) ?_
    refine O.p rfl rfl rfl (Pu.loadAgg' (v := B3.v (bs[i]'e1)) rfl rfl ag66 sz66 rfl rfl (Ld.whole 0 rfl)) ?_
    refine O.e rfl rfl rfl (Ef.callPV hok rfl rfl rfl (fun w' hw => hf i e1 w' hw.below)) ?_
    rintro _ _ ⟨rfl, rfl⟩
    refine O.nil ?_
    refine X.next ?_
    refine V.condD rfl (fun c2 => ?_) (fun c2 => ?_)
    · skip
      refine V.region ?_
      refine O.p rfl rfl rfl (Pu.move rfl rfl) ?_
      refine O.p rfl rfl rfl (Pu.move rfl rfl) ?_
      refine O.e rfl rfl rfl (Ef.build I64 ([(↑i : Int)] : List Int) rfl Try.underlying52 inf2 rfl rfl rfl (by first | decide | (simp; done)) (by kernel_rfl)) ?_
      rintro _ _ ⟨A1, hA1, rfl, rfl⟩
      refine O.e rfl rfl rfl (Ef.append (xs := out) (ys := ([(↑i : Int)] : List Int)) 2 rfl Try.underlying52 inf2 rfl rfl rfl rfl rfl rfl hA1 (Ld.own 0 (by exact rfl)) (by simp only [List.length_append, List.length_cons, List.length_nil] at *; omega) (by decide)) ?_
      rintro _ _ ⟨A2, k1, rfl, rfl, hA2⟩
      replace hA2 := hA2 (.inr (by simp))
      refine O.p rfl rfl rfl (Pu.assign rfl rfl) ?_
      refine O.nil ?_
      refine X.blockNormal ?_
      refine X.next ?_
      refine V.region ?_
      refine O.p rfl rfl rfl (Pu.add64 (r := ((i + 1 : Nat) : Int)) rfl (by omega) rfl rfl rfl) ?_
      refine O.p rfl rfl rfl (Pu.move rfl rfl) ?_
      refine O.nil ?_
      exact X.back3 (A2, k1, (out ++ ([(↑i : Int)] : List Int)), i + 1) (by (try dsimp only); exact ⟨by omega, by rw [ho, numsAt_yes e1 c2], by simp only [List.length_append, List.length_singleton]; omega⟩) (by first | omega | (dsimp only; omega)) (Ent.cons rfl (Ent.cons rfl (Ent.nil _))) (Ent.cons (t := 1) rfl (Ent.cons (t := 9) rfl (Ent.cons (t := 10) rfl (Ent.nil _)))) (Sub.keep 2 rfl (Sub.keep 2 rfl (Sub.nil _)))
    · skip
      refine V.skip ?_
      refine X.blockNormal ?_
      refine X.next ?_
      refine V.region ?_
      refine O.p rfl rfl rfl (Pu.add64 (r := ((i + 1 : Nat) : Int)) rfl (by omega) rfl rfl rfl) ?_
      refine O.p rfl rfl rfl (Pu.move rfl rfl) ?_
      refine O.nil ?_
      exact X.back3 (outA, outc, out, i + 1) (by (try dsimp only); exact ⟨by omega, by rw [ho, numsAt_no e1 c2], by omega⟩) (by first | omega | (dsimp only; omega)) (Ent.cons rfl (Ent.cons rfl (Ent.nil _))) (Ent.cons (t := 1) rfl (Ent.cons (t := 9) rfl (Ent.cons (t := 10) rfl (Ent.nil _)))) (Sub.keep 1 rfl (Sub.keep 1 rfl (Sub.nil _)))
  · skip
    refine V.exit ?_
    refine X.thenExit ?_
    refine X.thenExit ?_
    refine X.blockHit ?_
    refine X.next ?_
    refine V.seq ?_
    refine V.region ?_
    refine O.p rfl rfl rfl (Pu.move rfl rfl) ?_
    refine O.p rfl rfl rfl (Pu.assign rfl rfl) ?_
    refine O.nil ?_
    refine X.next ?_
    refine V.ret ?_
    refine X.ret1 rfl rfl ?_
    exact fun w hw => St.mkExi outA (St.mkExi outc (St.mkExi out (St.unsep (St.addPur ⟨rfl, by rw [ho, show i = bs.length by omega]⟩ (hw.sub (Sub.keep 0 rfl (Sub.nil _)))))))
set_option maxRecDepth 100000 in
theorem markBlockX_ok (xs : List B3) (m : Int) (A : Option Addr) (c : Nat) (w0 : World) (H : List Assn) (hm : 0 ≤ m ∧ m ≤ 1152921504606846976) (lx : xs.length ≤ 1099511627776) : Does Try.prog 30 [.slice A xs.length c, .int .i64 m] w0 (Own 66 B3C A c xs :: H) (fun v => .pur (v = .int .i64 (m + 3 * xs.length)) :: Own 66 B3C A c (marksB m xs.length) :: H) := by
  refine Does.enter Try.func30 rfl rfl [(0, .slice A xs.length c), (1, .int .i64 m)] rfl ?_
  refine V.seq ?_
  refine V.region ?_
  refine O.p rfl rfl rfl (Pu.assign rfl rfl) ?_
  refine O.nil ?_
  refine X.next ?_
  refine V.seq ?_
  refine V.seq ?_
  refine V.region ?_
  refine O.p rfl rfl rfl (Pu.assign rfl rfl) ?_
  refine O.nil ?_
  refine X.next ?_
  refine V.block ?_
  refine V.loop3 (β := Nat) (fun k => [(5, .int .i64 (k : Int)), (1, .int .i64 (m + 3 * (k : Int)))]) _ (fun k => [Own 66 B3C A c (markBAt xs m k)]) _ (fun k => k ≤ xs.length) (fun k => xs.length - k) 0 (by omega) (Ent.cons rfl (Ent.cons' rfl (iv (by omega)) (Ent.nil _))) (Ent.cons (t := 0) rfl (Ent.cons (t := 4) rfl (Ent.nil _))) (Sub.cons 0 rfl (fun w F h => by rw [markBAt_zero]; exact h) (Sub.refl _)) ?_
  rintro k hk
  refine V.seq ?_
  refine V.seq ?_
  refine V.region ?_
  refine O.p rfl rfl rfl (Pu.move rfl rfl) ?_
  refine O.p rfl rfl rfl (Pu.move rfl rfl) ?_
  refine O.p rfl rfl rfl (Pu.len rfl Try.underlying28 rfl) ?_
  refine O.p rfl rfl rfl (Pu.lss rfl rfl rfl) ?_
  refine O.nil ?_
  refine X.next ?_
  refine V.condD rfl (fun c1 => ?_) (fun c1 => ?_)
  · skip
    refine V.skip ?_
    refine X.next ?_
    refine V.seq ?_
    refine V.block ?_
    refine V.seq ?_
    refine V.region ?_
    refine O.p rfl rfl rfl (Pu.assign rfl rfl) ?_
    refine O.nil ?_
    refine X.next ?_
    refine V.block ?_
    refine V.unroll 3 ?_
    refine V.seq ?_
    refine V.seq ?_
    refine V.region ?_
    refine O.p rfl rfl rfl (Pu.move rfl rfl) ?_
    refine O.p rfl rfl rfl (Pu.isT (by decide) (Pu.lss rfl rfl rfl)) ?_
    refine O.nil ?_
    refine X.next ?_
    refine V.condT rfl ?_
    refine V.skip ?_
    refine X.next ?_
    refine V.seq ?_
    refine V.block ?_
    refine V.seq ?_
    refine V.region ?_
    refine O.p rfl rfl rfl (Pu.move rfl rfl) ?_
    refine O.p rfl rfl rfl (Pu.move rfl rfl) ?_
    refine O.p rfl rfl rfl (Pu.move rfl rfl) ?_
    refine O.p rfl rfl rfl (Pu.move rfl rfl) ?_
    refine O.p rfl rfl rfl (Pu.indexAddrS (k) rfl Try.underlying28 sz66 rfl rfl (by omega) (by omega) (fun w hw => Own.some hw (i := 0) (by exact rfl) (by (try simp only [List.length_set]); rw [markBAt_len hk]; omega))) ?_
    refine O.p rfl rfl rfl (Pu.indexArr' (0) rfl Try.underlying66 sz2 rfl rfl (by omega) (by omega) rfl (fun w hw => by have := Own.some hw (i := 0) (by exact rfl) (by (try simp only [List.length_set]); rw [markBAt_len hk]; omega); simpa using this)) ?_
    refine O.s rfl rfl (Ef.storeOwnAt 0 (k) (0) (((m + 3 * (↑k : Int)), ((markBAt xs m k)[k]'(by (try simp only [List.length_set]); rw [markBAt_len hk]; omega)).2.1, ((markBAt xs m k)[k]'(by (try simp only [List.length_set]); rw [markBAt_len hk]; omega)).2.2) : B3) rfl sz2 rfl rfl rfl rfl (by (try simp only [List.length_set]); rw [markBAt_len hk]; omega) (by decide) rfl rfl (by rfl)) ?_
    rintro _ _ rfl
    refine O.nil ?_
    refine X.next ?_
    refine V.region ?_
    refine O.p rfl rfl rfl (Pu.move rfl rfl) ?_
    refine O.p rfl rfl rfl (Pu.add64 rfl (by omega) rfl rfl rfl) ?_
    refine O.p rfl rfl rfl (Pu.assign rfl rfl) ?_
    refine O.nil ?_
    refine X.blockNormal ?_
    refine X.next ?_
    refine V.region ?_
    refine O.p rfl rfl rfl (Pu.move rfl rfl) ?_
    refine O.p rfl rfl rfl (Pu.add64 (r := 1) (by decide) (by decide) rfl rfl rfl) ?_
    refine O.p rfl rfl rfl (Pu.assign rfl rfl) ?_
    refine O.nil ?_
    refine X.again 2 ?_
    refine V.seq ?_
    refine V.seq ?_
    refine V.region ?_
    refine O.p rfl rfl rfl (Pu.move rfl rfl) ?_
    refine O.p rfl rfl rfl (Pu.isT (by decide) (Pu.lss rfl rfl rfl)) ?_
    refine O.nil ?_
    refine X.next ?_
    refine V.condT rfl ?_
    refine V.skip ?_
    refine X.next ?_
    refine V.seq ?_
    refine V.block ?_
    refine V.seq ?_
    refine V.region ?_
    refine O.p rfl rfl rfl (Pu.move rfl rfl) ?_
    refine O.p rfl rfl rfl (Pu.move rfl rfl) ?_
    refine O.p rfl rfl rfl (Pu.move rfl rfl) ?_
    refine O.p rfl rfl rfl (Pu.move rfl rfl) ?_
    refine O.p rfl rfl rfl (Pu.indexAddrS (k) rfl Try.underlying28 sz66 rfl rfl (by omega) (by omega) (fun w hw => Own.some hw (i := 0) (by exact rfl) (by (try simp only [List.length_set]); rw [markBAt_len hk]; omega))) ?_
    refine O.p rfl rfl rfl (Pu.indexArr' (1) rfl Try.underlying66 sz2 rfl rfl (by omega) (by omega) rfl (fun w hw => by have := Own.some hw (i := 0) (by exact rfl) (by (try simp only [List.length_set]); rw [markBAt_len hk]; omega); simpa using this)) ?_
    refine O.s rfl rfl (Ef.storeOwnAt 0 (k) (1) (((((markBAt xs m k).set k (((m + 3 * (↑k : Int)), ((markBAt xs m k)[k]'(by (try simp only [List.length_set]); rw [markBAt_len hk]; omega)).2.1, ((markBAt xs m k)[k]'(by (try simp only [List.length_set]); rw [markBAt_len hk]; omega)).2.2) : B3))[k]'(by (try simp only [List.length_set]); rw [markBAt_len hk]; omega)).1, ((m + 3 * (↑k : Int)) + (1 : Int)), (((markBAt xs m k).set k (((m + 3 * (↑k : Int)), ((markBAt xs m k)[k]'(by (try simp only [List.length_set]); rw [markBAt_len hk]; omega)).2.1, ((markBAt xs m k)[k]'(by (try simp only [List.length_set]); rw [markBAt_len hk]; omega)).2.2) : B3))[k]'(by (try simp only [List.length_set]); rw [markBAt_len hk]; omega)).2.2) : B3) rfl sz2 rfl rfl rfl rfl (by (try simp only [List.length_set]); rw [markBAt_len hk]; omega) (by decide) rfl rfl (by rfl)) ?_
    rintro _ _ rfl
    refine O.nil ?_
    refine X.next ?_
    refine V.region ?_
    refine O.p rfl rfl rfl (Pu.move rfl rfl) ?_
    refine O.p rfl rfl rfl (Pu.add64 rfl (by omega) rfl rfl rfl) ?_
    refine O.p rfl rfl rfl (Pu.assign rfl rfl) ?_
    refine O.nil ?_
    refine X.blockNormal ?_
    refine X.next ?_
    refine V.region ?_
    refine O.p rfl rfl rfl (Pu.move rfl rfl) ?_
    refine O.p rfl rfl rfl (Pu.add64 (r := 2) (by decide) (by decide) rfl rfl rfl) ?_
    refine O.p rfl rfl rfl (Pu.assign rfl rfl) ?_
    refine O.nil ?_
    refine X.again 1 ?_
    refine V.seq ?_
    refine V.seq ?_
    refine V.region ?_
    refine O.p rfl rfl rfl (Pu.move rfl rfl) ?_
    refine O.p rfl rfl rfl (Pu.isT (by decide) (Pu.lss rfl rfl rfl)) ?_
    refine O.nil ?_
    refine X.next ?_
    refine V.condT rfl ?_
    refine V.skip ?_
    refine X.next ?_
    refine V.seq ?_
    refine V.block ?_
    refine V.seq ?_
    refine V.region ?_
    refine O.p rfl rfl rfl (Pu.move rfl rfl) ?_
    refine O.p rfl rfl rfl (Pu.move rfl rfl) ?_
    refine O.p rfl rfl rfl (Pu.move rfl rfl) ?_
    refine O.p rfl rfl rfl (Pu.move rfl rfl) ?_
    refine O.p rfl rfl rfl (Pu.indexAddrS (k) rfl Try.underlying28 sz66 rfl rfl (by omega) (by omega) (fun w hw => Own.some hw (i := 0) (by exact rfl) (by (try simp only [List.length_set]); rw [markBAt_len hk]; omega))) ?_
    refine O.p rfl rfl rfl (Pu.indexArr' (2) rfl Try.underlying66 sz2 rfl rfl (by omega) (by omega) rfl (fun w hw => by have := Own.some hw (i := 0) (by exact rfl) (by (try simp only [List.length_set]); rw [markBAt_len hk]; omega); simpa using this)) ?_
    refine O.s rfl rfl (Ef.storeOwnAt 0 (k) (2) ((((((markBAt xs m k).set k (((m + 3 * (↑k : Int)), ((markBAt xs m k)[k]'(by (try simp only [List.length_set]); rw [markBAt_len hk]; omega)).2.1, ((markBAt xs m k)[k]'(by (try simp only [List.length_set]); rw [markBAt_len hk]; omega)).2.2) : B3)).set k (((((markBAt xs m k).set k (((m + 3 * (↑k : Int)), ((markBAt xs m k)[k]'(by (try simp only [List.length_set]); rw [markBAt_len hk]; omega)).2.1, ((markBAt xs m k)[k]'(by (try simp only [List.length_set]); rw [markBAt_len hk]; omega)).2.2) : B3))[k]'(by (try simp only [List.length_set]); rw [markBAt_len hk]; omega)).1, ((m + 3 * (↑k : Int)) + (1 : Int)), (((markBAt xs m k).set k (((m + 3 * (↑k : Int)), ((markBAt xs m k)[k]'(by (try simp only [List.length_set]); rw [markBAt_len hk]; omega)).2.1, ((markBAt xs m k)[k]'(by (try simp only [List.length_set]); rw [markBAt_len hk]; omega)).2.2) : B3))[k]'(by (try simp only [List.length_set]); rw [markBAt_len hk]; omega)).2.2) : B3))[k]'(by (try simp only [List.length_set]); rw [markBAt_len hk]; omega)).1, ((((markBAt xs m k).set k (((m + 3 * (↑k : Int)), ((markBAt xs m k)[k]'(by (try simp only [List.length_set]); rw [markBAt_len hk]; omega)).2.1, ((markBAt xs m k)[k]'(by (try simp only [List.length_set]); rw [markBAt_len hk]; omega)).2.2) : B3)).set k (((((markBAt xs m k).set k (((m + 3 * (↑k : Int)), ((markBAt xs m k)[k]'(by (try simp only [List.length_set]); rw [markBAt_len hk]; omega)).2.1, ((markBAt xs m k)[k]'(by (try simp only [List.length_set]); rw [markBAt_len hk]; omega)).2.2) : B3))[k]'(by (try simp only [List.length_set]); rw [markBAt_len hk]; omega)).1, ((m + 3 * (↑k : Int)) + (1 : Int)), (((markBAt xs m k).set k (((m + 3 * (↑k : Int)), ((markBAt xs m k)[k]'(by (try simp only [List.length_set]); rw [markBAt_len hk]; omega)).2.1, ((markBAt xs m k)[k]'(by (try simp only [List.length_set]); rw [markBAt_len hk]; omega)).2.2) : B3))[k]'(by (try simp only [List.length_set]); rw [markBAt_len hk]; omega)).2.2) : B3))[k]'(by (try simp only [List.length_set]); rw [markBAt_len hk]; omega)).2.1, (((m + 3 * (↑k : Int)) + (1 : Int)) + (1 : Int))) : B3) rfl sz2 rfl rfl rfl rfl (by (try simp only [List.length_set]); rw [markBAt_len hk]; omega) (by decide) rfl rfl (by rfl)) ?_
    rintro _ _ rfl
    refine O.nil ?_
    refine X.next ?_
    refine V.region ?_
    refine O.p rfl rfl rfl (Pu.move rfl rfl) ?_
    refine O.p rfl rfl rfl (Pu.add64 rfl (by omega) rfl rfl rfl) ?_
    refine O.p rfl rfl rfl (Pu.assign rfl rfl) ?_
    refine O.nil ?_
    refine X.blockNormal ?_
    refine X.next ?_
    refine V.region ?_
    refine O.p rfl rfl rfl (Pu.move rfl rfl) ?_
    refine O.p rfl rfl rfl (Pu.add64 (r := 3) (by decide) (by decide) rfl rfl rfl) ?_
    refine O.p rfl rfl rfl (Pu.assign rfl rfl) ?_
    refine O.nil ?_
    refine X.again 0 ?_
    refine V.seq ?_
    refine V.seq ?_
    refine V.region ?_
    refine O.p rfl rfl rfl (Pu.move rfl rfl) ?_
    refine O.p rfl rfl rfl (Pu.isF (by decide) (Pu.lss rfl rfl rfl)) ?_
    refine O.nil ?_
    refine X.next ?_
    refine V.condF rfl ?_
    refine V.exit ?_
    refine X.thenExit ?_
    refine X.thenExit ?_
    refine X.blockHit ?_
    refine X.blockNormal ?_
    refine X.next ?_
    refine V.region ?_
    refine O.p rfl rfl rfl (Pu.move rfl rfl) ?_
    refine O.p rfl rfl rfl (Pu.add64 (r := ((k + 1 : Nat) : Int)) rfl (by omega) rfl rfl rfl) ?_
    refine O.p rfl rfl rfl (Pu.assign rfl rfl) ?_
    refine O.nil ?_
    exact X.back3 (k + 1) (by omega) (by omega) (Ent.cons rfl (Ent.cons' rfl (iv (by omega)) (Ent.nil _))) (Ent.cons (t := 0) rfl (Ent.cons (t := 4) rfl (Ent.nil _))) (Sub.cons 0 rfl (fun w F h => by have e : ((((markBAt xs m k).set k (((m + 3 * (↑k : Int)), ((markBAt xs m k)[k]'(by (try simp only [List.length_set]); rw [markBAt_len hk]; omega)).2.1, ((markBAt xs m k)[k]'(by (try simp only [List.length_set]); rw [markBAt_len hk]; omega)).2.2) : B3)).set k (((((markBAt xs m k).set k (((m + 3 * (↑k : Int)), ((markBAt xs m k)[k]'(by (try simp only [List.length_set]); rw [markBAt_len hk]; omega)).2.1, ((markBAt xs m k)[k]'(by (try simp only [List.length_set]); rw [markBAt_len hk]; omega)).2.2) : B3))[k]'(by (try simp only [List.length_set]); rw [markBAt_len hk]; omega)).1, ((m + 3 * (↑k : Int)) + (1 : Int)), (((markBAt xs m k).set k (((m + 3 * (↑k : Int)), ((markBAt xs m k)[k]'(by (try simp only [List.length_set]); rw [markBAt_len hk]; omega)).2.1, ((markBAt xs m k)[k]'(by (try simp only [List.length_set]); rw [markBAt_len hk]; omega)).2.2) : B3))[k]'(by (try simp only [List.length_set]); rw [markBAt_len hk]; omega)).2.2) : B3)).set k ((((((markBAt xs m k).set k (((m + 3 * (↑k : Int)), ((markBAt xs m k)[k]'(by (try simp only [List.length_set]); rw [markBAt_len hk]; omega)).2.1, ((markBAt xs m k)[k]'(by (try simp only [List.length_set]); rw [markBAt_len hk]; omega)).2.2) : B3)).set k (((((markBAt xs m k).set k (((m + 3 * (↑k : Int)), ((markBAt xs m k)[k]'(by (try simp only [List.length_set]); rw [markBAt_len hk]; omega)).2.1, ((markBAt xs m k)[k]'(by (try simp only [List.length_set]); rw [markBAt_len hk]; omega)).2.2) : B3))[k]'(by (try simp only [List.length_set]); rw [markBAt_len hk]; omega)).1, ((m + 3 * (↑k : Int)) + (1 : Int)), (((markBAt xs m k).set k (((m + 3 * (↑k : Int)), ((markBAt xs m k)[k]'(by (try simp only [List.length_set]); rw [markBAt_len hk]; omega)).2.1, ((markBAt xs m k)[k]'(by (try simp only [List.length_set]); rw [markBAt_len hk]; omega)).2.2) : B3))[k]'(by (try simp only [List.length_set]); rw [markBAt_len hk]; omega)).2.2) : B3))[k]'(by (try simp only [List.length_set]); rw [markBAt_len hk]; omega)).1, ((((markBAt xs m k).set k (((m + 3 * (↑k : Int)), ((markBAt xs m k)[k]'(by (try simp only [List.length_set]); rw [markBAt_len hk]; omega)).2.1, ((markBAt xs m k)[k]'(by (try simp only [List.length_set]); rw [markBAt_len hk]; omega)).2.2) : B3)).set k (((((markBAt xs m k).set k (((m + 3 * (↑k : Int)), ((markBAt xs m k)[k]'(by (try simp only [List.length_set]); rw [markBAt_len hk]; omega)).2.1, ((markBAt xs m k)[k]'(by (try simp only [List.length_set]); rw [markBAt_len hk]; omega)).2.2) : B3))[k]'(by (try simp only [List.length_set]); rw [markBAt_len hk]; omega)).1, ((m + 3 * (↑k : Int)) + (1 : Int)), (((markBAt xs m k).set k (((m + 3 * (↑k : Int)), ((markBAt xs m k)[k]'(by (try simp only [List.length_set]); rw [markBAt_len hk]; omega)).2.1, ((markBAt xs m k)[k]'(by (try simp only [List.length_set]); rw [markBAt_len hk]; omega)).2.2) : B3))[k]'(by (try simp only [List.length_set]); rw [markBAt_len hk]; omega)).2.2) : B3))[k]'(by (try simp only [List.length_set]); rw [markBAt_len hk]; omega)).2.1, (((m + 3 * (↑k : Int)) + (1 : Int)) + (1 : Int))) : B3)) = markBAt xs m (k + 1) := (by rw [← markBAt_set (m := m) (k := k) (by omega)]; simp only [List.set_set, List.getElem_set_self]; congr 1; refine Prod.ext ?_ (Prod.ext ?_ ?_) <;> dsimp only <;> omega); exact e ▸ h) (Sub.refl _))
  · skip
    refine V.exit ?_
    refine X.thenExit ?_
    refine X.thenExit ?_
    refine X.blockHit ?_
    refine X.next ?_
    refine V.seq ?_
    refine V.region ?_
    refine O.p rfl rfl rfl (Pu.move rfl rfl) ?_
    refine O.p rfl rfl rfl (Pu.assign rfl rfl) ?_
    refine O.nil ?_
    refine X.next ?_
    refine V.ret ?_
    refine X.ret1 rfl rfl ?_
    exact fun w hw => St.addPur (iv (by omega)) (hw.sub (Sub.cons 0 rfl (fun w F h => by rw [markBAt_all (by omega)] at h; exact h) (Sub.refl _)))
set_option maxRecDepth 100000 in
theorem markSystemX_ok (p : Int) (xs : List B3) (m : Int) (A : Option Addr) (c : Nat) (w0 : World) (H : List Assn) (hm : 0 ≤ m ∧ m ≤ 1152921504606846976) (lx : xs.length ≤ 1099511627776) : Does Try.prog 14 [.agg #[.int .i64 p, .slice A xs.length c], .int .i64 m] w0 (Own 66 B3C A c xs :: H) (fun v => .pur (v = .int .i64 (m + 3 * xs.length)) :: Own 66 B3C A c (marksB m xs.length) :: H) := by
  refine Does.enter Try.func14 rfl rfl [(0, .agg #[.int .i64 p, .slice A xs.length c]), (1, .int .i64 m)] rfl ?_
  refine V.seq ?_
  refine V.region ?_
  refine O.e rfl rfl rfl (Ef.box rfl rfl rfl) ?_
  rintro _ _ ⟨b1, rfl, rfl⟩
  refine O.p rfl rfl rfl (Pu.assign rfl rfl) ?_
  refine O.nil ?_
  refine X.next ?_
  refine V.seq ?_
  refine V.region ?_
  refine O.p rfl rfl rfl (Pu.fieldAddr 1 rfl Try.underlying30 rfl sz28 rfl rfl) ?_
  refine O.p rfl rfl rfl (Pu.load rfl pl28 rfl (Ld.blk 0 rfl rfl)) ?_
  refine O.p rfl rfl rfl (Pu.move rfl rfl) ?_
  refine O.e rfl rfl rfl (Ef.callM 1 call30 rfl rfl rfl (fun H _ => markBlockX_ok _ _ _ _ _ H (by omega) (by omega))) ?_
  rintro _ _ ⟨rfl, rfl⟩
  refine O.p rfl rfl rfl (Pu.assign rfl rfl) ?_
  refine O.nil ?_
  refine X.next ?_
  refine V.seq ?_
  refine V.region ?_
  refine O.p rfl rfl rfl (Pu.move rfl rfl) ?_
  refine O.p rfl rfl rfl (Pu.assign rfl rfl) ?_
  refine O.nil ?_
  refine X.next ?_
  refine V.ret ?_
  refine X.ret1 rfl rfl ?_
  exact fun w hw => St.addPur rfl (hw.sub (Sub.keep 1 rfl (Sub.drop (Sub.refl _))))
def layI_ren : Go.Shelf.Ren := ⟨fun | 5 => 83 | 8 => 85 | 7 => 106 | 19 => 115 | 20 => 116 | 10 => 122 | 11 => 123 | 12 => 124 | 13 => 125 | 14 => 126 | 15 => 127 | 16 => 128 | 17 => 129 | 18 => 130 | 30 => 139 | 31 => 132 | 32 => 133 | 33 => 140 | 34 => 141 | 35 => 100 | 40 => 143 | n => n, fun | 23 => 52 | 25 => 2 | 3 => 3 | 32 => 112 | 22 => 52 | 0 => 0 | 44 => 139 | 46 => 84 | 4 => 4 | 36 => 132 | 35 => 131 | 41 => 136 | 5 => 5 | 9 => 9 | 53 => 155 | 57 => 159 | 63 => 166 | 64 => 167 | n => n, fun | n => n⟩
theorem layI : SlLaysM.n5 Try.prog layI_ren where
  mixed := by kernel_rfl
  f5 := ⟨Try.f83.name, by decide, Try.func83.trans (congrArg some (by kernel_rfl))⟩
  f7 := ⟨Try.f106.name, by decide, Try.func106.trans (congrArg some (by kernel_rfl))⟩
  f8 := Try.func85.trans (congrArg some (by kernel_rfl))
  f10 := ⟨Try.f122.name, by decide, Try.func122.trans (congrArg some (by kernel_rfl))⟩
  f11 := ⟨Try.f123.name, by decide, Try.func123.trans (congrArg some (by kernel_rfl))⟩
  f12 := ⟨Try.f124.name, by decide, Try.func124.trans (congrArg some (by kernel_rfl))⟩
  f13 := ⟨Try.f125.name, by decide, Try.func125.trans (congrArg some (by kernel_rfl))⟩
  f14 := ⟨Try.f126.name, by decide, Try.func126.trans (congrArg some (by kernel_rfl))⟩
  f15 := ⟨Try.f127.name, by decide, Try.func127.trans (congrArg some (by kernel_rfl))⟩
  f16 := ⟨Try.f128.name, by decide, Try.func128.trans (congrArg some (by kernel_rfl))⟩
  f17 := ⟨Try.f129.name, by decide, Try.func129.trans (congrArg some (by kernel_rfl))⟩
  f18 := ⟨Try.f130.name, by decide, Try.func130.trans (congrArg some (by kernel_rfl))⟩
  f19 := Try.func115.trans (congrArg some (by kernel_rfl))
  f20 := Try.func116.trans (congrArg some (by kernel_rfl))
  f30 := ⟨Try.f139.name, by decide, Try.func139.trans (congrArg some (by kernel_rfl))⟩
  f31 := Try.func132.trans (congrArg some (by kernel_rfl))
  f32 := Try.func133.trans (congrArg some (by kernel_rfl))
  f33 := ⟨Try.f140.name, by decide, Try.func140.trans (congrArg some (by kernel_rfl))⟩
  f34 := ⟨Try.f141.name, by decide, Try.func141.trans (congrArg some (by kernel_rfl))⟩
  f35 := ⟨Try.f100.name, by decide, Try.func100.trans (congrArg some (by kernel_rfl))⟩
  f40 := ⟨Try.f143.name, by decide, Try.func143.trans (congrArg some (by kernel_rfl))⟩
  t0 := Try.underlying0
  a0 := Try.isAgg0
  z0 := Try.sizeOf0
  v0 := Try.zeroValue0
  t3 := Try.underlying3
  a3 := Try.isAgg3
  z3 := Try.sizeOf3
  v3 := Try.zeroValue3
  t4 := Try.underlying4
  a4 := Try.isAgg4
  z4 := Try.sizeOf4
  v4 := Try.zeroValue4
  t5 := Try.underlying5
  a5 := Try.isAgg5
  z5 := Try.sizeOf5
  v5 := Try.zeroValue5
  t9 := Try.underlying9
  a9 := Try.isAgg9
  z9 := Try.sizeOf9
  v9 := Try.zeroValue9
  t22 := Try.underlying52
  a22 := Try.isAgg52
  z22 := Try.sizeOf52
  v22 := Try.zeroValue52
  t23 := Try.underlying52
  a23 := Try.isAgg52
  z23 := Try.sizeOf52
  v23 := Try.zeroValue52
  t25 := Try.underlying2
  a25 := Try.isAgg2
  z25 := Try.sizeOf2
  v25 := Try.zeroValue2
  t32 := Try.underlying112
  a32 := Try.isAgg112
  z32 := Try.sizeOf112
  v32 := Try.zeroValue112
  t35 := Try.underlying131
  a35 := Try.isAgg131
  z35 := Try.sizeOf131
  v35 := Try.zeroValue131
  t36 := Try.underlying132
  a36 := Try.isAgg132
  z36 := Try.sizeOf132
  v36 := Try.zeroValue132
  t41 := Try.underlying136
  a41 := Try.isAgg136
  z41 := Try.sizeOf136
  v41 := Try.zeroValue136
  t44 := Try.underlying139
  a44 := Try.isAgg139
  z44 := Try.sizeOf139
  v44 := Try.zeroValue139
  t46 := Try.underlying84
  a46 := Try.isAgg84
  z46 := Try.sizeOf84
  v46 := Try.zeroValue84
  t53 := Try.underlying155
  a53 := Try.isAgg155
  z53 := Try.sizeOf155
  v53 := Try.zeroValue155
  t57 := Try.underlying159
  a57 := Try.isAgg159
  z57 := Try.sizeOf159
  v57 := Try.zeroValue159
  t63 := Try.underlying166
  a63 := Try.isAgg166
  z63 := Try.sizeOf166
  v63 := Try.zeroValue166
  t64 := Try.underlying167
  a64 := Try.isAgg167
  z64 := Try.sizeOf167
  v64 := Try.zeroValue167
theorem sortInt_ok (xs : List Int) (xsA : Option Addr) (xsc : Nat) (w0 : World) (H : List Assn) (lxs : xs.length ≤ 1099511627776) : Does Try.prog 83 [.slice xsA xs.length xsc] w0 (Own 2 I64 xsA xsc xs :: H) (fun v => [.sep (.pur (v = .tuple #[])) (Own 2 I64 xsA xsc (sortI xs))] ++ H) :=
  sortI_does layI (by omega)
theorem sort3_ok (x y z : Int) (g c T : Nat) (w0 : World) (H : List Assn) : Does Try.prog 83 [.slice (some ⟨g, 0, none⟩) 3 c] w0 (Blk g [.int .i64 x, .int .i64 y, .int .i64 z] T :: H) (fun v => [.sep (.pur (v = .tuple #[])) (Blk g [.int .i64 (lo3 x y z), .int .i64 (mi3 x y z), .int .i64 (hi3 x y z)] T)] ++ H) :=
  sort3_blk layI x y z
set_option maxRecDepth 100000 in
set_option maxHeartbeats 1000000 in
theorem blockOf_ok (a : Int) (b : Int) (c_ : Int) (w : World) : Does Try.prog 82 [.int .i64 a, .int .i64 b, .int .i64 c_] w [] (fun r => [.pur (r = B3.v (bk3 a b c_))]) := by
  refine Does.enter Try.func82 rfl rfl [(0, .int .i64 a), (1, .int .i64 b), (2, .int .i64 c_)] rfl ?_
  refine V.seq ?_
  refine V.region ?_
  refine O.e rfl rfl rfl (Ef.alloc rfl zr66 rfl) ?_
  rintro _ _ ⟨b1, rfl, rfl⟩
  refine O.nil ?_
  refine X.next ?_
  refine V.seq ?_
  refine V.region ?_
  refine O.p rfl rfl rfl (Pu.move rfl rfl) ?_
  refine O.p rfl rfl rfl (Pu.move rfl rfl) ?_
  refine O.p rfl rfl rfl (Pu.move rfl rfl) ?_
  refine O.p rfl rfl rfl (Pu.buildA (cs := [.int .i64 a, .int .i64 b, .int .i64 c_]) (v := B3.v (a, b, c_)) rfl rfl Try.underlying66 zr66 sz2 rfl (by kernel_rfl)) ?_
  refine O.e rfl rfl rfl (Ef.alloc rfl zr66 rfl) ?_
  rintro _ _ ⟨b2, rfl, rfl⟩
  refine O.s rfl rfl (Ef.storeAll 0 rfl sz66 rfl rfl rfl rfl (by simp [Value.oneCell']) rfl) ?_
  rintro _ _ rfl
  refine O.nil ?_
  refine X.next ?_
  refine V.seq ?_
  refine V.region ?_
  refine O.p rfl rfl rfl (Pu.slicePtr rfl Try.underlying66 sz2 rfl) ?_
  refine O.e rfl rfl rfl (Ef.call call83 rfl rfl (Does.pre (fun w hw => hw.sub (Sub.keep 0 rfl (Sub.keep 0 rfl (Sub.nil _)))) (sort3_ok a b c_ _ _ _ w _))) ?_
  rintro _ _ rfl
  refine O.sep ?_
  refine O.pur ?_
  rintro rfl
  refine O.nil ?_
  refine X.next ?_
  refine V.seq ?_
  refine V.region ?_
  refine O.p rfl rfl rfl (Pu.loadAgg' (v := B3.v (bk3 a b c_)) rfl rfl ag66 sz66 rfl rfl (Ld.whole 0 rfl)) ?_
  refine O.s rfl rfl (Ef.storeAll 1 rfl sz66 rfl rfl rfl rfl (by simp [Value.oneCell']) rfl) ?_
  rintro _ _ rfl
  refine O.nil ?_
  refine X.next ?_
  refine V.ret ?_
  refine X.retCell rfl ag66 sz66 rfl rfl (Ld.whole 1 rfl) ?_
  exact fun w hw => St.retP (rfl) hw
set_option maxRecDepth 100000 in
set_option maxHeartbeats 1000000 in
theorem l01At_ok (v : Int) (bs : List B3) (p : Int) (A : Option Addr) (c : Nat) (w : World) (hx : Rd B3C w A bs) (lx : bs.length ≤ 4611686018427387904) (lb : bs.length ≤ 1000000) : Does Try.prog 65 [.agg #[.int .i64 v, .slice A bs.length c], .int .i64 p] w [] (fun rv_ => [.exi fun (rA : Option Addr) => .exi fun (rc : Nat) => .exi fun (r : List Int) => .sep (.pur (rv_ = .slice rA r.length rc ∧ r = atL bs p)) (Own 2 I64 rA rc r)]) := by
  refine Does.enter Try.func65 rfl rfl [(0, .agg #[.int .i64 v, .slice A bs.length c]), (1, .int .i64 p)] rfl ?_
  refine V.seq ?_
  refine V.region ?_
  refine O.e rfl rfl rfl (Ef.box rfl rfl rfl) ?_
  rintro _ _ ⟨b1, rfl, rfl⟩
  refine O.p rfl rfl rfl (Pu.assign rfl rfl) ?_
  refine O.nil ?_
  refine X.next ?_
  refine V.seq ?_
  refine V.region ?_
  refine O.e rfl rfl rfl (Ef.build I64 ([] : List Int) rfl Try.underlying52 inf2 rfl rfl rfl (by first | decide | (simp; done)) (by kernel_rfl)) ?_
  rintro _ _ ⟨A1, hA1, rfl, rfl⟩
  refine O.p rfl rfl rfl (Pu.assign rfl rfl) ?_
  refine O.nil ?_
  refine X.next ?_
  refine V.seq ?_
  refine V.seq ?_
  refine V.region ?_
  refine O.p rfl rfl rfl (Pu.assign rfl rfl) ?_
  refine O.nil ?_
  refine X.next ?_
  refine V.block ?_
  refine V.loop3 (β := (Option Addr) × Nat × (List Int) × Nat) (fun x => [(5, .slice x.1 x.2.2.1.length x.2.1), (6, .int .i64 (x.2.2.2 : Int))]) _ (fun x => [Own 2 I64 x.1 x.2.1 x.2.2.1]) _ (fun x => x.2.2.2 ≤ bs.length ∧ x.2.2.1 = numsAt (fun c => has c p) bs x.2.2.2 ∧ x.2.2.1.length ≤ x.2.2.2) (fun x => bs.length - x.2.2.2) (A1, 0, ([] : List Int), 0) (by (try dsimp only); exact ⟨by omega, rfl, by simp⟩) (Ent.cons rfl (Ent.cons rfl (Ent.nil _))) (Ent.cons (t := 1) rfl (Ent.cons (t := 2) rfl (Ent.nil _))) (Sub.keep 0 rfl (Sub.keep 0 rfl (Sub.nil _))) ?_
  rintro ⟨outA, outc, out, i⟩ ⟨hi, ho, hl⟩
  dsimp only at hi ho hl ⊢
  refine V.seq ?_
  refine V.seq ?_
  refine V.region ?_
  refine O.p rfl rfl rfl (Pu.move rfl rfl) ?_
  refine O.p rfl rfl rfl (Pu.fieldAddr 1 rfl Try.underlying30 rfl sz28 rfl rfl) ?_
  refine O.p rfl rfl rfl (Pu.load rfl pl28 rfl (Ld.blk 1 rfl rfl)) ?_
  refine O.p rfl rfl rfl (Pu.len rfl Try.underlying28 rfl) ?_
  refine O.p rfl rfl rfl (Pu.lss rfl rfl rfl) ?_
  refine O.nil ?_
  refine X.next ?_
  refine V.condD rfl (fun c1 => ?_) (fun c1 => ?_)
  · skip
    refine V.skip ?_
    refine X.next ?_
    refine V.seq ?_
    refine V.block ?_
    refine V.seq ?_
    refine V.region ?_
    refine O.p rfl rfl rfl (Pu.fieldAddr 1 rfl Try.underlying30 rfl sz28 rfl rfl) ?_
    refine O.p rfl rfl rfl (Pu.load rfl pl28 rfl (Ld.blk 1 rfl rfl)) ?_
    refine O.p rfl rfl rfl (Pu.move rfl rfl) ?_
    refine O.p rfl rfl rfl (Pu.indexAddr (i) rfl Try.underlying28 sz66 rfl rfl (by omega) (by omega) (hx.some (by omega))) ?_
    have e1 : i < bs.length := by omega
    refine O.p rfl rfl rfl (Pu.loadAgg' (v := B3.v (bs[i]'e1)) rfl rfl ag66 sz66 rfl rfl (Ld.rds (Ld.old hx) (k := i) e1 rfl)) ?_
    refine O.p rfl rfl rfl (Pu.move rfl rfl) ?_
    refine O.e rfl rfl rfl (Ef.callP call101 rfl rfl (fun w hw => l01With_ok (bs[i]'e1) _ w)) ?_
    rintro _ _ ⟨rfl, rfl⟩
    refine O.nil ?_
    refine X.next ?_
    refine V.condD rfl (fun c2 => ?_) (fun c2 => ?_)
    · skip
      refine V.region ?_
      refine O.p rfl rfl rfl (Pu.move rfl rfl) ?_
      refine O.p rfl rfl rfl (Pu.move rfl rfl) ?_
      refine O.e rfl rfl rfl (Ef.build I64 ([(↑i : Int)] : List Int) rfl Try.underlying52 inf2 rfl rfl rfl (by first | decide | (simp; done)) (by kernel_rfl)) ?_
      rintro _ _ ⟨A2, hA2, rfl, rfl⟩
      refine O.e rfl rfl rfl (Ef.append (xs := out) (ys := ([(↑i : Int)] : List Int)) 1 rfl Try.underlying52 inf2 rfl rfl rfl rfl rfl rfl hA2 (Ld.own 0 (by exact rfl)) (by simp only [List.length_append, List.length_cons, List.length_nil] at *; omega) (by decide)) ?_
      rintro _ _ ⟨A3, k1, rfl, rfl, hA3⟩
      replace hA3 := hA3 (.inr (by simp))
      refine O.p rfl rfl rfl (Pu.assign rfl rfl) ?_
      refine O.nil ?_
      refine X.blockNormal ?_
      refine X.next ?_
      refine V.region ?_
      refine O.p rfl rfl rfl (Pu.move rfl rfl) ?_
      refine O.p rfl rfl rfl (Pu.add64 (r := ((i + 1 : Nat) : Int)) rfl (by omega) rfl rfl rfl) ?_
      refine O.p rfl rfl rfl (Pu.assign rfl rfl) ?_
      refine O.nil ?_
      exact X.back3 (A3, k1, (out ++ ([(↑i : Int)] : List Int)), i + 1) (by (try dsimp only); exact ⟨by omega, by rw [ho, numsAt_yes (p := fun c => has c p) e1 c2], by simp only [List.length_append, List.length_singleton]; omega⟩) (by first | omega | (dsimp only; omega)) (Ent.cons rfl (Ent.cons rfl (Ent.nil _))) (Ent.cons (t := 1) rfl (Ent.cons (t := 2) rfl (Ent.nil _))) (Sub.keep 1 rfl (Sub.keep 1 rfl (Sub.nil _)))
    · skip
      refine V.skip ?_
      refine X.blockNormal ?_
      refine X.next ?_
      refine V.region ?_
      refine O.p rfl rfl rfl (Pu.move rfl rfl) ?_
      refine O.p rfl rfl rfl (Pu.add64 (r := ((i + 1 : Nat) : Int)) rfl (by omega) rfl rfl rfl) ?_
      refine O.p rfl rfl rfl (Pu.assign rfl rfl) ?_
      refine O.nil ?_
      exact X.back3 (outA, outc, out, i + 1) (by (try dsimp only); exact ⟨by omega, by rw [ho, numsAt_no (p := fun c => has c p) e1 c2], by omega⟩) (by first | omega | (dsimp only; omega)) (Ent.cons rfl (Ent.cons rfl (Ent.nil _))) (Ent.cons (t := 1) rfl (Ent.cons (t := 2) rfl (Ent.nil _))) (Sub.keep 0 rfl (Sub.keep 0 rfl (Sub.nil _)))
  · skip
    refine V.exit ?_
    refine X.thenExit ?_
    refine X.thenExit ?_
    refine X.blockHit ?_
    refine X.next ?_
    refine V.seq ?_
    refine V.region ?_
    refine O.p rfl rfl rfl (Pu.move rfl rfl) ?_
    refine O.p rfl rfl rfl (Pu.assign rfl rfl) ?_
    refine O.nil ?_
    refine X.next ?_
    refine V.ret ?_
    refine X.ret1 rfl rfl ?_
    exact fun w hw => St.mkExi outA (St.mkExi outc (St.mkExi out (St.unsep (St.addPur ⟨rfl, by rw [ho, show i = bs.length by omega]; rfl⟩ (hw.sub (Sub.keep 0 rfl (Sub.nil _)))))))
end Go.Proofs.Ytjkddnpmfcllhaa
