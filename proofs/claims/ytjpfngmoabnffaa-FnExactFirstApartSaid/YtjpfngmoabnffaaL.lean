/-
  Equality and marks of lists.
-/
import Derived.Test.YtjpfngmoabnffaaE
import Derived.Test.YtjpfngmoabnffaaG
import Derived.Test.YtjpfngmoabnffaaVcMark
set_option linter.unusedVariables false
set_option linter.unusedSimpArgs false
namespace Go.Proofs.Ytjpfngmoabnffaa
open Go Go.RowKit Go.Vc Go.Proofs
set_option maxRecDepth 100000 in
theorem eqInt64S_ok (xs ys : List Int) (A A2 : Option Addr) (c c2 : Nat) (w : World) (hx : Rd I64 w A xs) (hy : Rd I64 w A2 ys) (lx : xs.length ≤ 9223372036854775807) (ly : ys.length ≤ 9223372036854775807) : Does Try.prog 33 [.slice A xs.length c, .slice A2 ys.length c2] w [] (fun v => [.pur (v = .bool (decide (xs = ys)))]) := by
  refine Does.enter Try.func33 rfl rfl [(0, .slice A xs.length c), (1, .slice A2 ys.length c2)] rfl ?_
  refine V.seq ?_
  refine V.region ?_
  refine O.p rfl rfl rfl (Pu.assign rfl rfl) ?_
  refine O.nil ?_
  refine X.next ?_
  refine V.seq ?_
  refine V.seq ?_
  refine V.region ?_
  refine O.p rfl rfl rfl (Pu.move rfl rfl) ?_
  refine O.p rfl rfl rfl (Pu.len rfl Try.underlying43 rfl) ?_
  refine O.p rfl rfl rfl (Pu.move rfl rfl) ?_
  refine O.p rfl rfl rfl (Pu.len rfl Try.underlying43 rfl) ?_
  refine O.p rfl rfl rfl (Pu.neq rfl rfl rfl) ?_
  refine O.nil ?_
  refine X.next ?_
  refine V.condNot rfl (fun c1 => ?_) (fun c1 => ?_)
  · skip
    refine V.seq ?_
    refine V.region ?_
    refine O.p rfl rfl rfl (Pu.assign rfl rfl) ?_
    refine O.nil ?_
    refine X.next ?_
    refine V.ret ?_
    refine X.thenRet ?_
    refine X.ret1 rfl rfl ?_
    exact fun w hw => St.retP (boolF (fun h => c1 (by rw [h]))) hw
  · skip
    refine V.skip ?_
    refine X.next ?_
    refine V.seq ?_
    refine V.seq ?_
    refine V.region ?_
    refine O.p rfl rfl rfl (Pu.assign rfl rfl) ?_
    refine O.nil ?_
    refine X.next ?_
    refine V.block ?_
    refine V.loop2 (β := Nat) (fun k => [(5, .int .i64 (k : Int))]) _ (fun k => []) (fun k => k ≤ xs.length ∧ ∀ j (h1 : j < xs.length) (h2 : j < ys.length), j < k → xs[j] = ys[j]) (fun k => xs.length - k) 0 ⟨by omega, fun j _ _ h => by omega⟩ (Ent.cons rfl (Ent.nil _)) (Ent.cons (t := 0) rfl (Ent.cons (t := 1) rfl (Ent.nil _))) (Sub.nil _) ?_
    rintro k ⟨hk, he⟩
    refine V.seq ?_
    refine V.seq ?_
    refine V.region ?_
    refine O.p rfl rfl rfl (Pu.move rfl rfl) ?_
    refine O.p rfl rfl rfl (Pu.move rfl rfl) ?_
    refine O.p rfl rfl rfl (Pu.len rfl Try.underlying43 rfl) ?_
    refine O.p rfl rfl rfl (Pu.lss rfl rfl rfl) ?_
    refine O.nil ?_
    refine X.next ?_
    refine V.condD rfl (fun c2 => ?_) (fun c2 => ?_)
    · skip
      refine V.skip ?_
      refine X.next ?_
      refine V.seq ?_
      refine V.block ?_
      refine V.seq ?_
      refine V.draw mo (by kernel_rfl) (fun hwf => ?_)
      refine D.p 0 rfl rfl rfl rfl rfl rfl (Pu.move rfl rfl) ?_
      refine D.p 1 rfl rfl rfl rfl rfl rfl (Pu.move rfl rfl) ?_
      refine D.p 2 rfl rfl rfl rfl rfl rfl (Pu.indexAddr (k) rfl Try.underlying43 sz2 rfl rfl (by omega) (by omega) (hx.some (by omega))) ?_
      have e1 : k < xs.length := by omega
      refine D.p 3 rfl rfl rfl rfl rfl rfl (Pu.load rfl pl2 rfl (Ld.rd (Ld.old hx) (k := k) e1 rfl rfl)) ?_
      refine D.p 4 rfl rfl rfl rfl rfl rfl (Pu.move rfl rfl) ?_
      refine D.p 5 rfl rfl rfl rfl rfl rfl (Pu.move rfl rfl) ?_
      refine D.p 6 rfl rfl rfl rfl rfl rfl (Pu.indexAddr (k) rfl Try.underlying43 sz2 rfl rfl (by omega) (by omega) (hy.some (by omega))) ?_
      have e2 : k < ys.length := by omega
      refine D.p 7 rfl rfl rfl rfl rfl rfl (Pu.load rfl pl2 rfl (Ld.rd (Ld.old hy) (k := k) e2 rfl rfl)) ?_
      refine D.p 8 rfl rfl rfl rfl rfl rfl (Pu.neq rfl rfl rfl) ?_
      refine D.done hwf rfl ?_
      refine X.next ?_
      refine V.condNot rfl (fun c3 => ?_) (fun c3 => ?_)
      · skip
        refine V.seq ?_
        refine V.region ?_
        refine O.p rfl rfl rfl (Pu.assign rfl rfl) ?_
        refine O.nil ?_
        refine X.next ?_
        refine V.ret ?_
        refine X.blockRet ?_
        refine X.thenRet ?_
        refine X.thenRet ?_
        refine X.blockRet ?_
        refine X.thenRet ?_
        refine X.ret1 rfl rfl ?_
        exact fun w hw => St.retP (boolF (fun h => c3 (by simp [h]))) hw
      · skip
        refine V.skip ?_
        refine X.blockNormal ?_
        refine X.next ?_
        refine V.region ?_
        refine O.p rfl rfl rfl (Pu.move rfl rfl) ?_
        refine O.p rfl rfl rfl (Pu.add64 (r := ((k + 1 : Nat) : Int)) rfl (by omega) rfl rfl rfl) ?_
        refine O.p rfl rfl rfl (Pu.assign rfl rfl) ?_
        refine O.nil ?_
        exact X.back2 (k + 1) ⟨by omega, fun j h1 h2 hj => by by_cases e : j = k; (· subst e; exact c3); (· exact he j h1 h2 (by omega))⟩ (by omega) (Ent.cons rfl (Ent.nil _)) (Ent.cons (t := 0) rfl (Ent.cons (t := 1) rfl (Ent.nil _))) (Sub.nil _)
    · skip
      refine V.exit ?_
      refine X.thenExit ?_
      refine X.thenExit ?_
      refine X.blockHit ?_
      refine X.next ?_
      refine V.seq ?_
      refine V.region ?_
      refine O.p rfl rfl rfl (Pu.assign rfl rfl) ?_
      refine O.nil ?_
      refine X.next ?_
      refine V.ret ?_
      refine X.ret1 rfl rfl ?_
      exact fun w hw => St.retP (boolT (List.ext_getElem (by omega) (fun j h1 h2 => he j h1 h2 (by omega)))) hw

set_option maxRecDepth 100000 in
theorem eqInt64SS_ok (ps qs : List (Sl × List Int)) (A A2 : Option Addr) (c c2 : Nat) (w : World) (hx : RdL I64 w A ps) (hy : RdL I64 w A2 qs) (lx : ps.length ≤ 4611686018427387904) (ly : qs.length ≤ 4611686018427387904) : Does Try.prog 24 [.slice A (tops ps).length c, .slice A2 (tops qs).length c2] w [] (fun v => [.pur (v = .bool (decide (conts ps = conts qs)))]) := by
  refine Does.enter Try.func24 rfl rfl [(0, .slice A (tops ps).length c), (1, .slice A2 (tops qs).length c2)] rfl ?_
  refine V.seq ?_
  have htp := tops_len ps
  have htq := tops_len qs
  have hcp := conts_len ps
  have hcq := conts_len qs
  refine V.region ?_
  refine O.p rfl rfl rfl (Pu.assign rfl rfl) ?_
  refine O.nil ?_
  refine X.next ?_
  refine V.seq ?_
  refine V.seq ?_
  refine V.region ?_
  refine O.p rfl rfl rfl (Pu.move rfl rfl) ?_
  refine O.p rfl rfl rfl (Pu.len rfl Try.underlying34 rfl) ?_
  refine O.p rfl rfl rfl (Pu.move rfl rfl) ?_
  refine O.p rfl rfl rfl (Pu.len rfl Try.underlying34 rfl) ?_
  refine O.p rfl rfl rfl (Pu.neq rfl rfl rfl) ?_
  refine O.nil ?_
  refine X.next ?_
  refine V.condNot rfl (fun c1 => ?_) (fun c1 => ?_)
  · skip
    refine V.seq ?_
    refine V.region ?_
    refine O.p rfl rfl rfl (Pu.assign rfl rfl) ?_
    refine O.nil ?_
    refine X.next ?_
    refine V.ret ?_
    refine X.thenRet ?_
    refine X.ret1 rfl rfl ?_
    exact fun w hw => St.retP (boolF (fun h => c1 (by rw [← htp, ← htq] at *; have := congrArg List.length h; omega))) hw
  · skip
    refine V.skip ?_
    refine X.next ?_
    refine V.seq ?_
    refine V.seq ?_
    refine V.region ?_
    refine O.p rfl rfl rfl (Pu.assign rfl rfl) ?_
    refine O.nil ?_
    refine X.next ?_
    refine V.block ?_
    refine V.loop2 (β := Nat) (fun k => [(5, .int .i64 (k : Int))]) _ (fun k => []) (fun k => k ≤ (tops ps).length ∧ ∀ j (h1 : j < ps.length) (h2 : j < qs.length), j < k → (ps[j]).2 = (qs[j]).2) (fun k => (tops ps).length - k) 0 ⟨by omega, fun j _ _ h => by omega⟩ (Ent.cons rfl (Ent.nil _)) (Ent.cons (t := 0) rfl (Ent.cons (t := 1) rfl (Ent.nil _))) (Sub.nil _) ?_
    rintro k ⟨hk, he⟩
    refine V.seq ?_
    refine V.seq ?_
    refine V.region ?_
    refine O.p rfl rfl rfl (Pu.move rfl rfl) ?_
    refine O.p rfl rfl rfl (Pu.move rfl rfl) ?_
    refine O.p rfl rfl rfl (Pu.len rfl Try.underlying34 rfl) ?_
    refine O.p rfl rfl rfl (Pu.lss rfl rfl rfl) ?_
    refine O.nil ?_
    refine X.next ?_
    refine V.condD rfl (fun c2 => ?_) (fun c2 => ?_)
    · skip
      refine V.skip ?_
      refine X.next ?_
      refine V.seq ?_
      refine V.block ?_
      refine V.seq ?_
      refine V.draw mo (by kernel_rfl) (fun hwf => ?_)
      refine D.p 0 rfl rfl rfl rfl rfl rfl (Pu.move rfl rfl) ?_
      refine D.p 1 rfl rfl rfl rfl rfl rfl (Pu.move rfl rfl) ?_
      refine D.p 2 rfl rfl rfl rfl rfl rfl (Pu.indexAddr (k) rfl Try.underlying34 sz43 rfl rfl (by omega) (by omega) (hx.top.some (by omega))) ?_
      have e1 : k < ps.length := by have := tops_len ps; omega
      refine D.p 3 rfl rfl rfl rfl rfl rfl (Pu.load rfl pl43 rfl (Ld.row (Ld.old hx.top) hx.len e1 rfl)) ?_
      refine D.p 4 rfl rfl rfl rfl rfl rfl (Pu.move rfl rfl) ?_
      refine D.p 5 rfl rfl rfl rfl rfl rfl (Pu.move rfl rfl) ?_
      refine D.p 6 rfl rfl rfl rfl rfl rfl (Pu.indexAddr (k) rfl Try.underlying34 sz43 rfl rfl (by omega) (by omega) (hy.top.some (by omega))) ?_
      have e2 : k < qs.length := by have := tops_len qs; omega
      refine D.p 7 rfl rfl rfl rfl rfl rfl (Pu.load rfl pl43 rfl (Ld.row (Ld.old hy.top) hy.len e2 rfl)) ?_
      refine D.eff hwf (e := 8) rfl rfl rfl rfl (Ef.callP call33 rfl rfl (fun w hw => eqInt64S_ok (ps[k]'e1).2 (qs[k]'e2).2 _ _ _ _ w ((Ld.old (hx.row k e1)) w hw) ((Ld.old (hy.row k e2)) w hw) (hx.len.le e1) (hy.len.le e2))) rfl rfl rfl ?_
      rintro _ _ ⟨rfl, rfl⟩ hs
      refine ⟨fun w hw => hw, ?_⟩
      refine D.p 9 rfl rfl rfl rfl rfl rfl (Pu.not rfl rfl) ?_
      refine D.done hwf rfl ?_
      refine X.next ?_
      refine V.condNot rfl (fun c3 => ?_) (fun c3 => ?_)
      · skip
        refine V.seq ?_
        refine V.region ?_
        refine O.p rfl rfl rfl (Pu.assign rfl rfl) ?_
        refine O.nil ?_
        refine X.next ?_
        refine V.ret ?_
        refine X.blockRet ?_
        refine X.thenRet ?_
        refine X.thenRet ?_
        refine X.blockRet ?_
        refine X.thenRet ?_
        refine X.ret1 rfl rfl ?_
        exact fun w hw => St.retP (boolF (fun h => c3 (by rw [← conts_get ps (by omega), ← conts_get qs (by omega)]; simp [h]))) hw
      · skip
        refine V.skip ?_
        refine X.blockNormal ?_
        refine X.next ?_
        refine V.region ?_
        refine O.p rfl rfl rfl (Pu.move rfl rfl) ?_
        refine O.p rfl rfl rfl (Pu.add64 (r := ((k + 1 : Nat) : Int)) rfl (by omega) rfl rfl rfl) ?_
        refine O.p rfl rfl rfl (Pu.assign rfl rfl) ?_
        refine O.nil ?_
        exact X.back2 (k + 1) ⟨by omega, fun j h1 h2 hj => by by_cases e : j = k; (· subst e; exact c3); (· exact he j h1 h2 (by omega))⟩ (by omega) (Ent.cons rfl (Ent.nil _)) (Ent.cons (t := 0) rfl (Ent.cons (t := 1) rfl (Ent.nil _))) (Sub.nil _)
    · skip
      refine V.exit ?_
      refine X.thenExit ?_
      refine X.thenExit ?_
      refine X.blockHit ?_
      refine X.next ?_
      refine V.seq ?_
      refine V.region ?_
      refine O.p rfl rfl rfl (Pu.assign rfl rfl) ?_
      refine O.nil ?_
      refine X.next ?_
      refine V.ret ?_
      refine X.ret1 rfl rfl ?_
      exact fun w hw => St.retP (boolT (List.ext_getElem (by omega) (fun j h1 h2 => by rw [conts_get, conts_get]; exact he j (by omega) (by omega) (by omega)))) hw

set_option maxRecDepth 100000 in
theorem markInt64S_ok (xs : List Int) (m : Int) (A : Option Addr) (c : Nat) (w0 : World) (H : List Assn) (hm : 0 ≤ m ∧ m + xs.length ≤ 4611686018427387904) : Does Try.prog 34 [.slice A xs.length c, .int .i64 m] w0 (Own 2 I64 A c xs :: H) (fun v => .pur (v = .int .i64 (m + xs.length)) :: Own 2 I64 A c (marks m xs.length) :: H) := by
  refine Does.enter Try.func34 rfl rfl [(0, .slice A xs.length c), (1, .int .i64 m)] rfl ?_
  refine V.seq ?_
  refine V.region ?_
  refine O.p rfl rfl rfl (Pu.assign rfl rfl) ?_
  refine O.nil ?_
  refine X.next ?_
  refine V.seq ?_
  refine V.seq ?_
  refine V.region ?_
  refine O.p rfl rfl rfl (Pu.assign rfl rfl) ?_
  refine O.nil ?_
  refine X.next ?_
  refine V.block ?_
  refine V.loop3 (β := Nat) (fun k => [(5, .int .i64 (k : Int)), (1, .int .i64 (m + (k : Int)))]) _ (fun k => [Own 2 I64 A c (markAt xs m k)]) _ (fun k => k ≤ xs.length) (fun k => xs.length - k) 0 (by omega) (Ent.cons rfl (Ent.cons' rfl (iv (by omega)) (Ent.nil _))) (Ent.cons (t := 0) rfl (Ent.cons (t := 4) rfl (Ent.nil _))) (Sub.cons 0 rfl (fun w F h => by rw [markAt_zero]; exact h) (Sub.refl _)) ?_
  rintro k hk
  refine V.seq ?_
  refine V.seq ?_
  refine V.region ?_
  refine O.p rfl rfl rfl (Pu.move rfl rfl) ?_
  refine O.p rfl rfl rfl (Pu.move rfl rfl) ?_
  refine O.p rfl rfl rfl (Pu.len rfl Try.underlying43 rfl) ?_
  refine O.p rfl rfl rfl (Pu.lss rfl rfl rfl) ?_
  refine O.nil ?_
  refine X.next ?_
  refine V.condD rfl (fun c1 => ?_) (fun c1 => ?_)
  · skip
    refine V.skip ?_
    refine X.next ?_
    refine V.seq ?_
    refine V.block ?_
    refine V.seq ?_
    refine V.region ?_
    refine O.p rfl rfl rfl (Pu.move rfl rfl) ?_
    refine O.p rfl rfl rfl (Pu.move rfl rfl) ?_
    refine O.p rfl rfl rfl (Pu.move rfl rfl) ?_
    refine O.p rfl rfl rfl (Pu.indexAddrS (k) rfl Try.underlying43 sz2 rfl rfl (by omega) (by omega) (fun w hw => Own.some hw (i := 0) (by exact rfl) (by rw [markAt_len hk]; omega))) ?_
    refine O.s rfl rfl (Ef.storeOwn 0 (k) (m + (↑k : Int)) rfl sz2 rfl rfl rfl rfl (by rw [markAt_len hk]; omega) rfl) ?_
    rintro _ _ rfl
    refine O.nil ?_
    refine X.next ?_
    refine V.region ?_
    refine O.p rfl rfl rfl (Pu.move rfl rfl) ?_
    refine O.p rfl rfl rfl (Pu.add64 rfl (by omega) rfl rfl rfl) ?_
    refine O.p rfl rfl rfl (Pu.assign rfl rfl) ?_
    refine O.nil ?_
    refine X.blockNormal ?_
    refine X.next ?_
    refine V.region ?_
    refine O.p rfl rfl rfl (Pu.move rfl rfl) ?_
    refine O.p rfl rfl rfl (Pu.add64 (r := ((k + 1 : Nat) : Int)) rfl (by omega) rfl rfl rfl) ?_
    refine O.p rfl rfl rfl (Pu.assign rfl rfl) ?_
    refine O.nil ?_
    exact X.back3 (k + 1) (by omega) (by omega) (Ent.cons rfl (Ent.cons' rfl (iv (by omega)) (Ent.nil _))) (Ent.cons (t := 0) rfl (Ent.cons (t := 4) rfl (Ent.nil _))) (Sub.cons 0 rfl (fun w F h => by rw [markAt_set (by omega)] at h; exact h) (Sub.refl _))
  · skip
    refine V.exit ?_
    refine X.thenExit ?_
    refine X.thenExit ?_
    refine X.blockHit ?_
    refine X.next ?_
    refine V.seq ?_
    refine V.region ?_
    refine O.p rfl rfl rfl (Pu.move rfl rfl) ?_
    refine O.p rfl rfl rfl (Pu.assign rfl rfl) ?_
    refine O.nil ?_
    refine X.next ?_
    refine V.ret ?_
    refine X.ret1 rfl rfl ?_
    exact fun w hw => St.addPur (iv (by omega)) (hw.sub (Sub.cons 0 rfl (fun w F h => by rw [markAt_all (by omega)] at h; exact h) (Sub.refl _)))

set_option maxRecDepth 100000 in
theorem heldInt64S_ok (xs : List Int) (m : Int) (A : Option Addr) (c : Nat) (w : World) (hx : Rd I64 w A xs) (hm : 0 ≤ m ∧ m + xs.length ≤ 4611686018427387904) (hq : xs = marks m xs.length) : Does Try.prog 35 [.slice A xs.length c, .int .i64 m] w [] (fun v => [.pur (v = .int .i64 (m + xs.length))]) := by
  refine Does.enter Try.func35 rfl rfl [(0, .slice A xs.length c), (1, .int .i64 m)] rfl ?_
  refine V.seq ?_
  refine V.region ?_
  refine O.p rfl rfl rfl (Pu.assign rfl rfl) ?_
  refine O.nil ?_
  refine X.next ?_
  refine V.seq ?_
  refine V.seq ?_
  refine V.region ?_
  refine O.p rfl rfl rfl (Pu.assign rfl rfl) ?_
  refine O.nil ?_
  refine X.next ?_
  refine V.block ?_
  refine V.loop2 (β := Nat) (fun k => [(5, .int .i64 (k : Int)), (1, .int .i64 (m + (k : Int)))]) _ (fun k => []) (fun k => k ≤ xs.length) (fun k => xs.length - k) 0 (by omega) (Ent.cons rfl (Ent.cons' rfl (iv (by omega)) (Ent.nil _))) (Ent.cons (t := 0) rfl (Ent.nil _)) (Sub.nil _) ?_
  rintro k hk
  refine V.seq ?_
  refine V.seq ?_
  refine V.region ?_
  refine O.p rfl rfl rfl (Pu.move rfl rfl) ?_
  refine O.p rfl rfl rfl (Pu.move rfl rfl) ?_
  refine O.p rfl rfl rfl (Pu.len rfl Try.underlying43 rfl) ?_
  refine O.p rfl rfl rfl (Pu.lss rfl rfl rfl) ?_
  refine O.nil ?_
  refine X.next ?_
  refine V.condD rfl (fun c1 => ?_) (fun c1 => ?_)
  · skip
    refine V.skip ?_
    refine X.next ?_
    refine V.seq ?_
    refine V.block ?_
    refine V.seq ?_
    refine V.seq ?_
    refine V.region ?_
    refine O.p rfl rfl rfl (Pu.move rfl rfl) ?_
    refine O.p rfl rfl rfl (Pu.move rfl rfl) ?_
    refine O.p rfl rfl rfl (Pu.indexAddr (k) rfl Try.underlying43 sz2 rfl rfl (by omega) (by omega) (hx.some (by omega))) ?_
    have e1 : k < xs.length := by omega
    refine O.p rfl rfl rfl (Pu.load rfl pl2 rfl (Ld.rd (Ld.old hx) (k := k) e1 rfl rfl)) ?_
    refine O.p rfl rfl rfl (Pu.move rfl rfl) ?_
    refine O.p rfl rfl rfl (Pu.neq rfl rfl rfl) ?_
    refine O.nil ?_
    refine X.next ?_
    refine V.condNot rfl (fun c2 => ?_) (fun c2 => ?_)
    · skip
      exact absurd (by have h1 := marks_get m xs.length (k := k) (by rw [marks_len]; omega); rw [← h1]; congr 1) c2
    · skip
      refine V.skip ?_
      refine X.next ?_
      refine V.region ?_
      refine O.p rfl rfl rfl (Pu.move rfl rfl) ?_
      refine O.p rfl rfl rfl (Pu.add64 rfl (by omega) rfl rfl rfl) ?_
      refine O.p rfl rfl rfl (Pu.assign rfl rfl) ?_
      refine O.nil ?_
      refine X.blockNormal ?_
      refine X.next ?_
      refine V.region ?_
      refine O.p rfl rfl rfl (Pu.move rfl rfl) ?_
      refine O.p rfl rfl rfl (Pu.add64 (r := ((k + 1 : Nat) : Int)) rfl (by omega) rfl rfl rfl) ?_
      refine O.p rfl rfl rfl (Pu.assign rfl rfl) ?_
      refine O.nil ?_
      exact X.back2 (k + 1) (by omega) (by omega) (Ent.cons rfl (Ent.cons' rfl (iv (by omega)) (Ent.nil _))) (Ent.cons (t := 0) rfl (Ent.nil _)) (Sub.nil _)
  · skip
    refine V.exit ?_
    refine X.thenExit ?_
    refine X.thenExit ?_
    refine X.blockHit ?_
    refine X.next ?_
    refine V.seq ?_
    refine V.region ?_
    refine O.p rfl rfl rfl (Pu.move rfl rfl) ?_
    refine O.p rfl rfl rfl (Pu.assign rfl rfl) ?_
    refine O.nil ?_
    refine X.next ?_
    refine V.ret ?_
    refine X.ret1 rfl rfl ?_
    exact fun w hw => St.retP (iv (by omega)) hw

set_option maxRecDepth 100000 in
theorem markInt64SS_ok (ps : List (Sl × List Int)) (m : Int) (A : Option Addr) (c : Nat) (w0 : World) (H : List Assn) (hm : 0 ≤ m ∧ m + sumLen ps ≤ 4611686018427387904) (lp : ps.length ≤ 4611686018427387904) : Does Try.prog 26 [.slice A (tops ps).length c, .int .i64 m] w0 (Own 43 SlC A c (tops ps) :: RowsA 2 I64 ps :: H) (fun v => .pur (v = .int .i64 (m + sumLen ps)) :: Own 43 SlC A c (tops ps) :: RowsA 2 I64 (markL m ps) :: H) := by
  refine Does.enter Try.func26 rfl rfl [(0, .slice A (tops ps).length c), (1, .int .i64 m)] rfl ?_
  refine V.seq ?_
  refine V.fact (RowsA.len 1 rfl) (fun hn => ?_)
  have htl := tops_len ps
  refine V.region ?_
  refine O.p rfl rfl rfl (Pu.assign rfl rfl) ?_
  refine O.nil ?_
  refine X.next ?_
  refine V.seq ?_
  refine V.seq ?_
  refine V.region ?_
  refine O.p rfl rfl rfl (Pu.assign rfl rfl) ?_
  refine O.nil ?_
  refine X.next ?_
  refine V.block ?_
  refine V.loop3 (β := Nat) (fun k => [(5, .int .i64 (k : Int)), (1, .int .i64 (m + (sumLen (ps.take k) : Int)))]) _ (fun k => [RowsA 2 I64 (markL m (ps.take k) ++ ps.drop k)]) _ (fun k => k ≤ (tops ps).length) (fun k => (tops ps).length - k) 0 (by omega) (Ent.cons rfl (Ent.cons' rfl (iv (by simp [sumLen])) (Ent.nil _))) (Ent.cons (t := 0) rfl (Ent.cons (t := 4) rfl (Ent.nil _))) (Sub.keep 1 rfl (Sub.keep 0 rfl (Sub.refl _))) ?_
  rintro k hk
  refine V.seq ?_
  refine V.seq ?_
  refine V.region ?_
  refine O.p rfl rfl rfl (Pu.move rfl rfl) ?_
  refine O.p rfl rfl rfl (Pu.move rfl rfl) ?_
  refine O.p rfl rfl rfl (Pu.len rfl Try.underlying34 rfl) ?_
  refine O.p rfl rfl rfl (Pu.lss rfl rfl rfl) ?_
  refine O.nil ?_
  refine X.next ?_
  refine V.condD rfl (fun c1 => ?_) (fun c1 => ?_)
  · skip
    refine V.skip ?_
    refine X.next ?_
    refine V.seq ?_
    refine V.block ?_
    have e1 : k < ps.length := by omega
    have hst := sumLen_take e1
    have hsl := sumLen_le (ps := ps) (k := k + 1)
    refine V.map (fun w hw => row_out e1 (hw.sub (Sub.keep 0 rfl (Sub.keep 0 rfl (Sub.refl _))))) ?_
    refine V.region ?_
    refine O.p rfl rfl rfl (Pu.move rfl rfl) ?_
    refine O.p rfl rfl rfl (Pu.move rfl rfl) ?_
    refine O.p rfl rfl rfl (Pu.indexAddrS (k) rfl Try.underlying34 sz43 rfl rfl (by omega) (by omega) (fun w hw => Own.some hw (i := 2) (by exact rfl) (by omega))) ?_
    refine O.p rfl rfl rfl (Pu.load rfl pl43 rfl (Ld.row (Ld.own 2 (by exact rfl)) hn e1 rfl)) ?_
    refine O.p rfl rfl rfl (Pu.move rfl rfl) ?_
    refine O.e rfl rfl rfl (Ef.callM 0 call34 rfl rfl rfl (fun H _ => markInt64S_ok _ _ _ _ _ H (by omega))) ?_
    rintro _ _ ⟨rfl, rfl⟩
    refine O.p rfl rfl rfl (Pu.assign rfl rfl) ?_
    refine O.nil ?_
    refine X.blockNormal ?_
    refine X.next ?_
    refine V.region ?_
    refine O.p rfl rfl rfl (Pu.move rfl rfl) ?_
    refine O.p rfl rfl rfl (Pu.add64 (r := ((k + 1 : Nat) : Int)) rfl (by omega) rfl rfl rfl) ?_
    refine O.p rfl rfl rfl (Pu.assign rfl rfl) ?_
    refine O.nil ?_
    refine X.map (fun w hw => row_in (by rw [marks_len]; exact (hn _ (List.getElem_mem e1)).1) (hw.sub (Sub.keep 0 rfl (Sub.keep 0 rfl (Sub.keep 0 rfl (Sub.refl _)))))) ?_
    exact X.back3 (k + 1) (by omega) (by omega) (Ent.cons rfl (Ent.cons' rfl (iv (by rw [hst]; push_cast; omega)) (Ent.nil _))) (Ent.cons (t := 0) rfl (Ent.cons (t := 4) rfl (Ent.nil _))) (Sub.cons 0 rfl (fun w F h => by rw [markL_take e1]; exact h) (Sub.keep 0 rfl (Sub.refl _)))
  · skip
    refine V.exit ?_
    refine X.thenExit ?_
    refine X.thenExit ?_
    refine X.blockHit ?_
    refine X.next ?_
    refine V.seq ?_
    refine V.region ?_
    refine O.p rfl rfl rfl (Pu.move rfl rfl) ?_
    refine O.p rfl rfl rfl (Pu.assign rfl rfl) ?_
    refine O.nil ?_
    refine X.next ?_
    refine V.ret ?_
    refine X.ret1 rfl rfl ?_
    exact fun w hw => by have e : k = ps.length := (by omega); subst e; rw [List.take_length, List.drop_length, List.append_nil] at hw; exact St.addPur (iv (by rw [List.take_length])) (hw.sub (Sub.keep 1 rfl (Sub.keep 0 rfl (Sub.refl _))))

set_option maxRecDepth 100000 in
theorem heldInt64SS_ok (ps : List (Sl × List Int)) (m : Int) (A : Option Addr) (c : Nat) (w : World) (hx : RdL I64 w A (markL m ps)) (hm : 0 ≤ m ∧ m + sumLen ps ≤ 4611686018427387904) (lp : ps.length ≤ 4611686018427387904) : Does Try.prog 27 [.slice A (tops ps).length c, .int .i64 m] w [] (fun v => [.pur (v = .int .i64 (m + sumLen ps))]) := by
  refine Does.enter Try.func27 rfl rfl [(0, .slice A (tops ps).length c), (1, .int .i64 m)] rfl ?_
  refine V.seq ?_
  have htl := tops_len ps
  have hml := markL_len m ps
  have htm := tops_len (markL m ps)
  refine V.region ?_
  refine O.p rfl rfl rfl (Pu.assign rfl rfl) ?_
  refine O.nil ?_
  refine X.next ?_
  refine V.seq ?_
  refine V.seq ?_
  refine V.region ?_
  refine O.p rfl rfl rfl (Pu.assign rfl rfl) ?_
  refine O.nil ?_
  refine X.next ?_
  refine V.block ?_
  refine V.loop2 (β := Nat) (fun k => [(5, .int .i64 (k : Int)), (1, .int .i64 (m + (sumLen (ps.take k) : Int)))]) _ (fun k => []) (fun k => k ≤ (tops ps).length) (fun k => (tops ps).length - k) 0 (by omega) (Ent.cons rfl (Ent.cons' rfl (iv (by simp [sumLen])) (Ent.nil _))) (Ent.cons (t := 0) rfl (Ent.nil _)) (Sub.nil _) ?_
  rintro k hk
  refine V.seq ?_
  refine V.seq ?_
  refine V.region ?_
  refine O.p rfl rfl rfl (Pu.move rfl rfl) ?_
  refine O.p rfl rfl rfl (Pu.move rfl rfl) ?_
  refine O.p rfl rfl rfl (Pu.len rfl Try.underlying34 rfl) ?_
  refine O.p rfl rfl rfl (Pu.lss rfl rfl rfl) ?_
  refine O.nil ?_
  refine X.next ?_
  refine V.condD rfl (fun c1 => ?_) (fun c1 => ?_)
  · skip
    refine V.skip ?_
    refine X.next ?_
    refine V.seq ?_
    refine V.block ?_
    refine V.seq ?_
    have e0 : k < ps.length := by omega
    have hst := sumLen_take e0
    have hsl := sumLen_le (ps := ps) (k := k + 1)
    have hg := markL_get m e0 (by omega)
    have hgl := congrArg (fun p : Sl × List Int => p.2.length) hg
    simp only [marks_len] at hgl
    refine V.region ?_
    refine O.p rfl rfl rfl (Pu.move rfl rfl) ?_
    refine O.p rfl rfl rfl (Pu.move rfl rfl) ?_
    refine O.p rfl rfl rfl (Pu.indexAddr (k) rfl Try.underlying34 sz43 rfl rfl (by omega) (by omega) (hx.top.some (by omega))) ?_
    have e1 : k < (markL m ps).length := by have := tops_len (markL m ps); omega
    refine O.p rfl rfl rfl (Pu.load rfl pl43 rfl (Ld.row (Ld.old hx.top) hx.len e1 rfl)) ?_
    refine O.p rfl rfl rfl (Pu.move rfl rfl) ?_
    refine O.e rfl rfl rfl (Ef.callP call35 rfl rfl (fun w hw => heldInt64S_ok ((markL m ps)[k]'e1).2 _ _ _ w ((Ld.old (hx.row k e1)) w hw) (by omega) (by rw [hg]; simp only [marks_len]))) ?_
    rintro _ _ ⟨rfl, rfl⟩
    refine O.p rfl rfl rfl (Pu.assign rfl rfl) ?_
    refine O.nil ?_
    refine X.next ?_
    refine V.seq ?_
    refine V.region ?_
    refine O.p rfl rfl rfl (Pu.move rfl rfl) ?_
    refine O.p rfl rfl rfl (Pu.lss rfl rfl rfl) ?_
    refine O.nil ?_
    refine X.next ?_
    refine V.condD rfl (fun c2 => ?_) (fun c2 => ?_)
    · skip
      exact absurd c2 (by omega)
    · skip
      refine V.skip ?_
      refine X.blockNormal ?_
      refine X.next ?_
      refine V.region ?_
      refine O.p rfl rfl rfl (Pu.move rfl rfl) ?_
      refine O.p rfl rfl rfl (Pu.add64 (r := ((k + 1 : Nat) : Int)) rfl (by omega) rfl rfl rfl) ?_
      refine O.p rfl rfl rfl (Pu.assign rfl rfl) ?_
      refine O.nil ?_
      exact X.back2 (k + 1) (by omega) (by omega) (Ent.cons rfl (Ent.cons' rfl (iv (by rw [hst]; push_cast; omega)) (Ent.nil _))) (Ent.cons (t := 0) rfl (Ent.nil _)) (Sub.nil _)
  · skip
    refine V.exit ?_
    refine X.thenExit ?_
    refine X.thenExit ?_
    refine X.blockHit ?_
    refine X.next ?_
    refine V.seq ?_
    refine V.region ?_
    refine O.p rfl rfl rfl (Pu.move rfl rfl) ?_
    refine O.p rfl rfl rfl (Pu.assign rfl rfl) ?_
    refine O.nil ?_
    refine X.next ?_
    refine V.ret ?_
    refine X.ret1 rfl rfl ?_
    exact fun w hw => St.retP (iv (by have e : k = ps.length := (by omega); subst e; rw [List.take_length])) hw

set_option maxRecDepth 100000 in
theorem markBlockS_ok (xs : List B3) (m : Int) (A : Option Addr) (c : Nat) (w0 : World) (H : List Assn) (hm : 0 ≤ m ∧ m ≤ 1152921504606846976) (lx : xs.length ≤ 1099511627776) : Does Try.prog 78 [.slice A xs.length c, .int .i64 m] w0 (Own 75 B3C A c xs :: H) (fun v => [.exi fun ys : List B3 => .sep (.pur (ys.length = xs.length ∧ v = .int .i64 (m + 3 * xs.length))) (Own 75 B3C A c ys)] ++ H) := by
  refine Does.enter Try.func78 rfl rfl [(0, .slice A xs.length c), (1, .int .i64 m)] rfl ?_
  refine V.seq ?_
  refine V.region ?_
  refine O.p rfl rfl rfl (Pu.assign rfl rfl) ?_
  refine O.nil ?_
  refine X.next ?_
  refine V.seq ?_
  refine V.seq ?_
  refine V.region ?_
  refine O.p rfl rfl rfl (Pu.assign rfl rfl) ?_
  refine O.nil ?_
  refine X.next ?_
  refine V.block ?_
  refine V.loop3 (β := Nat × List B3) (fun x => [(5, .int .i64 (x.1 : Int)), (1, .int .i64 (m + 3 * (x.1 : Int)))]) _ (fun x => [Own 75 B3C A c x.2]) _ (fun x => x.2.length = xs.length ∧ x.1 ≤ xs.length) (fun x => xs.length - x.1) (0, xs) ⟨rfl, by simp only []; omega⟩ (Ent.cons rfl (Ent.cons' rfl (iv (by simp only []; omega)) (Ent.nil _))) (Ent.cons (t := 0) rfl (Ent.cons (t := 4) rfl (Ent.nil _))) (Sub.keep 0 rfl (Sub.refl _)) ?_
  rintro ⟨k, ys⟩ ⟨hl, hk⟩
  dsimp only at hl hk
  refine V.seq ?_
  refine V.seq ?_
  refine V.region ?_
  refine O.p rfl rfl rfl (Pu.move rfl rfl) ?_
  refine O.p rfl rfl rfl (Pu.move rfl rfl) ?_
  refine O.p rfl rfl rfl (Pu.len rfl Try.underlying28 rfl) ?_
  refine O.p rfl rfl rfl (Pu.lss rfl rfl rfl) ?_
  refine O.nil ?_
  refine X.next ?_
  refine V.condD rfl (fun c1 => ?_) (fun c1 => ?_)
  · skip
    refine V.skip ?_
    refine X.next ?_
    refine V.seq ?_
    refine V.block ?_
    refine V.seq ?_
    refine V.region ?_
    refine O.p rfl rfl rfl (Pu.assign rfl rfl) ?_
    refine O.nil ?_
    refine X.next ?_
    refine V.block ?_
    refine V.unroll 3 ?_
    refine V.seq ?_
    refine V.seq ?_
    refine V.region ?_
    refine O.p rfl rfl rfl (Pu.move rfl rfl) ?_
    refine O.p rfl rfl rfl (Pu.isT (by decide) (Pu.lss rfl rfl rfl)) ?_
    refine O.nil ?_
    refine X.next ?_
    refine V.condT rfl ?_
    refine V.skip ?_
    refine X.next ?_
    refine V.seq ?_
    refine V.block ?_
    refine V.seq ?_
    refine V.region ?_
    refine O.p rfl rfl rfl (Pu.move rfl rfl) ?_
    refine O.p rfl rfl rfl (Pu.move rfl rfl) ?_
    refine O.p rfl rfl rfl (Pu.move rfl rfl) ?_
    refine O.p rfl rfl rfl (Pu.move rfl rfl) ?_
    refine O.p rfl rfl rfl (Pu.indexAddrS (k) rfl Try.underlying28 sz75 rfl rfl (by omega) (by omega) (fun w hw => Own.some hw (i := 0) (by exact rfl) (by (try simp only [List.length_set]); omega))) ?_
    refine O.p rfl rfl rfl (Pu.indexArr' (0) rfl Try.underlying75 sz2 rfl rfl (by omega) (by omega) rfl (fun w hw => by have := Own.some hw (i := 0) (by exact rfl) (by (try simp only [List.length_set]); omega); simpa using this)) ?_
    refine O.s rfl rfl (Ef.storeOwnAt 0 (k) (0) (((m + 3 * (↑k : Int)), (ys[k]'(by (try simp only [List.length_set]); omega)).2.1, (ys[k]'(by (try simp only [List.length_set]); omega)).2.2) : B3) rfl sz2 rfl rfl rfl rfl (by (try simp only [List.length_set]); omega) (by decide) rfl rfl (by rfl)) ?_
    rintro _ _ rfl
    refine O.nil ?_
    refine X.next ?_
    refine V.region ?_
    refine O.p rfl rfl rfl (Pu.move rfl rfl) ?_
    refine O.p rfl rfl rfl (Pu.add64 rfl (by omega) rfl rfl rfl) ?_
    refine O.p rfl rfl rfl (Pu.assign rfl rfl) ?_
    refine O.nil ?_
    refine X.blockNormal ?_
    refine X.next ?_
    refine V.region ?_
    refine O.p rfl rfl rfl (Pu.move rfl rfl) ?_
    refine O.p rfl rfl rfl (Pu.add64 (r := 1) (by decide) (by decide) rfl rfl rfl) ?_
    refine O.p rfl rfl rfl (Pu.assign rfl rfl) ?_
    refine O.nil ?_
    refine X.again 2 ?_
    refine V.seq ?_
    refine V.seq ?_
    refine V.region ?_
    refine O.p rfl rfl rfl (Pu.move rfl rfl) ?_
    refine O.p rfl rfl rfl (Pu.isT (by decide) (Pu.lss rfl rfl rfl)) ?_
    refine O.nil ?_
    refine X.next ?_
    refine V.condT rfl ?_
    refine V.skip ?_
    refine X.next ?_
    refine V.seq ?_
    refine V.block ?_
    refine V.seq ?_
    refine V.region ?_
    refine O.p rfl rfl rfl (Pu.move rfl rfl) ?_
    refine O.p rfl rfl rfl (Pu.move rfl rfl) ?_
    refine O.p rfl rfl rfl (Pu.move rfl rfl) ?_
    refine O.p rfl rfl rfl (Pu.move rfl rfl) ?_
    refine O.p rfl rfl rfl (Pu.indexAddrS (k) rfl Try.underlying28 sz75 rfl rfl (by omega) (by omega) (fun w hw => Own.some hw (i := 0) (by exact rfl) (by (try simp only [List.length_set]); omega))) ?_
    refine O.p rfl rfl rfl (Pu.indexArr' (1) rfl Try.underlying75 sz2 rfl rfl (by omega) (by omega) rfl (fun w hw => by have := Own.some hw (i := 0) (by exact rfl) (by (try simp only [List.length_set]); omega); simpa using this)) ?_
    refine O.s rfl rfl (Ef.storeOwnAt 0 (k) (1) ((((ys.set k (((m + 3 * (↑k : Int)), (ys[k]'(by (try simp only [List.length_set]); omega)).2.1, (ys[k]'(by (try simp only [List.length_set]); omega)).2.2) : B3))[k]'(by (try simp only [List.length_set]); omega)).1, ((m + 3 * (↑k : Int)) + (1 : Int)), ((ys.set k (((m + 3 * (↑k : Int)), (ys[k]'(by (try simp only [List.length_set]); omega)).2.1, (ys[k]'(by (try simp only [List.length_set]); omega)).2.2) : B3))[k]'(by (try simp only [List.length_set]); omega)).2.2) : B3) rfl sz2 rfl rfl rfl rfl (by (try simp only [List.length_set]); omega) (by decide) rfl rfl (by rfl)) ?_
    rintro _ _ rfl
    refine O.nil ?_
    refine X.next ?_
    refine V.region ?_
    refine O.p rfl rfl rfl (Pu.move rfl rfl) ?_
    refine O.p rfl rfl rfl (Pu.add64 rfl (by omega) rfl rfl rfl) ?_
    refine O.p rfl rfl rfl (Pu.assign rfl rfl) ?_
    refine O.nil ?_
    refine X.blockNormal ?_
    refine X.next ?_
    refine V.region ?_
    refine O.p rfl rfl rfl (Pu.move rfl rfl) ?_
    refine O.p rfl rfl rfl (Pu.add64 (r := 2) (by decide) (by decide) rfl rfl rfl) ?_
    refine O.p rfl rfl rfl (Pu.assign rfl rfl) ?_
    refine O.nil ?_
    refine X.again 1 ?_
    refine V.seq ?_
    refine V.seq ?_
    refine V.region ?_
    refine O.p rfl rfl rfl (Pu.move rfl rfl) ?_
    refine O.p rfl rfl rfl (Pu.isT (by decide) (Pu.lss rfl rfl rfl)) ?_
    refine O.nil ?_
    refine X.next ?_
    refine V.condT rfl ?_
    refine V.skip ?_
    refine X.next ?_
    refine V.seq ?_
    refine V.block ?_
    refine V.seq ?_
    refine V.region ?_
    refine O.p rfl rfl rfl (Pu.move rfl rfl) ?_
    refine O.p rfl rfl rfl (Pu.move rfl rfl) ?_
    refine O.p rfl rfl rfl (Pu.move rfl rfl) ?_
    refine O.p rfl rfl rfl (Pu.move rfl rfl) ?_
    refine O.p rfl rfl rfl (Pu.indexAddrS (k) rfl Try.underlying28 sz75 rfl rfl (by omega) (by omega) (fun w hw => Own.some hw (i := 0) (by exact rfl) (by (try simp only [List.length_set]); omega))) ?_
    refine O.p rfl rfl rfl (Pu.indexArr' (2) rfl Try.underlying75 sz2 rfl rfl (by omega) (by omega) rfl (fun w hw => by have := Own.some hw (i := 0) (by exact rfl) (by (try simp only [List.length_set]); omega); simpa using this)) ?_
    refine O.s rfl rfl (Ef.storeOwnAt 0 (k) (2) (((((ys.set k (((m + 3 * (↑k : Int)), (ys[k]'(by (try simp only [List.length_set]); omega)).2.1, (ys[k]'(by (try simp only [List.length_set]); omega)).2.2) : B3)).set k ((((ys.set k (((m + 3 * (↑k : Int)), (ys[k]'(by (try simp only [List.length_set]); omega)).2.1, (ys[k]'(by (try simp only [List.length_set]); omega)).2.2) : B3))[k]'(by (try simp only [List.length_set]); omega)).1, ((m + 3 * (↑k : Int)) + (1 : Int)), ((ys.set k (((m + 3 * (↑k : Int)), (ys[k]'(by (try simp only [List.length_set]); omega)).2.1, (ys[k]'(by (try simp only [List.length_set]); omega)).2.2) : B3))[k]'(by (try simp only [List.length_set]); omega)).2.2) : B3))[k]'(by (try simp only [List.length_set]); omega)).1, (((ys.set k (((m + 3 * (↑k : Int)), (ys[k]'(by (try simp only [List.length_set]); omega)).2.1, (ys[k]'(by (try simp only [List.length_set]); omega)).2.2) : B3)).set k ((((ys.set k (((m + 3 * (↑k : Int)), (ys[k]'(by (try simp only [List.length_set]); omega)).2.1, (ys[k]'(by (try simp only [List.length_set]); omega)).2.2) : B3))[k]'(by (try simp only [List.length_set]); omega)).1, ((m + 3 * (↑k : Int)) + (1 : Int)), ((ys.set k (((m + 3 * (↑k : Int)), (ys[k]'(by (try simp only [List.length_set]); omega)).2.1, (ys[k]'(by (try simp only [List.length_set]); omega)).2.2) : B3))[k]'(by (try simp only [List.length_set]); omega)).2.2) : B3))[k]'(by (try simp only [List.length_set]); omega)).2.1, (((m + 3 * (↑k : Int)) + (1 : Int)) + (1 : Int))) : B3) rfl sz2 rfl rfl rfl rfl (by (try simp only [List.length_set]); omega) (by decide) rfl rfl (by rfl)) ?_
    rintro _ _ rfl
    refine O.nil ?_
    refine X.next ?_
    refine V.region ?_
    refine O.p rfl rfl rfl (Pu.move rfl rfl) ?_
    refine O.p rfl rfl rfl (Pu.add64 rfl (by omega) rfl rfl rfl) ?_
    refine O.p rfl rfl rfl (Pu.assign rfl rfl) ?_
    refine O.nil ?_
    refine X.blockNormal ?_
    refine X.next ?_
    refine V.region ?_
    refine O.p rfl rfl rfl (Pu.move rfl rfl) ?_
    refine O.p rfl rfl rfl (Pu.add64 (r := 3) (by decide) (by decide) rfl rfl rfl) ?_
    refine O.p rfl rfl rfl (Pu.assign rfl rfl) ?_
    refine O.nil ?_
    refine X.again 0 ?_
    refine V.seq ?_
    refine V.seq ?_
    refine V.region ?_
    refine O.p rfl rfl rfl (Pu.move rfl rfl) ?_
    refine O.p rfl rfl rfl (Pu.isF (by decide) (Pu.lss rfl rfl rfl)) ?_
    refine O.nil ?_
    refine X.next ?_
    refine V.condF rfl ?_
    refine V.exit ?_
    refine X.thenExit ?_
    refine X.thenExit ?_
    refine X.blockHit ?_
    refine X.blockNormal ?_
    refine X.next ?_
    refine V.region ?_
    refine O.p rfl rfl rfl (Pu.move rfl rfl) ?_
    refine O.p rfl rfl rfl (Pu.add64 (r := ((k + 1 : Nat) : Int)) rfl (by omega) rfl rfl rfl) ?_
    refine O.p rfl rfl rfl (Pu.assign rfl rfl) ?_
    refine O.nil ?_
    exact X.back3 (k + 1, (((ys.set k (((m + 3 * (↑k : Int)), (ys[k]'(by (try simp only [List.length_set]); omega)).2.1, (ys[k]'(by (try simp only [List.length_set]); omega)).2.2) : B3)).set k ((((ys.set k (((m + 3 * (↑k : Int)), (ys[k]'(by (try simp only [List.length_set]); omega)).2.1, (ys[k]'(by (try simp only [List.length_set]); omega)).2.2) : B3))[k]'(by (try simp only [List.length_set]); omega)).1, ((m + 3 * (↑k : Int)) + (1 : Int)), ((ys.set k (((m + 3 * (↑k : Int)), (ys[k]'(by (try simp only [List.length_set]); omega)).2.1, (ys[k]'(by (try simp only [List.length_set]); omega)).2.2) : B3))[k]'(by (try simp only [List.length_set]); omega)).2.2) : B3)).set k (((((ys.set k (((m + 3 * (↑k : Int)), (ys[k]'(by (try simp only [List.length_set]); omega)).2.1, (ys[k]'(by (try simp only [List.length_set]); omega)).2.2) : B3)).set k ((((ys.set k (((m + 3 * (↑k : Int)), (ys[k]'(by (try simp only [List.length_set]); omega)).2.1, (ys[k]'(by (try simp only [List.length_set]); omega)).2.2) : B3))[k]'(by (try simp only [List.length_set]); omega)).1, ((m + 3 * (↑k : Int)) + (1 : Int)), ((ys.set k (((m + 3 * (↑k : Int)), (ys[k]'(by (try simp only [List.length_set]); omega)).2.1, (ys[k]'(by (try simp only [List.length_set]); omega)).2.2) : B3))[k]'(by (try simp only [List.length_set]); omega)).2.2) : B3))[k]'(by (try simp only [List.length_set]); omega)).1, (((ys.set k (((m + 3 * (↑k : Int)), (ys[k]'(by (try simp only [List.length_set]); omega)).2.1, (ys[k]'(by (try simp only [List.length_set]); omega)).2.2) : B3)).set k ((((ys.set k (((m + 3 * (↑k : Int)), (ys[k]'(by (try simp only [List.length_set]); omega)).2.1, (ys[k]'(by (try simp only [List.length_set]); omega)).2.2) : B3))[k]'(by (try simp only [List.length_set]); omega)).1, ((m + 3 * (↑k : Int)) + (1 : Int)), ((ys.set k (((m + 3 * (↑k : Int)), (ys[k]'(by (try simp only [List.length_set]); omega)).2.1, (ys[k]'(by (try simp only [List.length_set]); omega)).2.2) : B3))[k]'(by (try simp only [List.length_set]); omega)).2.2) : B3))[k]'(by (try simp only [List.length_set]); omega)).2.1, (((m + 3 * (↑k : Int)) + (1 : Int)) + (1 : Int))) : B3))) ⟨by simp only [List.length_set]; omega, by simp only []; omega⟩ (by omega) (Ent.cons rfl (Ent.cons' rfl (iv (by simp only []; omega)) (Ent.nil _))) (Ent.cons (t := 0) rfl (Ent.cons (t := 4) rfl (Ent.nil _))) (Sub.keep 0 rfl (Sub.refl _))
  · skip
    refine V.exit ?_
    refine X.thenExit ?_
    refine X.thenExit ?_
    refine X.blockHit ?_
    refine X.next ?_
    refine V.seq ?_
    refine V.region ?_
    refine O.p rfl rfl rfl (Pu.move rfl rfl) ?_
    refine O.p rfl rfl rfl (Pu.assign rfl rfl) ?_
    refine O.nil ?_
    refine X.next ?_
    refine V.ret ?_
    refine X.ret1 rfl rfl ?_
    exact fun w hw => St.mkExi ys (St.unsep (St.addPur ⟨hl, iv (by omega)⟩ (hw.sub (Sub.keep 0 rfl (Sub.refl _)))))

set_option maxRecDepth 100000 in
theorem markSystem_ok (v : Int) (xs : List B3) (m : Int) (A : Option Addr) (c : Nat) (w0 : World) (H : List Assn) (hm : 0 ≤ m ∧ m ≤ 1152921504606846976) (lx : xs.length ≤ 1099511627776) : Does Try.prog 25 [.agg #[.int .i64 v, .slice A xs.length c], .int .i64 m] w0 (Own 75 B3C A c xs :: H) (fun r => [.exi fun ys : List B3 => .sep (.pur (ys.length = xs.length ∧ r = .int .i64 (m + 3 * xs.length))) (Own 75 B3C A c ys)] ++ H) := by
  refine Does.enter Try.func25 rfl rfl [(0, .agg #[.int .i64 v, .slice A xs.length c]), (1, .int .i64 m)] rfl ?_
  refine V.seq ?_
  refine V.region ?_
  refine O.e rfl rfl rfl (Ef.box rfl rfl rfl) ?_
  rintro _ _ ⟨b1, rfl, rfl⟩
  refine O.p rfl rfl rfl (Pu.assign rfl rfl) ?_
  refine O.nil ?_
  refine X.next ?_
  refine V.seq ?_
  refine V.region ?_
  refine O.p rfl rfl rfl (Pu.fieldAddr 1 rfl Try.underlying30 rfl sz28 rfl rfl) ?_
  refine O.p rfl rfl rfl (Pu.load rfl pl28 rfl (Ld.blk 0 rfl rfl)) ?_
  refine O.p rfl rfl rfl (Pu.move rfl rfl) ?_
  refine O.e rfl rfl rfl (Ef.call call78 rfl rfl (Does.pre (fun w hw => hw.sub (Sub.keep 1 rfl (Sub.keep 0 rfl (Sub.refl _)))) (markBlockS_ok _ _ _ _ _ _ (by omega) (by omega)))) ?_
  rintro _ _ rfl
  refine O.exi (fun ys1 => ?_)
  refine O.sep ?_
  refine O.pur ?_
  rintro ⟨hlys1, rfl⟩
  refine O.p rfl rfl rfl (Pu.assign rfl rfl) ?_
  refine O.nil ?_
  refine X.next ?_
  refine V.seq ?_
  refine V.region ?_
  refine O.p rfl rfl rfl (Pu.move rfl rfl) ?_
  refine O.p rfl rfl rfl (Pu.assign rfl rfl) ?_
  refine O.nil ?_
  refine X.next ?_
  refine V.ret ?_
  refine X.ret1 rfl rfl ?_
  exact fun w hw => St.mkExi ys1 (St.unsep (St.addPur ⟨hlys1, rfl⟩ (hw.sub (Sub.keep 0 rfl (Sub.drop (Sub.refl _))))))
end Go.Proofs.Ytjpfngmoabnffaa
