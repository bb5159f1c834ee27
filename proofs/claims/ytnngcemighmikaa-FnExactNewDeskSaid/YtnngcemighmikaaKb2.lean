/-
  Contracts, part 2.
-/
import Derived.Test.YtnngcemighmikaaKb1
set_option linter.unusedVariables false
set_option linter.unusedSimpArgs false
namespace Go.Proofs.Ytnngcemighmikaa
open Go Go.RowKit Go.Vc Go.Proofs
set_option maxRecDepth 100000 in
theorem isNaN_ok (n : Int) (w : World) : Does Try.prog 133 [.int .i64 n] w [] (fun v => [.pur (v = .bool false)]) := by
  refine Does.enter Try.func133 rfl rfl [(0, .int .i64 n)] rfl ?_
  refine V.seq ?_
  refine V.region ?_
  refine O.p rfl rfl rfl (Pu.assign rfl rfl) ?_
  refine O.nil ?_
  refine X.next ?_
  refine V.seq ?_
  refine V.region ?_
  refine O.p rfl rfl rfl (Pu.move rfl rfl) ?_
  refine O.p rfl rfl rfl (Pu.move rfl rfl) ?_
  refine O.p rfl rfl rfl (Pu.neq rfl rfl rfl) ?_
  refine O.p rfl rfl rfl (Pu.assign rfl rfl) ?_
  refine O.nil ?_
  refine X.next ?_
  refine V.ret ?_
  refine X.ret1 rfl rfl ?_
  exact fun w hw => St.retP (by simp) hw
set_option maxRecDepth 100000 in
theorem cmpCompare_ok (x y : Int) (w : World) : Does Try.prog 112 [.int .i64 x, .int .i64 y] w [] (fun v => [.pur (v = .int .i64 (cmpI x y))]) := by
  refine Does.enter Try.func112 rfl rfl [(0, .int .i64 x), (1, .int .i64 y)] rfl ?_
  refine V.seq ?_
  refine V.region ?_
  refine O.p rfl rfl rfl (Pu.assign rfl rfl) ?_
  refine O.nil ?_
  refine X.next ?_
  refine V.seq ?_
  refine V.region ?_
  refine O.p rfl rfl rfl (Pu.move rfl rfl) ?_
  refine O.e rfl rfl rfl (Ef.callP call133 rfl rfl (fun w hw => isNaN_ok _ _)) ?_
  rintro _ _ ⟨rfl, rfl⟩
  refine O.p rfl rfl rfl (Pu.assign rfl rfl) ?_
  refine O.nil ?_
  refine X.next ?_
  refine V.seq ?_
  refine V.region ?_
  refine O.p rfl rfl rfl (Pu.move rfl rfl) ?_
  refine O.e rfl rfl rfl (Ef.callP call133 rfl rfl (fun w hw => isNaN_ok _ _)) ?_
  rintro _ _ ⟨rfl, rfl⟩
  refine O.p rfl rfl rfl (Pu.assign rfl rfl) ?_
  refine O.nil ?_
  refine X.next ?_
  refine V.seq ?_
  refine V.seq ?_
  refine V.region ?_
  refine O.p rfl rfl rfl (Pu.move rfl rfl) ?_
  refine O.nil ?_
  refine X.next ?_
  refine V.condF rfl ?_
  refine V.skip ?_
  refine X.next ?_
  refine V.seq ?_
  refine V.seq ?_
  refine V.region ?_
  refine O.p rfl rfl rfl (Pu.move rfl rfl) ?_
  refine O.nil ?_
  refine X.next ?_
  refine V.condF rfl ?_
  refine V.skip ?_
  refine X.next ?_
  refine V.seq ?_
  refine V.seq ?_
  refine V.region ?_
  refine O.p rfl rfl rfl (Pu.move rfl rfl) ?_
  refine O.p rfl rfl rfl (Pu.move rfl rfl) ?_
  refine O.p rfl rfl rfl (Pu.lss rfl rfl rfl) ?_
  refine O.nil ?_
  refine X.next ?_
  refine V.condD rfl (fun c1 => ?_) (fun c1 => ?_)
  · skip
    refine V.seq ?_
    refine V.region ?_
    refine O.p rfl rfl rfl (Pu.assign rfl rfl) ?_
    refine O.nil ?_
    refine X.next ?_
    refine V.ret ?_
    refine X.thenRet ?_
    refine X.ret1 rfl rfl ?_
    exact fun w hw => St.retP (by simp [cmpI, c1]) hw
  · skip
    refine V.skip ?_
    refine X.next ?_
    refine V.seq ?_
    refine V.seq ?_
    refine V.region ?_
    refine O.p rfl rfl rfl (Pu.move rfl rfl) ?_
    refine O.p rfl rfl rfl (Pu.move rfl rfl) ?_
    refine O.p rfl rfl rfl (Pu.gtr rfl rfl rfl) ?_
    refine O.nil ?_
    refine X.next ?_
    refine V.condD rfl (fun c2 => ?_) (fun c2 => ?_)
    · skip
      refine V.seq ?_
      refine V.region ?_
      refine O.p rfl rfl rfl (Pu.assign rfl rfl) ?_
      refine O.nil ?_
      refine X.next ?_
      refine V.ret ?_
      refine X.thenRet ?_
      refine X.ret1 rfl rfl ?_
      exact fun w hw => St.retP (by simp [cmpI, c1, c2]) hw
    · skip
      refine V.skip ?_
      refine X.next ?_
      refine V.seq ?_
      refine V.region ?_
      refine O.p rfl rfl rfl (Pu.assign rfl rfl) ?_
      refine O.nil ?_
      refine X.next ?_
      refine V.ret ?_
      refine X.ret1 rfl rfl ?_
      exact fun w hw => St.retP (by simp [cmpI, c1, c2]) hw
set_option maxRecDepth 100000 in
theorem slicesCompare_ok (xs ys : List Int) (A A2 : Option Addr) (c c2 : Nat) (w : World) (hx : Rd I64 w A xs) (hy : Rd I64 w A2 ys) (lx : xs.length ≤ 4611686018427387904) (ly : ys.length ≤ 4611686018427387904) : Does Try.prog 105 [.slice A xs.length c, .slice A2 ys.length c2] w [] (fun v => [.pur (v = .int .i64 (cmpL xs ys))]) := by
  refine Does.enter Try.func105 rfl rfl [(0, .slice A xs.length c), (1, .slice A2 ys.length c2)] rfl ?_
  refine V.seq ?_
  refine V.region ?_
  refine O.p rfl rfl rfl (Pu.assign rfl rfl) ?_
  refine O.nil ?_
  refine X.next ?_
  refine V.seq ?_
  refine V.seq ?_
  refine V.region ?_
  refine O.p rfl rfl rfl (Pu.move rfl rfl) ?_
  refine O.p rfl rfl rfl (Pu.len rfl Try.underlying77 rfl) ?_
  refine O.p rfl rfl rfl (Pu.move rfl rfl) ?_
  refine O.nil ?_
  refine X.next ?_
  refine V.block ?_
  refine V.loop2 (β := Nat) (fun k => [(11, .int .i64 (k : Int))]) _ (fun k => []) (fun k => k ≤ xs.length ∧ k ≤ ys.length ∧ cmpL (xs.drop k) (ys.drop k) = cmpL xs ys) (fun k => xs.length - k) 0 ⟨by omega, by omega, rfl⟩ (Ent.cons rfl (Ent.nil _)) (Ent.cons (t := 0) rfl (Ent.cons (t := 1) rfl (Ent.cons (t := 9) rfl (Ent.cons (t := 10) rfl (Ent.nil _))))) (Sub.nil _) ?_
  rintro k ⟨hk1, hk2, hk3⟩
  refine V.seq ?_
  refine V.region ?_
  refine O.p rfl rfl rfl (Pu.lss rfl rfl rfl) ?_
  refine O.nil ?_
  refine X.next ?_
  refine V.seq ?_
  refine V.condD rfl (fun c1 => ?_) (fun c1 => ?_)
  · skip
    refine V.skip ?_
    refine X.next ?_
    refine V.seq ?_
    refine V.block ?_
    refine V.seq ?_
    refine V.region ?_
    refine O.p rfl rfl rfl (Pu.move rfl rfl) ?_
    refine O.p rfl rfl rfl (Pu.indexAddr (k) rfl Try.underlying77 sz2 rfl rfl (by omega) (by omega) (hx.some (by omega))) ?_
    have e1 : k < xs.length := by omega
    refine O.p rfl rfl rfl (Pu.load rfl pl2 rfl (Ld.rd (Ld.old hx) (k := k) e1 rfl rfl)) ?_
    refine O.p rfl rfl rfl (Pu.assign rfl rfl) ?_
    refine O.p rfl rfl rfl (Pu.assign rfl rfl) ?_
    refine O.nil ?_
    refine X.next ?_
    refine V.seq ?_
    refine V.seq ?_
    refine V.region ?_
    refine O.p rfl rfl rfl (Pu.move rfl rfl) ?_
    refine O.p rfl rfl rfl (Pu.move rfl rfl) ?_
    refine O.p rfl rfl rfl (Pu.len rfl Try.underlying77 rfl) ?_
    refine O.p rfl rfl rfl (Pu.geq rfl rfl rfl) ?_
    refine O.nil ?_
    refine X.next ?_
    refine V.condD rfl (fun c2 => ?_) (fun c2 => ?_)
    · skip
      refine V.seq ?_
      refine V.region ?_
      refine O.p rfl rfl rfl (Pu.assign rfl rfl) ?_
      refine O.nil ?_
      refine X.next ?_
      refine V.ret ?_
      refine X.thenRet ?_
      refine X.blockRet ?_
      refine X.thenRet ?_
      refine X.thenRet ?_
      refine X.blockRet ?_
      refine X.thenRet ?_
      refine X.ret1 rfl rfl ?_
      exact fun w hw => St.retP (iv (by rw [← hk3]; exact cmpL_more (by omega) (by omega))) hw
    · skip
      refine V.skip ?_
      refine X.next ?_
      refine V.seq ?_
      refine V.region ?_
      refine O.p rfl rfl rfl (Pu.move rfl rfl) ?_
      refine O.p rfl rfl rfl (Pu.move rfl rfl) ?_
      refine O.p rfl rfl rfl (Pu.indexAddr (k) rfl Try.underlying77 sz2 rfl rfl (by omega) (by omega) (hy.some (by omega))) ?_
      have e2 : k < ys.length := by omega
      refine O.p rfl rfl rfl (Pu.load rfl pl2 rfl (Ld.rd (Ld.old hy) (k := k) e2 rfl rfl)) ?_
      refine O.p rfl rfl rfl (Pu.assign rfl rfl) ?_
      refine O.nil ?_
      refine X.next ?_
      refine V.seq ?_
      refine V.region ?_
      refine O.p rfl rfl rfl (Pu.move rfl rfl) ?_
      refine O.p rfl rfl rfl (Pu.move rfl rfl) ?_
      refine O.e rfl rfl rfl (Ef.callP call112 rfl rfl (fun w hw => cmpCompare_ok _ _ _)) ?_
      rintro _ _ ⟨rfl, rfl⟩
      refine O.p rfl rfl rfl (Pu.assign rfl rfl) ?_
      refine O.nil ?_
      refine X.next ?_
      refine V.seq ?_
      refine V.region ?_
      refine O.p rfl rfl rfl (Pu.move rfl rfl) ?_
      refine O.p rfl rfl rfl (Pu.neq rfl rfl rfl) ?_
      refine O.nil ?_
      refine X.next ?_
      refine V.condNot rfl (fun c3 => ?_) (fun c3 => ?_)
      · skip
        refine V.seq ?_
        refine V.region ?_
        refine O.p rfl rfl rfl (Pu.move rfl rfl) ?_
        refine O.p rfl rfl rfl (Pu.assign rfl rfl) ?_
        refine O.nil ?_
        refine X.next ?_
        refine V.ret ?_
        refine X.blockRet ?_
        refine X.thenRet ?_
        refine X.thenRet ?_
        refine X.blockRet ?_
        refine X.thenRet ?_
        refine X.ret1 rfl rfl ?_
        exact fun w hw => St.retP (iv (by rw [← hk3]; exact cmpL_ne (by omega) (by omega) c3)) hw
      · skip
        refine V.skip ?_
        refine X.blockNormal ?_
        refine X.next ?_
        refine V.region ?_
        refine O.p rfl rfl rfl (Pu.add64 (r := ((k + 1 : Nat) : Int)) rfl (by omega) rfl rfl rfl) ?_
        refine O.p rfl rfl rfl (Pu.move rfl rfl) ?_
        refine O.nil ?_
        exact X.back2 (k + 1) ⟨by omega, by omega, cmpL_step hk3 (by omega) (by omega) c3⟩ (by omega) (Ent.cons rfl (Ent.nil _)) (Ent.cons (t := 0) rfl (Ent.cons (t := 1) rfl (Ent.cons (t := 9) rfl (Ent.cons (t := 10) rfl (Ent.nil _))))) (Sub.nil _)
  · skip
    refine V.exit ?_
    refine X.thenExit ?_
    refine X.thenExit ?_
    refine X.blockHit ?_
    refine X.next ?_
    refine V.seq ?_
    refine V.seq ?_
    refine V.region ?_
    refine O.p rfl rfl rfl (Pu.move rfl rfl) ?_
    refine O.p rfl rfl rfl (Pu.len rfl Try.underlying77 rfl) ?_
    refine O.p rfl rfl rfl (Pu.move rfl rfl) ?_
    refine O.p rfl rfl rfl (Pu.len rfl Try.underlying77 rfl) ?_
    refine O.p rfl rfl rfl (Pu.lss rfl rfl rfl) ?_
    refine O.nil ?_
    refine X.next ?_
    refine V.condD rfl (fun c4 => ?_) (fun c4 => ?_)
    · skip
      refine V.seq ?_
      refine V.region ?_
      refine O.p rfl rfl rfl (Pu.assign rfl rfl) ?_
      refine O.nil ?_
      refine X.next ?_
      refine V.ret ?_
      refine X.thenRet ?_
      refine X.ret1 rfl rfl ?_
      exact fun w hw => St.retP (iv (by rw [← hk3]; exact cmpL_less (by omega) (by omega))) hw
    · skip
      refine V.skip ?_
      refine X.next ?_
      refine V.seq ?_
      refine V.region ?_
      refine O.p rfl rfl rfl (Pu.assign rfl rfl) ?_
      refine O.nil ?_
      refine X.next ?_
      refine V.ret ?_
      refine X.ret1 rfl rfl ?_
      exact fun w hw => St.retP (iv (by rw [← hk3]; exact cmpL_end (by omega) (by omega))) hw
set_option maxRecDepth 100000 in
theorem compare_ok (a b : B3) (w : World) : Does Try.prog 89 [B3.v a, B3.v b] w [] (fun v => [.pur (v = .int .i64 (cmpL (bl a) (bl b)))]) := by
  refine Does.enter Try.func89 rfl rfl [(0, B3.v a), (1, B3.v b)] rfl ?_
  refine V.seq ?_
  refine V.region ?_
  refine O.e rfl rfl rfl (Ef.box rfl rfl rfl) ?_
  rintro _ _ ⟨b1, rfl, rfl⟩
  refine O.e rfl rfl rfl (Ef.box rfl rfl rfl) ?_
  rintro _ _ ⟨b2, rfl, rfl⟩
  refine O.p rfl rfl rfl (Pu.assign rfl rfl) ?_
  refine O.nil ?_
  refine X.next ?_
  refine V.seq ?_
  refine V.ent (Ent.cons (t := 2) rfl (Ent.cons (t := 3) rfl (Ent.nil _))) ?_
  refine V.draw mo (by kernel_rfl) (fun hwf => ?_)
  refine D.p 0 rfl rfl rfl rfl rfl rfl (Pu.slicePtr rfl Try.underlying70 sz2 rfl) ?_
  refine D.p 1 rfl rfl rfl rfl rfl rfl (Pu.slicePtr rfl Try.underlying70 sz2 rfl) ?_
  refine D.eff hwf (e := 2) rfl rfl rfl rfl (Ef.callP call105 rfl rfl (fun w hw => slicesCompare_ok (bl a) (bl b) _ _ 3 3 w (Ld.arr 1 rfl rfl w hw) (Ld.arr 0 rfl rfl w hw) (by simp [bl]) (by simp [bl]))) rfl rfl rfl ?_
  rintro _ _ ⟨rfl, rfl⟩ hs
  refine ⟨fun w hw => hw, ?_⟩
  refine D.p 3 rfl rfl rfl rfl rfl rfl (Pu.assign rfl rfl) ?_
  refine D.done hwf rfl ?_
  refine X.next ?_
  refine V.ret ?_
  refine X.ret1 rfl rfl ?_
  exact fun w hw => St.retP (rfl) hw
set_option maxRecDepth 100000 in
theorem l01Before_ok (a b : B3) (w : World) : Does Try.prog 64 [B3.v a, B3.v b] w [] (fun v => [.pur (v = .bool (decide (B3.lt a b)))]) := by
  refine Does.enter Try.func64 rfl rfl [(0, B3.v a), (1, B3.v b)] rfl ?_
  refine V.seq ?_
  refine V.region ?_
  refine O.e rfl rfl rfl (Ef.box rfl rfl rfl) ?_
  rintro _ _ ⟨b1, rfl, rfl⟩
  refine O.e rfl rfl rfl (Ef.box rfl rfl rfl) ?_
  rintro _ _ ⟨b2, rfl, rfl⟩
  refine O.p rfl rfl rfl (Pu.assign rfl rfl) ?_
  refine O.nil ?_
  refine X.next ?_
  refine V.seq ?_
  refine V.seq ?_
  refine V.region ?_
  refine O.p rfl rfl rfl (Pu.assign rfl rfl) ?_
  refine O.nil ?_
  refine X.next ?_
  refine V.block ?_
  refine V.unroll 3 ?_
  refine V.seq ?_
  refine V.seq ?_
  refine V.region ?_
  refine O.p rfl rfl rfl (Pu.move rfl rfl) ?_
  refine O.p rfl rfl rfl (Pu.isT (by decide) (Pu.lss rfl rfl rfl)) ?_
  refine O.nil ?_
  refine X.next ?_
  refine V.condT rfl ?_
  refine V.skip ?_
  refine X.next ?_
  refine V.seq ?_
  refine V.block ?_
  refine V.seq ?_
  refine V.draw mo (by kernel_rfl) (fun hwf => ?_)
  refine D.p 0 rfl rfl rfl rfl rfl rfl (Pu.move rfl rfl) ?_
  refine D.p 1 rfl rfl rfl rfl rfl rfl (Pu.indexArr 0 0 rfl Try.underlying70 sz2 rfl rfl (by decide) (by decide) (by decide)) ?_
  refine D.p 2 rfl rfl rfl rfl rfl rfl (Pu.load rfl pl2 rfl (Ld.blk 1 rfl rfl)) ?_
  refine D.p 3 rfl rfl rfl rfl rfl rfl (Pu.move rfl rfl) ?_
  refine D.p 4 rfl rfl rfl rfl rfl rfl (Pu.indexArr 0 0 rfl Try.underlying70 sz2 rfl rfl (by decide) (by decide) (by decide)) ?_
  refine D.p 5 rfl rfl rfl rfl rfl rfl (Pu.load rfl pl2 rfl (Ld.blk 0 rfl rfl)) ?_
  refine D.p 6 rfl rfl rfl rfl rfl rfl (Pu.neq rfl rfl rfl) ?_
  refine D.done hwf rfl ?_
  refine X.next ?_
  refine V.condNot rfl (fun c1 => ?_) (fun c1 => ?_)
  · skip
    refine V.seq ?_
    refine V.ent (Ent.cons (t := 2) rfl (Ent.cons (t := 3) rfl (Ent.cons (t := 5) rfl (Ent.nil _)))) ?_
    refine V.draw mo (by kernel_rfl) (fun hwf => ?_)
    refine D.p 0 rfl rfl rfl rfl rfl rfl (Pu.move rfl rfl) ?_
    refine D.p 1 rfl rfl rfl rfl rfl rfl (Pu.indexArr 0 0 rfl Try.underlying70 sz2 rfl rfl (by decide) (by decide) (by decide)) ?_
    refine D.p 2 rfl rfl rfl rfl rfl rfl (Pu.load rfl pl2 rfl (Ld.blk 1 rfl rfl)) ?_
    refine D.p 3 rfl rfl rfl rfl rfl rfl (Pu.move rfl rfl) ?_
    refine D.p 4 rfl rfl rfl rfl rfl rfl (Pu.indexArr 0 0 rfl Try.underlying70 sz2 rfl rfl (by decide) (by decide) (by decide)) ?_
    refine D.p 5 rfl rfl rfl rfl rfl rfl (Pu.load rfl pl2 rfl (Ld.blk 0 rfl rfl)) ?_
    refine D.p 6 rfl rfl rfl rfl rfl rfl (Pu.lss rfl rfl rfl) ?_
    refine D.p 7 rfl rfl rfl rfl rfl rfl (Pu.assign rfl rfl) ?_
    refine D.done hwf rfl ?_
    refine X.next ?_
    refine V.ret ?_
    refine X.blockRet ?_
    refine X.thenRet ?_
    refine X.thenRet ?_
    refine X.blockRet ?_
    refine X.thenRet ?_
    refine X.ret1 rfl rfl ?_
    exact fun w hw => St.retP (boolD (by unfold B3.lt; omega)) hw
  · skip
    refine V.skip ?_
    refine X.blockNormal ?_
    refine X.next ?_
    refine V.region ?_
    refine O.p rfl rfl rfl (Pu.move rfl rfl) ?_
    refine O.p rfl rfl rfl (Pu.add64 (r := 1) (by decide) (by decide) rfl rfl rfl) ?_
    refine O.p rfl rfl rfl (Pu.assign rfl rfl) ?_
    refine O.nil ?_
    refine X.again 2 ?_
    refine V.seq ?_
    refine V.seq ?_
    refine V.region ?_
    refine O.p rfl rfl rfl (Pu.move rfl rfl) ?_
    refine O.p rfl rfl rfl (Pu.isT (by decide) (Pu.lss rfl rfl rfl)) ?_
    refine O.nil ?_
    refine X.next ?_
    refine V.condT rfl ?_
    refine V.skip ?_
    refine X.next ?_
    refine V.seq ?_
    refine V.block ?_
    refine V.seq ?_
    refine V.ent (Ent.cons (t := 2) rfl (Ent.cons (t := 3) rfl (Ent.cons (t := 4) rfl (Ent.cons (t := 5) rfl (Ent.nil _))))) ?_
    refine V.draw mo (by kernel_rfl) (fun hwf => ?_)
    refine D.p 0 rfl rfl rfl rfl rfl rfl (Pu.move rfl rfl) ?_
    refine D.p 1 rfl rfl rfl rfl rfl rfl (Pu.indexArr 1 1 rfl Try.underlying70 sz2 rfl rfl (by decide) (by decide) (by decide)) ?_
    refine D.p 2 rfl rfl rfl rfl rfl rfl (Pu.load rfl pl2 rfl (Ld.blk 1 rfl rfl)) ?_
    refine D.p 3 rfl rfl rfl rfl rfl rfl (Pu.move rfl rfl) ?_
    refine D.p 4 rfl rfl rfl rfl rfl rfl (Pu.indexArr 1 1 rfl Try.underlying70 sz2 rfl rfl (by decide) (by decide) (by decide)) ?_
    refine D.p 5 rfl rfl rfl rfl rfl rfl (Pu.load rfl pl2 rfl (Ld.blk 0 rfl rfl)) ?_
    refine D.p 6 rfl rfl rfl rfl rfl rfl (Pu.neq rfl rfl rfl) ?_
    refine D.done hwf rfl ?_
    refine X.next ?_
    refine V.condNot rfl (fun c2 => ?_) (fun c2 => ?_)
    · skip
      refine V.seq ?_
      refine V.ent (Ent.cons (t := 2) rfl (Ent.cons (t := 3) rfl (Ent.cons (t := 5) rfl (Ent.nil _)))) ?_
      refine V.draw mo (by kernel_rfl) (fun hwf => ?_)
      refine D.p 0 rfl rfl rfl rfl rfl rfl (Pu.move rfl rfl) ?_
      refine D.p 1 rfl rfl rfl rfl rfl rfl (Pu.indexArr 1 1 rfl Try.underlying70 sz2 rfl rfl (by decide) (by decide) (by decide)) ?_
      refine D.p 2 rfl rfl rfl rfl rfl rfl (Pu.load rfl pl2 rfl (Ld.blk 1 rfl rfl)) ?_
      refine D.p 3 rfl rfl rfl rfl rfl rfl (Pu.move rfl rfl) ?_
      refine D.p 4 rfl rfl rfl rfl rfl rfl (Pu.indexArr 1 1 rfl Try.underlying70 sz2 rfl rfl (by decide) (by decide) (by decide)) ?_
      refine D.p 5 rfl rfl rfl rfl rfl rfl (Pu.load rfl pl2 rfl (Ld.blk 0 rfl rfl)) ?_
      refine D.p 6 rfl rfl rfl rfl rfl rfl (Pu.lss rfl rfl rfl) ?_
      refine D.p 7 rfl rfl rfl rfl rfl rfl (Pu.assign rfl rfl) ?_
      refine D.done hwf rfl ?_
      refine X.next ?_
      refine V.ret ?_
      refine X.blockRet ?_
      refine X.thenRet ?_
      refine X.thenRet ?_
      refine X.blockRet ?_
      refine X.thenRet ?_
      refine X.ret1 rfl rfl ?_
      exact fun w hw => St.retP (boolD (by unfold B3.lt; omega)) hw
    · skip
      refine V.skip ?_
      refine X.blockNormal ?_
      refine X.next ?_
      refine V.region ?_
      refine O.p rfl rfl rfl (Pu.move rfl rfl) ?_
      refine O.p rfl rfl rfl (Pu.add64 (r := 2) (by decide) (by decide) rfl rfl rfl) ?_
      refine O.p rfl rfl rfl (Pu.assign rfl rfl) ?_
      refine O.nil ?_
      refine X.again 1 ?_
      refine V.seq ?_
      refine V.seq ?_
      refine V.region ?_
      refine O.p rfl rfl rfl (Pu.move rfl rfl) ?_
      refine O.p rfl rfl rfl (Pu.isT (by decide) (Pu.lss rfl rfl rfl)) ?_
      refine O.nil ?_
      refine X.next ?_
      refine V.condT rfl ?_
      refine V.skip ?_
      refine X.next ?_
      refine V.seq ?_
      refine V.block ?_
      refine V.seq ?_
      refine V.ent (Ent.cons (t := 2) rfl (Ent.cons (t := 3) rfl (Ent.cons (t := 4) rfl (Ent.cons (t := 5) rfl (Ent.nil _))))) ?_
      refine V.draw mo (by kernel_rfl) (fun hwf => ?_)
      refine D.p 0 rfl rfl rfl rfl rfl rfl (Pu.move rfl rfl) ?_
      refine D.p 1 rfl rfl rfl rfl rfl rfl (Pu.indexArr 2 2 rfl Try.underlying70 sz2 rfl rfl (by decide) (by decide) (by decide)) ?_
      refine D.p 2 rfl rfl rfl rfl rfl rfl (Pu.load rfl pl2 rfl (Ld.blk 1 rfl rfl)) ?_
      refine D.p 3 rfl rfl rfl rfl rfl rfl (Pu.move rfl rfl) ?_
      refine D.p 4 rfl rfl rfl rfl rfl rfl (Pu.indexArr 2 2 rfl Try.underlying70 sz2 rfl rfl (by decide) (by decide) (by decide)) ?_
      refine D.p 5 rfl rfl rfl rfl rfl rfl (Pu.load rfl pl2 rfl (Ld.blk 0 rfl rfl)) ?_
      refine D.p 6 rfl rfl rfl rfl rfl rfl (Pu.neq rfl rfl rfl) ?_
      refine D.done hwf rfl ?_
      refine X.next ?_
      refine V.condNot rfl (fun c3 => ?_) (fun c3 => ?_)
      · skip
        refine V.seq ?_
        refine V.ent (Ent.cons (t := 2) rfl (Ent.cons (t := 3) rfl (Ent.cons (t := 5) rfl (Ent.nil _)))) ?_
        refine V.draw mo (by kernel_rfl) (fun hwf => ?_)
        refine D.p 0 rfl rfl rfl rfl rfl rfl (Pu.move rfl rfl) ?_
        refine D.p 1 rfl rfl rfl rfl rfl rfl (Pu.indexArr 2 2 rfl Try.underlying70 sz2 rfl rfl (by decide) (by decide) (by decide)) ?_
        refine D.p 2 rfl rfl rfl rfl rfl rfl (Pu.load rfl pl2 rfl (Ld.blk 1 rfl rfl)) ?_
        refine D.p 3 rfl rfl rfl rfl rfl rfl (Pu.move rfl rfl) ?_
        refine D.p 4 rfl rfl rfl rfl rfl rfl (Pu.indexArr 2 2 rfl Try.underlying70 sz2 rfl rfl (by decide) (by decide) (by decide)) ?_
        refine D.p 5 rfl rfl rfl rfl rfl rfl (Pu.load rfl pl2 rfl (Ld.blk 0 rfl rfl)) ?_
        refine D.p 6 rfl rfl rfl rfl rfl rfl (Pu.lss rfl rfl rfl) ?_
        refine D.p 7 rfl rfl rfl rfl rfl rfl (Pu.assign rfl rfl) ?_
        refine D.done hwf rfl ?_
        refine X.next ?_
        refine V.ret ?_
        refine X.blockRet ?_
        refine X.thenRet ?_
        refine X.thenRet ?_
        refine X.blockRet ?_
        refine X.thenRet ?_
        refine X.ret1 rfl rfl ?_
        exact fun w hw => St.retP (boolD (by unfold B3.lt; omega)) hw
      · skip
        refine V.skip ?_
        refine X.blockNormal ?_
        refine X.next ?_
        refine V.region ?_
        refine O.p rfl rfl rfl (Pu.move rfl rfl) ?_
        refine O.p rfl rfl rfl (Pu.add64 (r := 3) (by decide) (by decide) rfl rfl rfl) ?_
        refine O.p rfl rfl rfl (Pu.assign rfl rfl) ?_
        refine O.nil ?_
        refine X.again 0 ?_
        refine V.seq ?_
        refine V.seq ?_
        refine V.region ?_
        refine O.p rfl rfl rfl (Pu.move rfl rfl) ?_
        refine O.p rfl rfl rfl (Pu.isF (by decide) (Pu.lss rfl rfl rfl)) ?_
        refine O.nil ?_
        refine X.next ?_
        refine V.condF rfl ?_
        refine V.exit ?_
        refine X.thenExit ?_
        refine X.thenExit ?_
        refine X.blockHit ?_
        refine X.next ?_
        refine V.seq ?_
        refine V.region ?_
        refine O.p rfl rfl rfl (Pu.assign rfl rfl) ?_
        refine O.nil ?_
        refine X.next ?_
        refine V.ret ?_
        refine X.ret1 rfl rfl ?_
        exact fun w hw => St.retP (boolF (by unfold B3.lt; omega)) hw
set_option maxRecDepth 100000 in
theorem eqBlock_ok (a b : B3) (w : World) : Does Try.prog 70 [B3.v a, B3.v b] w [] (fun v => [.pur (v = .bool (decide (a = b)))]) := by
  refine Does.enter Try.func70 rfl rfl [(0, B3.v a), (1, B3.v b)] rfl ?_
  refine V.seq ?_
  refine V.region ?_
  refine O.e rfl rfl rfl (Ef.box rfl rfl rfl) ?_
  rintro _ _ ⟨b1, rfl, rfl⟩
  refine O.e rfl rfl rfl (Ef.box rfl rfl rfl) ?_
  rintro _ _ ⟨b2, rfl, rfl⟩
  refine O.p rfl rfl rfl (Pu.assign rfl rfl) ?_
  refine O.nil ?_
  refine X.next ?_
  refine V.seq ?_
  refine V.seq ?_
  refine V.region ?_
  refine O.p rfl rfl rfl (Pu.assign rfl rfl) ?_
  refine O.nil ?_
  refine X.next ?_
  refine V.block ?_
  refine V.unroll 3 ?_
  refine V.seq ?_
  refine V.seq ?_
  refine V.region ?_
  refine O.p rfl rfl rfl (Pu.move rfl rfl) ?_
  refine O.p rfl rfl rfl (Pu.isT (by decide) (Pu.lss rfl rfl rfl)) ?_
  refine O.nil ?_
  refine X.next ?_
  refine V.condT rfl ?_
  refine V.skip ?_
  refine X.next ?_
  refine V.seq ?_
  refine V.block ?_
  refine V.seq ?_
  refine V.draw mo (by kernel_rfl) (fun hwf => ?_)
  refine D.p 0 rfl rfl rfl rfl rfl rfl (Pu.move rfl rfl) ?_
  refine D.p 1 rfl rfl rfl rfl rfl rfl (Pu.indexArr 0 0 rfl Try.underlying70 sz2 rfl rfl (by decide) (by decide) (by decide)) ?_
  refine D.p 2 rfl rfl rfl rfl rfl rfl (Pu.load rfl pl2 rfl (Ld.blk 1 rfl rfl)) ?_
  refine D.p 3 rfl rfl rfl rfl rfl rfl (Pu.move rfl rfl) ?_
  refine D.p 4 rfl rfl rfl rfl rfl rfl (Pu.indexArr 0 0 rfl Try.underlying70 sz2 rfl rfl (by decide) (by decide) (by decide)) ?_
  refine D.p 5 rfl rfl rfl rfl rfl rfl (Pu.load rfl pl2 rfl (Ld.blk 0 rfl rfl)) ?_
  refine D.p 6 rfl rfl rfl rfl rfl rfl (Pu.neq rfl rfl rfl) ?_
  refine D.done hwf rfl ?_
  refine X.next ?_
  refine V.condNot rfl (fun c1 => ?_) (fun c1 => ?_)
  · skip
    refine V.seq ?_
    refine V.region ?_
    refine O.p rfl rfl rfl (Pu.assign rfl rfl) ?_
    refine O.nil ?_
    refine X.next ?_
    refine V.ret ?_
    refine X.blockRet ?_
    refine X.thenRet ?_
    refine X.thenRet ?_
    refine X.blockRet ?_
    refine X.thenRet ?_
    refine X.ret1 rfl rfl ?_
    exact fun w hw => St.retP (boolF (fun h => c1 (by rw [h]))) hw
  · skip
    refine V.skip ?_
    refine X.blockNormal ?_
    refine X.next ?_
    refine V.region ?_
    refine O.p rfl rfl rfl (Pu.move rfl rfl) ?_
    refine O.p rfl rfl rfl (Pu.add64 (r := 1) (by decide) (by decide) rfl rfl rfl) ?_
    refine O.p rfl rfl rfl (Pu.assign rfl rfl) ?_
    refine O.nil ?_
    refine X.again 2 ?_
    refine V.seq ?_
    refine V.seq ?_
    refine V.region ?_
    refine O.p rfl rfl rfl (Pu.move rfl rfl) ?_
    refine O.p rfl rfl rfl (Pu.isT (by decide) (Pu.lss rfl rfl rfl)) ?_
    refine O.nil ?_
    refine X.next ?_
    refine V.condT rfl ?_
    refine V.skip ?_
    refine X.next ?_
    refine V.seq ?_
    refine V.block ?_
    refine V.seq ?_
    refine V.ent (Ent.cons (t := 2) rfl (Ent.cons (t := 3) rfl (Ent.cons (t := 4) rfl (Ent.cons (t := 5) rfl (Ent.nil _))))) ?_
    refine V.draw mo (by kernel_rfl) (fun hwf => ?_)
    refine D.p 0 rfl rfl rfl rfl rfl rfl (Pu.move rfl rfl) ?_
    refine D.p 1 rfl rfl rfl rfl rfl rfl (Pu.indexArr 1 1 rfl Try.underlying70 sz2 rfl rfl (by decide) (by decide) (by decide)) ?_
    refine D.p 2 rfl rfl rfl rfl rfl rfl (Pu.load rfl pl2 rfl (Ld.blk 1 rfl rfl)) ?_
    refine D.p 3 rfl rfl rfl rfl rfl rfl (Pu.move rfl rfl) ?_
    refine D.p 4 rfl rfl rfl rfl rfl rfl (Pu.indexArr 1 1 rfl Try.underlying70 sz2 rfl rfl (by decide) (by decide) (by decide)) ?_
    refine D.p 5 rfl rfl rfl rfl rfl rfl (Pu.load rfl pl2 rfl (Ld.blk 0 rfl rfl)) ?_
    refine D.p 6 rfl rfl rfl rfl rfl rfl (Pu.neq rfl rfl rfl) ?_
    refine D.done hwf rfl ?_
    refine X.next ?_
    refine V.condNot rfl (fun c2 => ?_) (fun c2 => ?_)
    · skip
      refine V.seq ?_
      refine V.region ?_
      refine O.p rfl rfl rfl (Pu.assign rfl rfl) ?_
      refine O.nil ?_
      refine X.next ?_
      refine V.ret ?_
      refine X.blockRet ?_
      refine X.thenRet ?_
      refine X.thenRet ?_
      refine X.blockRet ?_
      refine X.thenRet ?_
      refine X.ret1 rfl rfl ?_
      exact fun w hw => St.retP (boolF (fun h => c2 (by rw [h]))) hw
    · skip
      refine V.skip ?_
      refine X.blockNormal ?_
      refine X.next ?_
      refine V.region ?_
      refine O.p rfl rfl rfl (Pu.move rfl rfl) ?_
      refine O.p rfl rfl rfl (Pu.add64 (r := 2) (by decide) (by decide) rfl rfl rfl) ?_
      refine O.p rfl rfl rfl (Pu.assign rfl rfl) ?_
      refine O.nil ?_
      refine X.again 1 ?_
      refine V.seq ?_
      refine V.seq ?_
      refine V.region ?_
      refine O.p rfl rfl rfl (Pu.move rfl rfl) ?_
      refine O.p rfl rfl rfl (Pu.isT (by decide) (Pu.lss rfl rfl rfl)) ?_
      refine O.nil ?_
      refine X.next ?_
      refine V.condT rfl ?_
      refine V.skip ?_
      refine X.next ?_
      refine V.seq ?_
      refine V.block ?_
      refine V.seq ?_
      refine V.ent (Ent.cons (t := 2) rfl (Ent.cons (t := 3) rfl (Ent.cons (t := 4) rfl (Ent.cons (t := 5) rfl (Ent.nil _))))) ?_
      refine V.draw mo (by kernel_rfl) (fun hwf => ?_)
      refine D.p 0 rfl rfl rfl rfl rfl rfl (Pu.move rfl rfl) ?_
      refine D.p 1 rfl rfl rfl rfl rfl rfl (Pu.indexArr 2 2 rfl Try.underlying70 sz2 rfl rfl (by decide) (by decide) (by decide)) ?_
      refine D.p 2 rfl rfl rfl rfl rfl rfl (Pu.load rfl pl2 rfl (Ld.blk 1 rfl rfl)) ?_
      refine D.p 3 rfl rfl rfl rfl rfl rfl (Pu.move rfl rfl) ?_
      refine D.p 4 rfl rfl rfl rfl rfl rfl (Pu.indexArr 2 2 rfl Try.underlying70 sz2 rfl rfl (by decide) (by decide) (by decide)) ?_
      refine D.p 5 rfl rfl rfl rfl rfl rfl (Pu.load rfl pl2 rfl (Ld.blk 0 rfl rfl)) ?_
      refine D.p 6 rfl rfl rfl rfl rfl rfl (Pu.neq rfl rfl rfl) ?_
      refine D.done hwf rfl ?_
      refine X.next ?_
      refine V.condNot rfl (fun c3 => ?_) (fun c3 => ?_)
      · skip
        refine V.seq ?_
        refine V.region ?_
        refine O.p rfl rfl rfl (Pu.assign rfl rfl) ?_
        refine O.nil ?_
        refine X.next ?_
        refine V.ret ?_
        refine X.blockRet ?_
        refine X.thenRet ?_
        refine X.thenRet ?_
        refine X.blockRet ?_
        refine X.thenRet ?_
        refine X.ret1 rfl rfl ?_
        exact fun w hw => St.retP (boolF (fun h => c3 (by rw [h]))) hw
      · skip
        refine V.skip ?_
        refine X.blockNormal ?_
        refine X.next ?_
        refine V.region ?_
        refine O.p rfl rfl rfl (Pu.move rfl rfl) ?_
        refine O.p rfl rfl rfl (Pu.add64 (r := 3) (by decide) (by decide) rfl rfl rfl) ?_
        refine O.p rfl rfl rfl (Pu.assign rfl rfl) ?_
        refine O.nil ?_
        refine X.again 0 ?_
        refine V.seq ?_
        refine V.seq ?_
        refine V.region ?_
        refine O.p rfl rfl rfl (Pu.move rfl rfl) ?_
        refine O.p rfl rfl rfl (Pu.isF (by decide) (Pu.lss rfl rfl rfl)) ?_
        refine O.nil ?_
        refine X.next ?_
        refine V.condF rfl ?_
        refine V.exit ?_
        refine X.thenExit ?_
        refine X.thenExit ?_
        refine X.blockHit ?_
        refine X.next ?_
        refine V.seq ?_
        refine V.region ?_
        refine O.p rfl rfl rfl (Pu.assign rfl rfl) ?_
        refine O.nil ?_
        refine X.next ?_
        refine V.ret ?_
        refine X.ret1 rfl rfl ?_
        exact fun w hw => St.retP (boolT (Prod.ext c1 (Prod.ext c2 c3))) hw
set_option maxRecDepth 100000 in
theorem eqBlockS_ok (xs ys : List B3) (A A2 : Option Addr) (c c2 : Nat) (w : World) (hx : Rd B3C w A xs) (hy : Rd B3C w A2 ys) (lx : xs.length ≤ 4611686018427387904) (ly : ys.length ≤ 4611686018427387904) : Does Try.prog 40 [.slice A xs.length c, .slice A2 ys.length c2] w [] (fun v => [.pur (v = .bool (decide (xs = ys)))]) := by
  refine Does.enter Try.func40 rfl rfl [(0, .slice A xs.length c), (1, .slice A2 ys.length c2)] rfl ?_
  refine V.seq ?_
  refine V.region ?_
  refine O.p rfl rfl rfl (Pu.assign rfl rfl) ?_
  refine O.nil ?_
  refine X.next ?_
  refine V.seq ?_
  refine V.seq ?_
  refine V.region ?_
  refine O.p rfl rfl rfl (Pu.move rfl rfl) ?_
  refine O.p rfl rfl rfl (Pu.len rfl Try.underlying26 rfl) ?_
  refine O.p rfl rfl rfl (Pu.move rfl rfl) ?_
  refine O.p rfl rfl rfl (Pu.len rfl Try.underlying26 rfl) ?_
  refine O.p rfl rfl rfl (Pu.neq rfl rfl rfl) ?_
  refine O.nil ?_
  refine X.next ?_
  refine V.condNot rfl (fun c1 => ?_) (fun c1 => ?_)
  · skip
    refine V.seq ?_
    refine V.region ?_
    refine O.p rfl rfl rfl (Pu.assign rfl rfl) ?_
    refine O.nil ?_
    refine X.next ?_
    refine V.ret ?_
    refine X.thenRet ?_
    refine X.ret1 rfl rfl ?_
    exact fun w hw => St.retP (boolF (fun h => c1 (by rw [h]))) hw
  · skip
    refine V.skip ?_
    refine X.next ?_
    refine V.seq ?_
    refine V.seq ?_
    refine V.region ?_
    refine O.p rfl rfl rfl (Pu.assign rfl rfl) ?_
    refine O.nil ?_
    refine X.next ?_
    refine V.block ?_
    refine V.loop2 (β := Nat) (fun k => [(5, .int .i64 (k : Int))]) _ (fun k => []) (fun k => k ≤ xs.length ∧ ∀ j (h1 : j < xs.length) (h2 : j < ys.length), j < k → xs[j] = ys[j]) (fun k => xs.length - k) 0 ⟨by omega, fun j _ _ h => by omega⟩ (Ent.cons rfl (Ent.nil _)) (Ent.cons (t := 0) rfl (Ent.cons (t := 1) rfl (Ent.nil _))) (Sub.nil _) ?_
    rintro k ⟨hk, he⟩
    refine V.seq ?_
    refine V.seq ?_
    refine V.region ?_
    refine O.p rfl rfl rfl (Pu.move rfl rfl) ?_
    refine O.p rfl rfl rfl (Pu.move rfl rfl) ?_
    refine O.p rfl rfl rfl (Pu.len rfl Try.underlying26 rfl) ?_
    refine O.p rfl rfl rfl (Pu.lss rfl rfl rfl) ?_
    refine O.nil ?_
    refine X.next ?_
    refine V.condD rfl (fun c2 => ?_) (fun c2 => ?_)
    · skip
      refine V.skip ?_
      refine X.next ?_
      refine V.seq ?_
      refine V.block ?_
      refine V.seq ?_
      refine V.draw mo (by kernel_rfl) (fun hwf => ?_)
      refine D.p 0 rfl rfl rfl rfl rfl rfl (Pu.move rfl rfl) ?_
      refine D.p 1 rfl rfl rfl rfl rfl rfl (Pu.move rfl rfl) ?_
      refine D.p 2 rfl rfl rfl rfl rfl rfl (Pu.indexAddr (k) rfl Try.underlying26 sz70 rfl rfl (by omega) (by omega) (hx.some (by omega))) ?_
      have e1 : k < xs.length := by omega
      refine D.p 3 rfl rfl rfl rfl rfl rfl (Pu.loadAgg' (v := B3.v (xs[k]'e1)) rfl rfl ag70 sz70 rfl rfl (Ld.rds (Ld.old hx) (k := k) e1 rfl)) ?_
      refine D.p 4 rfl rfl rfl rfl rfl rfl (Pu.move rfl rfl) ?_
      refine D.p 5 rfl rfl rfl rfl rfl rfl (Pu.move rfl rfl) ?_
      refine D.p 6 rfl rfl rfl rfl rfl rfl (Pu.indexAddr (k) rfl Try.underlying26 sz70 rfl rfl (by omega) (by omega) (hy.some (by omega))) ?_
      have e2 : k < ys.length := by omega
      refine D.p 7 rfl rfl rfl rfl rfl rfl (Pu.loadAgg' (v := B3.v (ys[k]'e2)) rfl rfl ag70 sz70 rfl rfl (Ld.rds (Ld.old hy) (k := k) e2 rfl)) ?_
      refine D.eff hwf (e := 8) rfl rfl rfl rfl (Ef.callP call70 rfl rfl (fun w hw => eqBlock_ok (xs[k]'e1) (ys[k]'e2) w)) rfl rfl rfl ?_
      rintro _ _ ⟨rfl, rfl⟩ hs
      refine ⟨fun w hw => hw, ?_⟩
      refine D.p 9 rfl rfl rfl rfl rfl rfl (Pu.not rfl rfl) ?_
      refine D.done hwf rfl ?_
      refine X.next ?_
      refine V.condNot rfl (fun c3 => ?_) (fun c3 => ?_)
      · skip
        refine V.seq ?_
        refine V.region ?_
        refine O.p rfl rfl rfl (Pu.assign rfl rfl) ?_
        refine O.nil ?_
        refine X.next ?_
        refine V.ret ?_
        refine X.blockRet ?_
        refine X.thenRet ?_
        refine X.thenRet ?_
        refine X.blockRet ?_
        refine X.thenRet ?_
        refine X.ret1 rfl rfl ?_
        exact fun w hw => St.retP (boolF (fun h => c3 (by simp [h]))) hw
      · skip
        refine V.skip ?_
        refine X.blockNormal ?_
        refine X.next ?_
        refine V.region ?_
        refine O.p rfl rfl rfl (Pu.move rfl rfl) ?_
        refine O.p rfl rfl rfl (Pu.add64 (r := ((k + 1 : Nat) : Int)) rfl (by omega) rfl rfl rfl) ?_
        refine O.p rfl rfl rfl (Pu.assign rfl rfl) ?_
        refine O.nil ?_
        exact X.back2 (k + 1) ⟨by omega, fun j h1 h2 hj => by by_cases e : j = k; (· subst e; exact c3); (· exact he j h1 h2 (by omega))⟩ (by omega) (Ent.cons rfl (Ent.nil _)) (Ent.cons (t := 0) rfl (Ent.cons (t := 1) rfl (Ent.nil _))) (Sub.nil _)
    · skip
      refine V.exit ?_
      refine X.thenExit ?_
      refine X.thenExit ?_
      refine X.blockHit ?_
      refine X.next ?_
      refine V.seq ?_
      refine V.region ?_
      refine O.p rfl rfl rfl (Pu.assign rfl rfl) ?_
      refine O.nil ?_
      refine X.next ?_
      refine V.ret ?_
      refine X.ret1 rfl rfl ?_
      exact fun w hw => St.retP (boolT (List.ext_getElem (by omega) (fun j h1 h2 => he j h1 h2 (by omega)))) hw
set_option maxRecDepth 100000 in
theorem eqSystem_ok (v1 v2 : Int) (xs ys : List B3) (A A2 : Option Addr) (c c2 : Nat) (w : World) (hx : Rd B3C w A xs) (hy : Rd B3C w A2 ys) (lx : xs.length ≤ 4611686018427387904) (ly : ys.length ≤ 4611686018427387904) : Does Try.prog 12 [.agg #[.int .i64 v1, .slice A xs.length c], .agg #[.int .i64 v2, .slice A2 ys.length c2]] w [] (fun v => [.pur (v = .bool (decide (v1 = v2 ∧ xs = ys)))]) := by
  refine Does.enter Try.func12 rfl rfl [(0, .agg #[.int .i64 v1, .slice A xs.length c]), (1, .agg #[.int .i64 v2, .slice A2 ys.length c2])] rfl ?_
  refine V.seq ?_
  refine V.region ?_
  refine O.e rfl rfl rfl (Ef.box rfl rfl rfl) ?_
  rintro _ _ ⟨b1, rfl, rfl⟩
  refine O.e rfl rfl rfl (Ef.box rfl rfl rfl) ?_
  rintro _ _ ⟨b2, rfl, rfl⟩
  refine O.p rfl rfl rfl (Pu.assign rfl rfl) ?_
  refine O.nil ?_
  refine X.next ?_
  refine V.seq ?_
  refine V.seq ?_
  refine V.region ?_
  refine O.p rfl rfl rfl (Pu.fieldAddr 0 rfl Try.underlying28 rfl sz2 rfl rfl) ?_
  refine O.p rfl rfl rfl (Pu.load rfl pl2 rfl (Ld.blk 1 rfl rfl)) ?_
  refine O.p rfl rfl rfl (Pu.fieldAddr 0 rfl Try.underlying28 rfl sz2 rfl rfl) ?_
  refine O.p rfl rfl rfl (Pu.load rfl pl2 rfl (Ld.blk 0 rfl rfl)) ?_
  refine O.p rfl rfl rfl (Pu.neq rfl rfl rfl) ?_
  refine O.nil ?_
  refine X.next ?_
  refine V.condNot rfl (fun c1 => ?_) (fun c1 => ?_)
  · skip
    refine V.seq ?_
    refine V.region ?_
    refine O.p rfl rfl rfl (Pu.assign rfl rfl) ?_
    refine O.nil ?_
    refine X.next ?_
    refine V.ret ?_
    refine X.thenRet ?_
    refine X.ret1 rfl rfl ?_
    exact fun w hw => St.retP (boolF (fun h => c1 h.1)) hw
  · skip
    refine V.skip ?_
    refine X.next ?_
    refine V.seq ?_
    refine V.seq ?_
    refine V.region ?_
    refine O.p rfl rfl rfl (Pu.fieldAddr 1 rfl Try.underlying28 rfl sz26 rfl rfl) ?_
    refine O.p rfl rfl rfl (Pu.load rfl pl26 rfl (Ld.blk 1 rfl rfl)) ?_
    refine O.p rfl rfl rfl (Pu.fieldAddr 1 rfl Try.underlying28 rfl sz26 rfl rfl) ?_
    refine O.p rfl rfl rfl (Pu.load rfl pl26 rfl (Ld.blk 0 rfl rfl)) ?_
    refine O.e rfl rfl rfl (Ef.callP call40 rfl rfl (fun w hw => eqBlockS_ok xs ys _ _ _ _ w ((Ld.old hx) w hw) ((Ld.old hy) w hw) (by omega) (by omega))) ?_
    rintro _ _ ⟨rfl, rfl⟩
    refine O.p rfl rfl rfl (Pu.not rfl rfl) ?_
    refine O.nil ?_
    refine X.next ?_
    refine V.condNot rfl (fun c2 => ?_) (fun c2 => ?_)
    · skip
      refine V.seq ?_
      refine V.region ?_
      refine O.p rfl rfl rfl (Pu.assign rfl rfl) ?_
      refine O.nil ?_
      refine X.next ?_
      refine V.ret ?_
      refine X.thenRet ?_
      refine X.ret1 rfl rfl ?_
      exact fun w hw => St.retP (boolF (fun h => c2 h.2)) hw
    · skip
      refine V.skip ?_
      refine X.next ?_
      refine V.seq ?_
      refine V.region ?_
      refine O.p rfl rfl rfl (Pu.assign rfl rfl) ?_
      refine O.nil ?_
      refine X.next ?_
      refine V.ret ?_
      refine X.ret1 rfl rfl ?_
      exact fun w hw => St.retP (boolT ⟨c1, c2⟩) hw
set_option maxRecDepth 100000 in
theorem eqDesk_ok (v1 v2 u1 u2 : Int) (xs ys zs ts : List B3) (A1 A2 B1 B2 : Option Addr) (c1 c2 k1 k2 : Nat) (w : World) (hx : Rd B3C w A1 xs) (hy : Rd B3C w A2 ys) (hz : Rd B3C w B1 zs) (ht : Rd B3C w B2 ts) (lx : xs.length ≤ 4611686018427387904) (ly : ys.length ≤ 4611686018427387904) (lz : zs.length ≤ 4611686018427387904) (lt : ts.length ≤ 4611686018427387904) : Does Try.prog 19 [.agg #[.int .i64 v1, .slice A1 xs.length c1, .int .i64 v2, .slice A2 ys.length c2], .agg #[.int .i64 u1, .slice B1 zs.length k1, .int .i64 u2, .slice B2 ts.length k2]] w [] (fun v => [.pur (v = .bool (decide ((v1 = u1 ∧ xs = zs) ∧ (v2 = u2 ∧ ys = ts))))]) := by
  refine Does.enter Try.func19 rfl rfl [(0, .agg #[.int .i64 v1, .slice A1 xs.length c1, .int .i64 v2, .slice A2 ys.length c2]), (1, .agg #[.int .i64 u1, .slice B1 zs.length k1, .int .i64 u2, .slice B2 ts.length k2])] rfl ?_
  refine V.seq ?_
  refine V.region ?_
  refine O.e rfl rfl rfl (Ef.box rfl rfl rfl) ?_
  rintro _ _ ⟨b1, rfl, rfl⟩
  refine O.e rfl rfl rfl (Ef.box rfl rfl rfl) ?_
  rintro _ _ ⟨b2, rfl, rfl⟩
  refine O.p rfl rfl rfl (Pu.assign rfl rfl) ?_
  refine O.nil ?_
  refine X.next ?_
  refine V.seq ?_
  refine V.seq ?_
  refine V.region ?_
  refine O.p rfl rfl rfl (Pu.fieldAddr 0 rfl Try.underlying39 rfl sz28 rfl rfl) ?_
  refine O.p rfl rfl rfl (Pu.loadAgg (cs := [_, _]) rfl ag28 sz28 rfl rfl (Ld.blks 1 rfl rfl)) ?_
  refine O.p rfl rfl rfl (Pu.fieldAddr 0 rfl Try.underlying39 rfl sz28 rfl rfl) ?_
  refine O.p rfl rfl rfl (Pu.loadAgg (cs := [_, _]) rfl ag28 sz28 rfl rfl (Ld.blks 0 rfl rfl)) ?_
  refine O.e rfl rfl rfl (Ef.callP call12 rfl rfl (fun w hw => eqSystem_ok _ _ xs zs _ _ _ _ w ((Ld.old hx) w hw) ((Ld.old hz) w hw) (by omega) (by omega))) ?_
  rintro _ _ ⟨rfl, rfl⟩
  refine O.p rfl rfl rfl (Pu.not rfl rfl) ?_
  refine O.nil ?_
  refine X.next ?_
  refine V.condNot rfl (fun d1 => ?_) (fun d1 => ?_)
  · skip
    refine V.seq ?_
    refine V.region ?_
    refine O.p rfl rfl rfl (Pu.assign rfl rfl) ?_
    refine O.nil ?_
    refine X.next ?_
    refine V.ret ?_
    refine X.thenRet ?_
    refine X.ret1 rfl rfl ?_
    exact fun w hw => St.retP (boolF (fun h => d1 h.1)) hw
  · skip
    refine V.skip ?_
    refine X.next ?_
    refine V.seq ?_
    refine V.seq ?_
    refine V.region ?_
    refine O.p rfl rfl rfl (Pu.fieldAddr 2 rfl Try.underlying39 rfl sz28 rfl rfl) ?_
    refine O.p rfl rfl rfl (Pu.loadAgg (cs := [_, _]) rfl ag28 sz28 rfl rfl (Ld.blks 1 rfl rfl)) ?_
    refine O.p rfl rfl rfl (Pu.fieldAddr 2 rfl Try.underlying39 rfl sz28 rfl rfl) ?_
    refine O.p rfl rfl rfl (Pu.loadAgg (cs := [_, _]) rfl ag28 sz28 rfl rfl (Ld.blks 0 rfl rfl)) ?_
    refine O.e rfl rfl rfl (Ef.callP call12 rfl rfl (fun w hw => eqSystem_ok _ _ ys ts _ _ _ _ w ((Ld.old hy) w hw) ((Ld.old ht) w hw) (by omega) (by omega))) ?_
    rintro _ _ ⟨rfl, rfl⟩
    refine O.p rfl rfl rfl (Pu.not rfl rfl) ?_
    refine O.nil ?_
    refine X.next ?_
    refine V.condNot rfl (fun d2 => ?_) (fun d2 => ?_)
    · skip
      refine V.seq ?_
      refine V.region ?_
      refine O.p rfl rfl rfl (Pu.assign rfl rfl) ?_
      refine O.nil ?_
      refine X.next ?_
      refine V.ret ?_
      refine X.thenRet ?_
      refine X.ret1 rfl rfl ?_
      exact fun w hw => St.retP (boolF (fun h => d2 h.2)) hw
    · skip
      refine V.skip ?_
      refine X.next ?_
      refine V.seq ?_
      refine V.region ?_
      refine O.p rfl rfl rfl (Pu.assign rfl rfl) ?_
      refine O.nil ?_
      refine X.next ?_
      refine V.ret ?_
      refine X.ret1 rfl rfl ?_
      exact fun w hw => St.retP (boolT ⟨d1, d2⟩) hw
/-- A list with its number: all that are such, or nothing. -/
def ResL (ok : Prop) (p : List Int → Prop) (l : List (List Int)) : Prop := (ok → IsList p l) ∧ (¬ ok → l = [])
theorem ResL.unique {ok : Prop} {p : List Int → Prop} {l m : List (List Int)} (h1 : ResL ok p l) (h2 : ResL ok p m) : l = m := by
  by_cases h : ok
  · exact (h1.1 h).unique (h2.1 h)
  · rw [h1.2 h, h2.2 h]
set_option maxRecDepth 100000 in
theorem cloneB_ok (xs : List B3) (A : Option Addr) (c : Nat) (w : World) (hx : Rd B3C w A xs) (lx : xs.length ≤ 1099511627776) : Does Try.prog 97 [.slice A xs.length c] w [] (fun v => [.exi fun p : (Option Addr × Nat) × List B3 => .sep (.pur (v = .slice p.1.1 p.2.length p.1.2 ∧ p.2 = xs)) (Own 70 B3C p.1.1 p.1.2 p.2)]) := by
  refine Does.enter Try.func97 rfl rfl [(0, .slice A xs.length c)] rfl ?_
  refine V.seq ?_
  refine V.region ?_
  refine O.p rfl rfl rfl (Pu.assign rfl rfl) ?_
  refine O.nil ?_
  refine X.next ?_
  refine V.seq ?_
  refine V.seq ?_
  refine V.region ?_
  refine O.p rfl rfl rfl (Pu.move rfl rfl) ?_
  refine O.p rfl rfl rfl (Pu.eqlNil Try.underlying26 rfl rfl rfl) ?_
  refine O.nil ?_
  refine X.next ?_
  refine V.cond rfl (fun c1 => ?_) (fun c1 => ?_)
  · skip
    refine V.seq ?_
    refine V.region ?_
    refine O.p rfl rfl rfl (Pu.assign rfl rfl) ?_
    refine O.nil ?_
    refine X.next ?_
    refine V.ret ?_
    refine X.thenRet ?_
    refine X.ret1 rfl rfl ?_
    exact fun w hw => St.retX ((none, 0), []) ⟨rfl, (Rd.none hx (none_of c1)).symm⟩ (St.addNil hw)
  · skip
    refine V.skip ?_
    refine X.next ?_
    refine V.seq ?_
    refine V.region ?_
    refine O.e rfl rfl rfl (Ef.build B3C ([] : List B3) rfl Try.underlying26 inf70 rfl rfl rfl (by first | decide | (simp; done)) (by kernel_rfl)) ?_
    rintro _ _ ⟨A1, hA1, rfl, rfl⟩
    refine O.p rfl rfl rfl (Pu.move rfl rfl) ?_
    refine O.e rfl rfl rfl (Ef.append (xs := ([] : List B3)) (ys := xs) 0 rfl Try.underlying26 inf70 rfl rfl rfl rfl rfl rfl (some_of c1) (Ld.old hx) (by simp only [List.length_append, List.length_cons, List.length_nil] at *; omega) (by decide)) ?_
    rintro _ _ ⟨A2, k1, rfl, rfl, hA2⟩
    replace hA2 := hA2 (.inl hA1)
    refine O.p rfl rfl rfl (Pu.assign rfl rfl) ?_
    refine O.nil ?_
    refine X.next ?_
    refine V.ret ?_
    refine X.ret1 rfl rfl ?_
    exact fun w hw => St.retX ((A2, k1), [] ++ xs) ⟨rfl, rfl⟩ (hw.sub (Sub.keep 0 rfl (Sub.nil _)))
set_option maxRecDepth 100000 in
set_option maxHeartbeats 1000000 in
theorem indexBl_ok (s : List B3) (y : B3) (sA : Option Addr) (sc : Nat) (w : World) (hs : Rd B3C w sA s) (ls : s.length ≤ 1099511627776) : Does Try.prog 91 [.slice sA s.length sc, B3.v y] w [] (fun r => [.pur (r = .int .i64 (idxP (fun x => y = x) s))]) := by
  refine Does.enter Try.func91 rfl rfl [(0, .slice sA s.length sc), (1, B3.v y)] rfl ?_
  refine V.seq ?_
  refine V.region ?_
  refine O.e rfl rfl rfl (Ef.box rfl rfl rfl) ?_
  rintro _ _ ⟨b1, rfl, rfl⟩
  refine O.p rfl rfl rfl (Pu.assign rfl rfl) ?_
  refine O.nil ?_
  refine X.next ?_
  refine V.seq ?_
  refine V.seq ?_
  refine V.region ?_
  refine O.p rfl rfl rfl (Pu.move rfl rfl) ?_
  refine O.p rfl rfl rfl (Pu.len rfl Try.underlying26 rfl) ?_
  refine O.p rfl rfl rfl (Pu.move rfl rfl) ?_
  refine O.nil ?_
  refine X.next ?_
  refine V.block ?_
  refine V.loop3 (β := Nat) (fun i => [(8, .int .i64 (i : Int))]) _ (fun i => []) _ (fun i => i ≤ s.length ∧ ∀ j (hj : j < s.length), j < i → ¬ y = s[j]) (fun i => s.length - i) 0 ⟨by omega, fun j hj h => by omega⟩ (Ent.cons rfl (Ent.nil _)) (Ent.cons (t := 0) rfl (Ent.cons (t := 3) rfl (Ent.cons (t := 7) rfl (Ent.nil _)))) (Sub.keep 0 rfl (Sub.nil _)) ?_
  rintro i ⟨hi, hn⟩
  refine V.seq ?_
  refine V.region ?_
  refine O.p rfl rfl rfl (Pu.lss rfl rfl rfl) ?_
  refine O.nil ?_
  refine X.next ?_
  refine V.seq ?_
  refine V.condD rfl (fun c1 => ?_) (fun c1 => ?_)
  · skip
    refine V.skip ?_
    refine X.next ?_
    refine V.seq ?_
    refine V.block ?_
    refine V.seq ?_
    refine V.region ?_
    refine O.p rfl rfl rfl (Pu.move rfl rfl) ?_
    refine O.p rfl rfl rfl (Pu.assign rfl rfl) ?_
    refine O.nil ?_
    refine X.next ?_
    refine V.seq ?_
    refine V.draw mo (by kernel_rfl) (fun hwf => ?_)
    refine D.p 0 rfl rfl rfl rfl rfl rfl (Pu.loadAgg' (v := B3.v y) rfl rfl ag70 sz70 rfl rfl (Ld.whole 0 rfl)) ?_
    refine D.p 1 rfl rfl rfl rfl rfl rfl (Pu.move rfl rfl) ?_
    refine D.p 2 rfl rfl rfl rfl rfl rfl (Pu.move rfl rfl) ?_
    refine D.p 3 rfl rfl rfl rfl rfl rfl (Pu.indexAddr (i) rfl Try.underlying26 sz70 rfl rfl (by omega) (by omega) (hs.some (by omega))) ?_
    have e1 : i < s.length := by omega
    refine D.p 4 rfl rfl rfl rfl rfl rfl (Pu.loadAgg' (v := B3.v (s[i]'e1)) rfl rfl ag70 sz70 rfl rfl (Ld.rds (Ld.old hs) (k := i) e1 rfl)) ?_
    refine D.p 5 rfl rfl rfl rfl rfl rfl (Pu.eqlB3 Try.underlying70 Try.underlying2 sz2 (by kernel_rfl) rfl rfl rfl) ?_
    refine D.done hwf rfl ?_
    refine X.next ?_
    refine V.condD rfl (fun c2 => ?_) (fun c2 => ?_)
    · skip
      refine V.seq ?_
      refine V.region ?_
      refine O.p rfl rfl rfl (Pu.move rfl rfl) ?_
      refine O.p rfl rfl rfl (Pu.assign rfl rfl) ?_
      refine O.nil ?_
      refine X.next ?_
      refine V.ret ?_
      refine X.blockRet ?_
      refine X.thenRet ?_
      refine X.thenRet ?_
      refine X.blockRet ?_
      refine X.thenRet ?_
      refine X.ret1 rfl rfl ?_
      exact fun w hw => St.retP (iv ((idxP_found (p := fun x => y = x) e1 c2 hn).symm)) hw
    · skip
      refine V.skip ?_
      refine X.blockNormal ?_
      refine X.next ?_
      refine V.region ?_
      refine O.p rfl rfl rfl (Pu.add64 (r := ((i + 1 : Nat) : Int)) rfl (by omega) rfl rfl rfl) ?_
      refine O.p rfl rfl rfl (Pu.move rfl rfl) ?_
      refine O.nil ?_
      exact X.back3 (i + 1) ⟨by omega, fun j hj h => by by_cases e : j = i; (· subst e; exact c2); (· exact hn j hj (by omega))⟩ (by first | omega | (dsimp only; omega)) (Ent.cons rfl (Ent.nil _)) (Ent.cons (t := 0) rfl (Ent.cons (t := 3) rfl (Ent.cons (t := 7) rfl (Ent.nil _)))) (Sub.keep 0 rfl (Sub.nil _))
  · skip
    refine V.exit ?_
    refine X.thenExit ?_
    refine X.thenExit ?_
    refine X.blockHit ?_
    refine X.next ?_
    refine V.seq ?_
    refine V.region ?_
    refine O.p rfl rfl rfl (Pu.assign rfl rfl) ?_
    refine O.nil ?_
    refine X.next ?_
    refine V.ret ?_
    refine X.ret1 rfl rfl ?_
    exact fun w hw => St.retP (iv ((idxP_none (p := fun x => y = x) (fun j hj => hn j hj (by omega))).symm)) hw
set_option maxRecDepth 100000 in
set_option maxHeartbeats 1000000 in
theorem containsBl_ok (s : List B3) (y : B3) (sA : Option Addr) (sc : Nat) (w : World) (hs : Rd B3C w sA s) (ls : s.length ≤ 1099511627776) : Does Try.prog 72 [.slice sA s.length sc, B3.v y] w [] (fun r => [.pur (r = .bool (decide (y ∈ s)))]) := by
  refine Does.enter Try.func72 rfl rfl [(0, .slice sA s.length sc), (1, B3.v y)] rfl ?_
  refine V.seq ?_
  refine V.region ?_
  refine O.e rfl rfl rfl (Ef.box rfl rfl rfl) ?_
  rintro _ _ ⟨b1, rfl, rfl⟩
  refine O.p rfl rfl rfl (Pu.assign rfl rfl) ?_
  refine O.nil ?_
  refine X.next ?_
  refine V.seq ?_
  refine V.region ?_
  refine O.p rfl rfl rfl (Pu.move rfl rfl) ?_
  refine O.p rfl rfl rfl (Pu.loadAgg' (v := B3.v y) rfl rfl ag70 sz70 rfl rfl (Ld.whole 0 rfl)) ?_
  refine O.e rfl rfl rfl (Ef.callP call91 rfl rfl (fun w hw => indexBl_ok  s y _ _ w ((Ld.old hs) w hw) (by first | omega | (simp only [tops_len, conts_len, bl, List.length_append, List.length_cons, List.length_nil] at *; omega)) )) ?_
  rintro _ _ ⟨rfl, rfl⟩
  refine O.p rfl rfl rfl (Pu.geq rfl rfl rfl) ?_
  refine O.p rfl rfl rfl (Pu.assign rfl rfl) ?_
  refine O.nil ?_
  refine X.next ?_
  refine V.ret ?_
  refine X.ret1 rfl rfl ?_
  exact fun w hw => St.retP (boolD (idxP_nonneg.trans ⟨fun ⟨x, hx, e⟩ => e ▸ hx, fun h => ⟨y, h, rfl⟩⟩)) hw
set_option maxRecDepth 100000 in
theorem markBlockX_ok (xs : List B3) (m : Int) (A : Option Addr) (c : Nat) (w0 : World) (H : List Assn) (hm : 0 ≤ m ∧ m ≤ 1152921504606846976) (lx : xs.length ≤ 1099511627776) : Does Try.prog 41 [.slice A xs.length c, .int .i64 m] w0 (Own 70 B3C A c xs :: H) (fun v => .pur (v = .int .i64 (m + 3 * xs.length)) :: Own 70 B3C A c (marksB m xs.length) :: H) := by
  refine Does.enter Try.func41 rfl rfl [(0, .slice A xs.length c), (1, .int .i64 m)] rfl ?_
  refine V.seq ?_
  refine V.region ?_
  refine O.p rfl rfl rfl (Pu.assign rfl rfl) ?_
  refine O.nil ?_
  refine X.next ?_
  refine V.seq ?_
  refine V.seq ?_
  refine V.region ?_
  refine O.p rfl rfl rfl (Pu.assign rfl rfl) ?_
  refine O.nil ?_
  refine X.next ?_
  refine V.block ?_
  refine V.loop3 (β := Nat) (fun k => [(5, .int .i64 (k : Int)), (1, .int .i64 (m + 3 * (k : Int)))]) _ (fun k => [Own 70 B3C A c (markBAt xs m k)]) _ (fun k => k ≤ xs.length) (fun k => xs.length - k) 0 (by omega) (Ent.cons rfl (Ent.cons' rfl (iv (by omega)) (Ent.nil _))) (Ent.cons (t := 0) rfl (Ent.cons (t := 4) rfl (Ent.nil _))) (Sub.cons 0 rfl (fun w F h => by rw [markBAt_zero]; exact h) (Sub.refl _)) ?_
  rintro k hk
  refine V.seq ?_
  refine V.seq ?_
  refine V.region ?_
  refine O.p rfl rfl rfl (Pu.move rfl rfl) ?_
  refine O.p rfl rfl rfl (Pu.move rfl rfl) ?_
  refine O.p rfl rfl rfl (Pu.len rfl Try.underlying26 rfl) ?_
  refine O.p rfl rfl rfl (Pu.lss rfl rfl rfl) ?_
  refine O.nil ?_
  refine X.next ?_
  refine V.condD rfl (fun c1 => ?_) (fun c1 => ?_)
  · skip
    refine V.skip ?_
    refine X.next ?_
    refine V.seq ?_
    refine V.block ?_
    refine V.seq ?_
    refine V.region ?_
    refine O.p rfl rfl rfl (Pu.assign rfl rfl) ?_
    refine O.nil ?_
    refine X.next ?_
    refine V.block ?_
    refine V.unroll 3 ?_
    refine V.seq ?_
    refine V.seq ?_
    refine V.region ?_
    refine O.p rfl rfl rfl (Pu.move rfl rfl) ?_
    refine O.p rfl rfl rfl (Pu.isT (by decide) (Pu.lss rfl rfl rfl)) ?_
    refine O.nil ?_
    refine X.next ?_
    refine V.condT rfl ?_
    refine V.skip ?_
    refine X.next ?_
    refine V.seq ?_
    refine V.block ?_
    refine V.seq ?_
    refine V.region ?_
    refine O.p rfl rfl rfl (Pu.move rfl rfl) ?_
    refine O.p rfl rfl rfl (Pu.move rfl rfl) ?_
    refine O.p rfl rfl rfl (Pu.move rfl rfl) ?_
    refine O.p rfl rfl rfl (Pu.move rfl rfl) ?_
    refine O.p rfl rfl rfl (Pu.indexAddrS (k) rfl Try.underlying26 sz70 rfl rfl (by omega) (by omega) (fun w hw => Own.some hw (i := 0) (by exact rfl) (by (try simp only [List.length_set]); rw [markBAt_len hk]; omega))) ?_
    refine O.p rfl rfl rfl (Pu.indexArr' (0) rfl Try.underlying70 sz2 rfl rfl (by omega) (by omega) rfl (fun w hw => by have := Own.some hw (i := 0) (by exact rfl) (by (try simp only [List.length_set]); rw [markBAt_len hk]; omega); simpa using this)) ?_
    refine O.s rfl rfl (Ef.storeOwnAt 0 (k) (0) (((m + 3 * (↑k : Int)), ((markBAt xs m k)[k]'(by (try simp only [List.length_set]); rw [markBAt_len hk]; omega)).2.1, ((markBAt xs m k)[k]'(by (try simp only [List.length_set]); rw [markBAt_len hk]; omega)).2.2) : B3) rfl sz2 rfl rfl rfl rfl (by (try simp only [List.length_set]); rw [markBAt_len hk]; omega) (by decide) rfl rfl (by rfl)) ?_
    rintro _ _ rfl
    refine O.nil ?_
    refine X.next ?_
    refine V.region ?_
    refine O.p rfl rfl rfl (Pu.move rfl rfl) ?_
    refine O.p rfl rfl rfl (Pu.add64 rfl (by omega) rfl rfl rfl) ?_
    refine O.p rfl rfl rfl (Pu.assign rfl rfl) ?_
    refine O.nil ?_
    refine X.blockNormal ?_
    refine X.next ?_
    refine V.region ?_
    refine O.p rfl rfl rfl (Pu.move rfl rfl) ?_
    refine O.p rfl rfl rfl (Pu.add64 (r := 1) (by decide) (by decide) rfl rfl rfl) ?_
    refine O.p rfl rfl rfl (Pu.assign rfl rfl) ?_
    refine O.nil ?_
    refine X.again 2 ?_
    refine V.seq ?_
    refine V.seq ?_
    refine V.region ?_
    refine O.p rfl rfl rfl (Pu.move rfl rfl) ?_
    refine O.p rfl rfl rfl (Pu.isT (by decide) (Pu.lss rfl rfl rfl)) ?_
    refine O.nil ?_
    refine X.next ?_
    refine V.condT rfl ?_
    refine V.skip ?_
    refine X.next ?_
    refine V.seq ?_
    refine V.block ?_
    refine V.seq ?_
    refine V.region ?_
    refine O.p rfl rfl rfl (Pu.move rfl rfl) ?_
    refine O.p rfl rfl rfl (Pu.move rfl rfl) ?_
    refine O.p rfl rfl rfl (Pu.move rfl rfl) ?_
    refine O.p rfl rfl rfl (Pu.move rfl rfl) ?_
    refine O.p rfl rfl rfl (Pu.indexAddrS (k) rfl Try.underlying26 sz70 rfl rfl (by omega) (by omega) (fun w hw => Own.some hw (i := 0) (by exact rfl) (by (try simp only [List.length_set]); rw [markBAt_len hk]; omega))) ?_
    refine O.p rfl rfl rfl (Pu.indexArr' (1) rfl Try.underlying70 sz2 rfl rfl (by omega) (by omega) rfl (fun w hw => by have := Own.some hw (i := 0) (by exact rfl) (by (try simp only [List.length_set]); rw [markBAt_len hk]; omega); simpa using this)) ?_
    refine O.s rfl rfl (Ef.storeOwnAt 0 (k) (1) (((((markBAt xs m k).set k (((m + 3 * (↑k : Int)), ((markBAt xs m k)[k]'(by (try simp only [List.length_set]); rw [markBAt_len hk]; omega)).2.1, ((markBAt xs m k)[k]'(by (try simp only [List.length_set]); rw [markBAt_len hk]; omega)).2.2) : B3))[k]'(by (try simp only [List.length_set]); rw [markBAt_len hk]; omega)).1, ((m + 3 * (↑k : Int)) + (1 : Int)), (((markBAt xs m k).set k (((m + 3 * (↑k : Int)), ((markBAt xs m k)[k]'(by (try simp only [List.length_set]); rw [markBAt_len hk]; omega)).2.1, ((markBAt xs m k)[k]'(by (try simp only [List.length_set]); rw [markBAt_len hk]; omega)).2.2) : B3))[k]'(by (try simp only [List.length_set]); rw [markBAt_len hk]; omega)).2.2) : B3) rfl sz2 rfl rfl rfl rfl (by (try simp only [List.length_set]); rw [markBAt_len hk]; omega) (by decide) rfl rfl (by rfl)) ?_
    rintro _ _ rfl
    refine O.nil ?_
    refine X.next ?_
    refine V.region ?_
    refine O.p rfl rfl rfl (Pu.move rfl rfl) ?_
    refine O.p rfl rfl rfl (Pu.add64 rfl (by omega) rfl rfl rfl) ?_
    refine O.p rfl rfl rfl (Pu.assign rfl rfl) ?_
    refine O.nil ?_
    refine X.blockNormal ?_
    refine X.next ?_
    refine V.region ?_
    refine O.p rfl rfl rfl (Pu.move rfl rfl) ?_
    refine O.p rfl rfl rfl (Pu.add64 (r := 2) (by decide) (by decide) rfl rfl rfl) ?_
    refine O.p rfl rfl rfl (Pu.assign rfl rfl) ?_
    refine O.nil ?_
    refine X.again 1 ?_
    refine V.seq ?_
    refine V.seq ?_
    refine V.region ?_
    refine O.p rfl rfl rfl (Pu.move rfl rfl) ?_
    refine O.p rfl rfl rfl (Pu.isT (by decide) (Pu.lss rfl rfl rfl)) ?_
    refine O.nil ?_
    refine X.next ?_
    refine V.condT rfl ?_
    refine V.skip ?_
    refine X.next ?_
    refine V.seq ?_
    refine V.block ?_
    refine V.seq ?_
    refine V.region ?_
    refine O.p rfl rfl rfl (Pu.move rfl rfl) ?_
    refine O.p rfl rfl rfl (Pu.move rfl rfl) ?_
    refine O.p rfl rfl rfl (Pu.move rfl rfl) ?_
    refine O.p rfl rfl rfl (Pu.move rfl rfl) ?_
    refine O.p rfl rfl rfl (Pu.indexAddrS (k) rfl Try.underlying26 sz70 rfl rfl (by omega) (by omega) (fun w hw => Own.some hw (i := 0) (by exact rfl) (by (try simp only [List.length_set]); rw [markBAt_len hk]; omega))) ?_
    refine O.p rfl rfl rfl (Pu.indexArr' (2) rfl Try.underlying70 sz2 rfl rfl (by omega) (by omega) rfl (fun w hw => by have := Own.some hw (i := 0) (by exact rfl) (by (try simp only [List.length_set]); rw [markBAt_len hk]; omega); simpa using this)) ?_
    refine O.s rfl rfl (Ef.storeOwnAt 0 (k) (2) ((((((markBAt xs m k).set k (((m + 3 * (↑k : Int)), ((markBAt xs m k)[k]'(by (try simp only [List.length_set]); rw [markBAt_len hk]; omega)).2.1, ((markBAt xs m k)[k]'(by (try simp only [List.length_set]); rw [markBAt_len hk]; omega)).2.2) : B3)).set k (((((markBAt xs m k).set k (((m + 3 * (↑k : Int)), ((markBAt xs m k)[k]'(by (try simp only [List.length_set]); rw [markBAt_len hk]; omega)).2.1, ((markBAt xs m k)[k]'(by (try simp only [List.length_set]); rw [markBAt_len hk]; omega)).2.2) : B3))[k]'(by (try simp only [List.length_set]); rw [markBAt_len hk]; omega)).1, ((m + 3 * (↑k : Int)) + (1 : Int)), (((markBAt xs m k).set k (((m + 3 * (↑k : Int)), ((markBAt xs m k)[k]'(by (try simp only [List.length_set]); rw [markBAt_len hk]; omega)).2.1, ((markBAt xs m k)[k]'(by (try simp only [List.length_set]); rw [markBAt_len hk]; omega)).2.2) : B3))[k]'(by (try simp only [List.length_set]); rw [markBAt_len hk]; omega)).2.2) : B3))[k]'(by (try simp only [List.length_set]); rw [markBAt_len hk]; omega)).1, ((((markBAt xs m k).set k (((m + 3 * (↑k : Int)), ((markBAt xs m k)[k]'(by (try simp only [List.length_set]); rw [markBAt_len hk]; omega)).2.1, ((markBAt xs m k)[k]'(by (try simp only [List.length_set]); rw [markBAt_len hk]; omega)).2.2) : B3)).set k (((((markBAt xs m k).set k (((m + 3 * (↑k : Int)), ((markBAt xs m k)[k]'(by (try simp only [List.length_set]); rw [markBAt_len hk]; omega)).2.1, ((markBAt xs m k)[k]'(by (try simp only [List.length_set]); rw [markBAt_len hk]; omega)).2.2) : B3))[k]'(by (try simp only [List.length_set]); rw [markBAt_len hk]; omega)).1, ((m + 3 * (↑k : Int)) + (1 : Int)), (((markBAt xs m k).set k (((m + 3 * (↑k : Int)), ((markBAt xs m k)[k]'(by (try simp only [List.length_set]); rw [markBAt_len hk]; omega)).2.1, ((markBAt xs m k)[k]'(by (try simp only [List.length_set]); rw [markBAt_len hk]; omega)).2.2) : B3))[k]'(by (try simp only [List.length_set]); rw [markBAt_len hk]; omega)).2.2) : B3))[k]'(by (try simp only [List.length_set]); rw [markBAt_len hk]; omega)).2.1, (((m + 3 * (↑k : Int)) + (1 : Int)) + (1 : Int))) : B3) rfl sz2 rfl rfl rfl rfl (by (try simp only [List.length_set]); rw [markBAt_len hk]; omega) (by decide) rfl rfl (by rfl)) ?_
    rintro _ _ rfl
    refine O.nil ?_
    refine X.next ?_
    refine V.region ?_
    refine O.p rfl rfl rfl (Pu.move rfl rfl) ?_
    refine O.p rfl rfl rfl (Pu.add64 rfl (by omega) rfl rfl rfl) ?_
    refine O.p rfl rfl rfl (Pu.assign rfl rfl) ?_
    refine O.nil ?_
    refine X.blockNormal ?_
    refine X.next ?_
    refine V.region ?_
    refine O.p rfl rfl rfl (Pu.move rfl rfl) ?_
    refine O.p rfl rfl rfl (Pu.add64 (r := 3) (by decide) (by decide) rfl rfl rfl) ?_
    refine O.p rfl rfl rfl (Pu.assign rfl rfl) ?_
    refine O.nil ?_
    refine X.again 0 ?_
    refine V.seq ?_
    refine V.seq ?_
    refine V.region ?_
    refine O.p rfl rfl rfl (Pu.move rfl rfl) ?_
    refine O.p rfl rfl rfl (Pu.isF (by decide) (Pu.lss rfl rfl rfl)) ?_
    refine O.nil ?_
    refine X.next ?_
    refine V.condF rfl ?_
    refine V.exit ?_
    refine X.thenExit ?_
    refine X.thenExit ?_
    refine X.blockHit ?_
    refine X.blockNormal ?_
    refine X.next ?_
    refine V.region ?_
    refine O.p rfl rfl rfl (Pu.move rfl rfl) ?_
    refine O.p rfl rfl rfl (Pu.add64 (r := ((k + 1 : Nat) : Int)) rfl (by omega) rfl rfl rfl) ?_
    refine O.p rfl rfl rfl (Pu.assign rfl rfl) ?_
    refine O.nil ?_
    exact X.back3 (k + 1) (by omega) (by omega) (Ent.cons rfl (Ent.cons' rfl (iv (by omega)) (Ent.nil _))) (Ent.cons (t := 0) rfl (Ent.cons (t := 4) rfl (Ent.nil _))) (Sub.cons 0 rfl (fun w F h => by have e : ((((markBAt xs m k).set k (((m + 3 * (↑k : Int)), ((markBAt xs m k)[k]'(by (try simp only [List.length_set]); rw [markBAt_len hk]; omega)).2.1, ((markBAt xs m k)[k]'(by (try simp only [List.length_set]); rw [markBAt_len hk]; omega)).2.2) : B3)).set k (((((markBAt xs m k).set k (((m + 3 * (↑k : Int)), ((markBAt xs m k)[k]'(by (try simp only [List.length_set]); rw [markBAt_len hk]; omega)).2.1, ((markBAt xs m k)[k]'(by (try simp only [List.length_set]); rw [markBAt_len hk]; omega)).2.2) : B3))[k]'(by (try simp only [List.length_set]); rw [markBAt_len hk]; omega)).1, ((m + 3 * (↑k : Int)) + (1 : Int)), (((markBAt xs m k).set k (((m + 3 * (↑k : Int)), ((markBAt xs m k)[k]'(by (try simp only [List.length_set]); rw [markBAt_len hk]; omega)).2.1, ((markBAt xs m k)[k]'(by (try simp only [List.length_set]); rw [markBAt_len hk]; omega)).2.2) : B3))[k]'(by (try simp only [List.length_set]); rw [markBAt_len hk]; omega)).2.2) : B3)).set k ((((((markBAt xs m k).set k (((m + 3 * (↑k : Int)), ((markBAt xs m k)[k]'(by (try simp only [List.length_set]); rw [markBAt_len hk]; omega)).2.1, ((markBAt xs m k)[k]'(by (try simp only [List.length_set]); rw [markBAt_len hk]; omega)).2.2) : B3)).set k (((((markBAt xs m k).set k (((m + 3 * (↑k : Int)), ((markBAt xs m k)[k]'(by (try simp only [List.length_set]); rw [markBAt_len hk]; omega)).2.1, ((markBAt xs m k)[k]'(by (try simp only [List.length_set]); rw [markBAt_len hk]; omega)).2.2) : B3))[k]'(by (try simp only [List.length_set]); rw [markBAt_len hk]; omega)).1, ((m + 3 * (↑k : Int)) + (1 : Int)), (((markBAt xs m k).set k (((m + 3 * (↑k : Int)), ((markBAt xs m k)[k]'(by (try simp only [List.length_set]); rw [markBAt_len hk]; omega)).2.1, ((markBAt xs m k)[k]'(by (try simp only [List.length_set]); rw [markBAt_len hk]; omega)).2.2) : B3))[k]'(by (try simp only [List.length_set]); rw [markBAt_len hk]; omega)).2.2) : B3))[k]'(by (try simp only [List.length_set]); rw [markBAt_len hk]; omega)).1, ((((markBAt xs m k).set k (((m + 3 * (↑k : Int)), ((markBAt xs m k)[k]'(by (try simp only [List.length_set]); rw [markBAt_len hk]; omega)).2.1, ((markBAt xs m k)[k]'(by (try simp only [List.length_set]); rw [markBAt_len hk]; omega)).2.2) : B3)).set k (((((markBAt xs m k).set k (((m + 3 * (↑k : Int)), ((markBAt xs m k)[k]'(by (try simp only [List.length_set]); rw [markBAt_len hk]; omega)).2.1, ((markBAt xs m k)[k]'(by (try simp only [List.length_set]); rw [markBAt_len hk]; omega)).2.2) : B3))[k]'(by (try simp only [List.length_set]); rw [markBAt_len hk]; omega)).1, ((m + 3 * (↑k : Int)) + (1 : Int)), (((markBAt xs m k).set k (((m + 3 * (↑k : Int)), ((markBAt xs m k)[k]'(by (try simp only [List.length_set]); rw [markBAt_len hk]; omega)).2.1, ((markBAt xs m k)[k]'(by (try simp only [List.length_set]); rw [markBAt_len hk]; omega)).2.2) : B3))[k]'(by (try simp only [List.length_set]); rw [markBAt_len hk]; omega)).2.2) : B3))[k]'(by (try simp only [List.length_set]); rw [markBAt_len hk]; omega)).2.1, (((m + 3 * (↑k : Int)) + (1 : Int)) + (1 : Int))) : B3)) = markBAt xs m (k + 1) := (by rw [← markBAt_set (m := m) (k := k) (by omega)]; simp only [List.set_set, List.getElem_set_self]; congr 1; refine Prod.ext ?_ (Prod.ext ?_ ?_) <;> dsimp only <;> omega); exact e ▸ h) (Sub.refl _))
  · skip
    refine V.exit ?_
    refine X.thenExit ?_
    refine X.thenExit ?_
    refine X.blockHit ?_
    refine X.next ?_
    refine V.seq ?_
    refine V.region ?_
    refine O.p rfl rfl rfl (Pu.move rfl rfl) ?_
    refine O.p rfl rfl rfl (Pu.assign rfl rfl) ?_
    refine O.nil ?_
    refine X.next ?_
    refine V.ret ?_
    refine X.ret1 rfl rfl ?_
    exact fun w hw => St.addPur (iv (by omega)) (hw.sub (Sub.cons 0 rfl (fun w F h => by rw [markBAt_all (by omega)] at h; exact h) (Sub.refl _)))
set_option maxRecDepth 100000 in
theorem markSystemX_ok (p : Int) (xs : List B3) (m : Int) (A : Option Addr) (c : Nat) (w0 : World) (H : List Assn) (hm : 0 ≤ m ∧ m ≤ 1152921504606846976) (lx : xs.length ≤ 1099511627776) : Does Try.prog 13 [.agg #[.int .i64 p, .slice A xs.length c], .int .i64 m] w0 (Own 70 B3C A c xs :: H) (fun v => .pur (v = .int .i64 (m + 3 * xs.length)) :: Own 70 B3C A c (marksB m xs.length) :: H) := by
  refine Does.enter Try.func13 rfl rfl [(0, .agg #[.int .i64 p, .slice A xs.length c]), (1, .int .i64 m)] rfl ?_
  refine V.seq ?_
  refine V.region ?_
  refine O.e rfl rfl rfl (Ef.box rfl rfl rfl) ?_
  rintro _ _ ⟨b1, rfl, rfl⟩
  refine O.p rfl rfl rfl (Pu.assign rfl rfl) ?_
  refine O.nil ?_
  refine X.next ?_
  refine V.seq ?_
  refine V.region ?_
  refine O.p rfl rfl rfl (Pu.fieldAddr 1 rfl Try.underlying28 rfl sz26 rfl rfl) ?_
  refine O.p rfl rfl rfl (Pu.load rfl pl26 rfl (Ld.blk 0 rfl rfl)) ?_
  refine O.p rfl rfl rfl (Pu.move rfl rfl) ?_
  refine O.e rfl rfl rfl (Ef.callM 1 call41 rfl rfl rfl (fun H _ => markBlockX_ok _ _ _ _ _ H (by omega) (by omega))) ?_
  rintro _ _ ⟨rfl, rfl⟩
  refine O.p rfl rfl rfl (Pu.assign rfl rfl) ?_
  refine O.nil ?_
  refine X.next ?_
  refine V.seq ?_
  refine V.region ?_
  refine O.p rfl rfl rfl (Pu.move rfl rfl) ?_
  refine O.p rfl rfl rfl (Pu.assign rfl rfl) ?_
  refine O.nil ?_
  refine X.next ?_
  refine V.ret ?_
  refine X.ret1 rfl rfl ?_
  exact fun w hw => St.addPur rfl (hw.sub (Sub.keep 1 rfl (Sub.drop (Sub.refl _))))
set_option maxRecDepth 100000 in
theorem heldBlockX_ok (n : Nat) (m : Int) (A : Option Addr) (c : Nat) (w : World) (hx : Rd B3C w A (marksB m n)) (hm : 0 ≤ m ∧ m ≤ 1152921504606846976) (lx : n ≤ 1099511627776) : Does Try.prog 42 [.slice A n c, .int .i64 m] w [] (fun v => [.pur (v = .int .i64 (m + 3 * n))]) := by
  refine Does.enter Try.func42 rfl rfl [(0, .slice A n c), (1, .int .i64 m)] rfl ?_
  refine V.seq ?_
  have hml := marksB_len m n
  refine V.region ?_
  refine O.p rfl rfl rfl (Pu.assign rfl rfl) ?_
  refine O.nil ?_
  refine X.next ?_
  refine V.seq ?_
  refine V.seq ?_
  refine V.region ?_
  refine O.p rfl rfl rfl (Pu.assign rfl rfl) ?_
  refine O.nil ?_
  refine X.next ?_
  refine V.block ?_
  refine V.loop2 (β := Nat) (fun k => [(5, .int .i64 (k : Int)), (1, .int .i64 (m + 3 * (k : Int)))]) _ (fun k => []) (fun k => k ≤ n) (fun k => n - k) 0 (by omega) (Ent.cons rfl (Ent.cons' rfl (iv (by omega)) (Ent.nil _))) (Ent.cons (t := 0) rfl (Ent.nil _)) (Sub.nil _) ?_
  rintro k hk
  refine V.seq ?_
  refine V.seq ?_
  refine V.region ?_
  refine O.p rfl rfl rfl (Pu.move rfl rfl) ?_
  refine O.p rfl rfl rfl (Pu.move rfl rfl) ?_
  refine O.p rfl rfl rfl (Pu.len rfl Try.underlying26 rfl) ?_
  refine O.p rfl rfl rfl (Pu.lss rfl rfl rfl) ?_
  refine O.nil ?_
  refine X.next ?_
  refine V.condD rfl (fun c1 => ?_) (fun c1 => ?_)
  · skip
    refine V.skip ?_
    refine X.next ?_
    refine V.seq ?_
    refine V.block ?_
    refine V.seq ?_
    refine V.region ?_
    refine O.p rfl rfl rfl (Pu.assign rfl rfl) ?_
    refine O.nil ?_
    refine X.next ?_
    refine V.block ?_
    refine V.unroll 3 ?_
    refine V.seq ?_
    refine V.seq ?_
    refine V.region ?_
    refine O.p rfl rfl rfl (Pu.move rfl rfl) ?_
    refine O.p rfl rfl rfl (Pu.isT (by decide) (Pu.lss rfl rfl rfl)) ?_
    refine O.nil ?_
    refine X.next ?_
    refine V.condT rfl ?_
    refine V.skip ?_
    refine X.next ?_
    refine V.seq ?_
    refine V.block ?_
    refine V.seq ?_
    refine V.seq ?_
    refine V.region ?_
    refine O.p rfl rfl rfl (Pu.move rfl rfl) ?_
    refine O.p rfl rfl rfl (Pu.move rfl rfl) ?_
    refine O.p rfl rfl rfl (Pu.move rfl rfl) ?_
    refine O.p rfl rfl rfl (Pu.indexAddrS (k) rfl Try.underlying26 sz70 rfl rfl (by omega) (by omega) (fun w hw => ((Ld.old hx) w hw).some (by omega))) ?_
    refine O.p rfl rfl rfl (Pu.indexArr' (0) rfl Try.underlying70 sz2 rfl rfl (by omega) (by omega) rfl (fun w hw => by have := Rd.some ((Ld.old hx) w hw) (by omega); simpa using this)) ?_
    have e1 : k < (marksB m n).length := by omega
    refine O.p rfl rfl rfl (Pu.load rfl pl2 rfl (Ld.part (k := k) (j := 0) (Ld.old hx) e1 rfl rfl)) ?_
    refine O.p rfl rfl rfl (Pu.move rfl rfl) ?_
    refine O.p rfl rfl rfl (Pu.neq rfl rfl rfl) ?_
    refine O.nil ?_
    refine X.next ?_
    refine V.condNot rfl (fun c2 => ?_) (fun c2 => ?_)
    · skip
      exact absurd (by have h1 := marksB_get m n (k := k) (by rw [marksB_len]; omega); have h2 := congrArg (fun q : B3 => q.1) h1; have h3 := congrArg (fun q : B3 => q.2.1) h1; have h4 := congrArg (fun q : B3 => q.2.2) h1; dsimp only at h2 h3 h4; omega) c2
    · skip
      refine V.skip ?_
      refine X.next ?_
      refine V.region ?_
      refine O.p rfl rfl rfl (Pu.move rfl rfl) ?_
      refine O.p rfl rfl rfl (Pu.add64 rfl (by omega) rfl rfl rfl) ?_
      refine O.p rfl rfl rfl (Pu.assign rfl rfl) ?_
      refine O.nil ?_
      refine X.blockNormal ?_
      refine X.next ?_
      refine V.region ?_
      refine O.p rfl rfl rfl (Pu.move rfl rfl) ?_
      refine O.p rfl rfl rfl (Pu.add64 (r := 1) (by decide) (by decide) rfl rfl rfl) ?_
      refine O.p rfl rfl rfl (Pu.assign rfl rfl) ?_
      refine O.nil ?_
      refine X.again 2 ?_
      refine V.seq ?_
      refine V.seq ?_
      refine V.region ?_
      refine O.p rfl rfl rfl (Pu.move rfl rfl) ?_
      refine O.p rfl rfl rfl (Pu.isT (by decide) (Pu.lss rfl rfl rfl)) ?_
      refine O.nil ?_
      refine X.next ?_
      refine V.condT rfl ?_
      refine V.skip ?_
      refine X.next ?_
      refine V.seq ?_
      refine V.block ?_
      refine V.seq ?_
      refine V.seq ?_
      refine V.region ?_
      refine O.p rfl rfl rfl (Pu.move rfl rfl) ?_
      refine O.p rfl rfl rfl (Pu.move rfl rfl) ?_
      refine O.p rfl rfl rfl (Pu.move rfl rfl) ?_
      refine O.p rfl rfl rfl (Pu.indexAddrS (k) rfl Try.underlying26 sz70 rfl rfl (by omega) (by omega) (fun w hw => ((Ld.old hx) w hw).some (by omega))) ?_
      refine O.p rfl rfl rfl (Pu.indexArr' (1) rfl Try.underlying70 sz2 rfl rfl (by omega) (by omega) rfl (fun w hw => by have := Rd.some ((Ld.old hx) w hw) (by omega); simpa using this)) ?_
      refine O.p rfl rfl rfl (Pu.load rfl pl2 rfl (Ld.part (k := k) (j := 1) (Ld.old hx) e1 rfl rfl)) ?_
      refine O.p rfl rfl rfl (Pu.move rfl rfl) ?_
      refine O.p rfl rfl rfl (Pu.neq rfl rfl rfl) ?_
      refine O.nil ?_
      refine X.next ?_
      refine V.condNot rfl (fun c3 => ?_) (fun c3 => ?_)
      · skip
        exact absurd (by have h1 := marksB_get m n (k := k) (by rw [marksB_len]; omega); have h2 := congrArg (fun q : B3 => q.1) h1; have h3 := congrArg (fun q : B3 => q.2.1) h1; have h4 := congrArg (fun q : B3 => q.2.2) h1; dsimp only at h2 h3 h4; omega) c3
      · skip
        refine V.skip ?_
        refine X.next ?_
        refine V.region ?_
        refine O.p rfl rfl rfl (Pu.move rfl rfl) ?_
        refine O.p rfl rfl rfl (Pu.add64 rfl (by omega) rfl rfl rfl) ?_
        refine O.p rfl rfl rfl (Pu.assign rfl rfl) ?_
        refine O.nil ?_
        refine X.blockNormal ?_
        refine X.next ?_
        refine V.region ?_
        refine O.p rfl rfl rfl (Pu.move rfl rfl) ?_
        refine O.p rfl rfl rfl (Pu.add64 (r := 2) (by decide) (by decide) rfl rfl rfl) ?_
        refine O.p rfl rfl rfl (Pu.assign rfl rfl) ?_
        refine O.nil ?_
        refine X.again 1 ?_
        refine V.seq ?_
        refine V.seq ?_
        refine V.region ?_
        refine O.p rfl rfl rfl (Pu.move rfl rfl) ?_
        refine O.p rfl rfl rfl (Pu.isT (by decide) (Pu.lss rfl rfl rfl)) ?_
        refine O.nil ?_
        refine X.next ?_
        refine V.condT rfl ?_
        refine V.skip ?_
        refine X.next ?_
        refine V.seq ?_
        refine V.block ?_
        refine V.seq ?_
        refine V.seq ?_
        refine V.region ?_
        refine O.p rfl rfl rfl (Pu.move rfl rfl) ?_
        refine O.p rfl rfl rfl (Pu.move rfl rfl) ?_
        refine O.p rfl rfl rfl (Pu.move rfl rfl) ?_
        refine O.p rfl rfl rfl (Pu.indexAddrS (k) rfl Try.underlying26 sz70 rfl rfl (by omega) (by omega) (fun w hw => ((Ld.old hx) w hw).some (by omega))) ?_
        refine O.p rfl rfl rfl (Pu.indexArr' (2) rfl Try.underlying70 sz2 rfl rfl (by omega) (by omega) rfl (fun w hw => by have := Rd.some ((Ld.old hx) w hw) (by omega); simpa using this)) ?_
        refine O.p rfl rfl rfl (Pu.load rfl pl2 rfl (Ld.part (k := k) (j := 2) (Ld.old hx) e1 rfl rfl)) ?_
        refine O.p rfl rfl rfl (Pu.move rfl rfl) ?_
        refine O.p rfl rfl rfl (Pu.neq rfl rfl rfl) ?_
        refine O.nil ?_
        refine X.next ?_
        refine V.condNot rfl (fun c4 => ?_) (fun c4 => ?_)
        · skip
          exact absurd (by have h1 := marksB_get m n (k := k) (by rw [marksB_len]; omega); have h2 := congrArg (fun q : B3 => q.1) h1; have h3 := congrArg (fun q : B3 => q.2.1) h1; have h4 := congrArg (fun q : B3 => q.2.2) h1; dsimp only at h2 h3 h4; omega) c4
        · skip
          refine V.skip ?_
          refine X.next ?_
          refine V.region ?_
          refine O.p rfl rfl rfl (Pu.move rfl rfl) ?_
          refine O.p rfl rfl rfl (Pu.add64 rfl (by omega) rfl rfl rfl) ?_
          refine O.p rfl rfl rfl (Pu.assign rfl rfl) ?_
          refine O.nil ?_
          refine X.blockNormal ?_
          refine X.next ?_
          refine V.region ?_
          refine O.p rfl rfl rfl (Pu.move rfl rfl) ?_
          refine O.p rfl rfl rfl (Pu.add64 (r := 3) (by decide) (by decide) rfl rfl rfl) ?_
          refine O.p rfl rfl rfl (Pu.assign rfl rfl) ?_
          refine O.nil ?_
          refine X.again 0 ?_
          refine V.seq ?_
          refine V.seq ?_
          refine V.region ?_
          refine O.p rfl rfl rfl (Pu.move rfl rfl) ?_
          refine O.p rfl rfl rfl (Pu.isF (by decide) (Pu.lss rfl rfl rfl)) ?_
          refine O.nil ?_
          refine X.next ?_
          refine V.condF rfl ?_
          refine V.exit ?_
          refine X.thenExit ?_
          refine X.thenExit ?_
          refine X.blockHit ?_
          refine X.blockNormal ?_
          refine X.next ?_
          refine V.region ?_
          refine O.p rfl rfl rfl (Pu.move rfl rfl) ?_
          refine O.p rfl rfl rfl (Pu.add64 (r := ((k + 1 : Nat) : Int)) rfl (by omega) rfl rfl rfl) ?_
          refine O.p rfl rfl rfl (Pu.assign rfl rfl) ?_
          refine O.nil ?_
          exact X.back2 (k + 1) (by omega) (by omega) (Ent.cons rfl (Ent.cons' rfl (iv (by omega)) (Ent.nil _))) (Ent.cons (t := 0) rfl (Ent.nil _)) (Sub.nil _)
  · skip
    refine V.exit ?_
    refine X.thenExit ?_
    refine X.thenExit ?_
    refine X.blockHit ?_
    refine X.next ?_
    refine V.seq ?_
    refine V.region ?_
    refine O.p rfl rfl rfl (Pu.move rfl rfl) ?_
    refine O.p rfl rfl rfl (Pu.assign rfl rfl) ?_
    refine O.nil ?_
    refine X.next ?_
    refine V.ret ?_
    refine X.ret1 rfl rfl ?_
    exact fun w hw => St.retP (iv (by omega)) hw
set_option maxRecDepth 100000 in
theorem heldSystemX_ok (p : Int) (n : Nat) (m : Int) (A : Option Addr) (c : Nat) (w : World) (hx : Rd B3C w A (marksB m n)) (hm : 0 ≤ m ∧ m ≤ 1152921504606846976) (lx : n ≤ 1099511627776) : Does Try.prog 14 [.agg #[.int .i64 p, .slice A n c], .int .i64 m] w [] (fun v => [.pur (v = .int .i64 (m + 3 * n))]) := by
  refine Does.enter Try.func14 rfl rfl [(0, .agg #[.int .i64 p, .slice A n c]), (1, .int .i64 m)] rfl ?_
  refine V.seq ?_
  refine V.region ?_
  refine O.e rfl rfl rfl (Ef.box rfl rfl rfl) ?_
  rintro _ _ ⟨b1, rfl, rfl⟩
  refine O.p rfl rfl rfl (Pu.assign rfl rfl) ?_
  refine O.nil ?_
  refine X.next ?_
  refine V.seq ?_
  refine V.region ?_
  refine O.p rfl rfl rfl (Pu.fieldAddr 1 rfl Try.underlying28 rfl sz26 rfl rfl) ?_
  refine O.p rfl rfl rfl (Pu.load rfl pl26 rfl (Ld.blk 0 rfl rfl)) ?_
  refine O.p rfl rfl rfl (Pu.move rfl rfl) ?_
  refine O.e rfl rfl rfl (Ef.callP call42 rfl rfl (fun w hw => heldBlockX_ok n _ _ _ w ((Ld.old hx) w hw) (by omega) (by omega))) ?_
  rintro _ _ ⟨rfl, rfl⟩
  refine O.p rfl rfl rfl (Pu.assign rfl rfl) ?_
  refine O.nil ?_
  refine X.next ?_
  refine V.seq ?_
  refine V.seq ?_
  refine V.region ?_
  refine O.p rfl rfl rfl (Pu.move rfl rfl) ?_
  refine O.p rfl rfl rfl (Pu.lss rfl rfl rfl) ?_
  refine O.nil ?_
  refine X.next ?_
  refine V.condD rfl (fun c1 => ?_) (fun c1 => ?_)
  · skip
    exact absurd c1 (by omega)
  · skip
    refine V.skip ?_
    refine X.next ?_
    refine V.seq ?_
    refine V.region ?_
    refine O.p rfl rfl rfl (Pu.move rfl rfl) ?_
    refine O.p rfl rfl rfl (Pu.assign rfl rfl) ?_
    refine O.nil ?_
    refine X.next ?_
    refine V.ret ?_
    refine X.ret1 rfl rfl ?_
    exact fun w hw => St.retP (iv (by omega)) hw
def layI_ren : Go.Shelf.Ren := ⟨fun | 5 => 96 | 8 => 107 | 7 => 106 | 19 => 122 | 20 => 123 | 10 => 113 | 11 => 114 | 12 => 115 | 13 => 116 | 14 => 117 | 15 => 118 | 16 => 119 | 17 => 120 | 18 => 121 | 30 => 134 | 31 => 135 | 32 => 136 | 33 => 137 | 34 => 138 | 35 => 133 | 40 => 142 | n => n, fun | 23 => 77 | 25 => 2 | 3 => 3 | 32 => 122 | 22 => 77 | 0 => 0 | 44 => 140 | 46 => 142 | 4 => 4 | 36 => 132 | 35 => 131 | 41 => 137 | 5 => 5 | 9 => 9 | 53 => 149 | 57 => 153 | 63 => 157 | 64 => 158 | n => n, fun | n => n⟩
theorem layI : SlLaysM.n5 Try.prog layI_ren where
  mixed := by kernel_rfl
  f5 := ⟨Try.f96.name, by decide, Try.func96.trans (congrArg some (by kernel_rfl))⟩
  f7 := ⟨Try.f106.name, by decide, Try.func106.trans (congrArg some (by kernel_rfl))⟩
  f8 := Try.func107.trans (congrArg some (by kernel_rfl))
  f10 := ⟨Try.f113.name, by decide, Try.func113.trans (congrArg some (by kernel_rfl))⟩
  f11 := ⟨Try.f114.name, by decide, Try.func114.trans (congrArg some (by kernel_rfl))⟩
  f12 := ⟨Try.f115.name, by decide, Try.func115.trans (congrArg some (by kernel_rfl))⟩
  f13 := ⟨Try.f116.name, by decide, Try.func116.trans (congrArg some (by kernel_rfl))⟩
  f14 := ⟨Try.f117.name, by decide, Try.func117.trans (congrArg some (by kernel_rfl))⟩
  f15 := ⟨Try.f118.name, by decide, Try.func118.trans (congrArg some (by kernel_rfl))⟩
  f16 := ⟨Try.f119.name, by decide, Try.func119.trans (congrArg some (by kernel_rfl))⟩
  f17 := ⟨Try.f120.name, by decide, Try.func120.trans (congrArg some (by kernel_rfl))⟩
  f18 := ⟨Try.f121.name, by decide, Try.func121.trans (congrArg some (by kernel_rfl))⟩
  f19 := Try.func122.trans (congrArg some (by kernel_rfl))
  f20 := Try.func123.trans (congrArg some (by kernel_rfl))
  f30 := ⟨Try.f134.name, by decide, Try.func134.trans (congrArg some (by kernel_rfl))⟩
  f31 := Try.func135.trans (congrArg some (by kernel_rfl))
  f32 := Try.func136.trans (congrArg some (by kernel_rfl))
  f33 := ⟨Try.f137.name, by decide, Try.func137.trans (congrArg some (by kernel_rfl))⟩
  f34 := ⟨Try.f138.name, by decide, Try.func138.trans (congrArg some (by kernel_rfl))⟩
  f35 := ⟨Try.f133.name, by decide, Try.func133.trans (congrArg some (by kernel_rfl))⟩
  f40 := ⟨Try.f142.name, by decide, Try.func142.trans (congrArg some (by kernel_rfl))⟩
  t0 := Try.underlying0
  a0 := Try.isAgg0
  z0 := Try.sizeOf0
  v0 := Try.zeroValue0
  t3 := Try.underlying3
  a3 := Try.isAgg3
  z3 := Try.sizeOf3
  v3 := Try.zeroValue3
  t4 := Try.underlying4
  a4 := Try.isAgg4
  z4 := Try.sizeOf4
  v4 := Try.zeroValue4
  t5 := Try.underlying5
  a5 := Try.isAgg5
  z5 := Try.sizeOf5
  v5 := Try.zeroValue5
  t9 := Try.underlying9
  a9 := Try.isAgg9
  z9 := Try.sizeOf9
  v9 := Try.zeroValue9
  t22 := Try.underlying77
  a22 := Try.isAgg77
  z22 := Try.sizeOf77
  v22 := Try.zeroValue77
  t23 := Try.underlying77
  a23 := Try.isAgg77
  z23 := Try.sizeOf77
  v23 := Try.zeroValue77
  t25 := Try.underlying2
  a25 := Try.isAgg2
  z25 := Try.sizeOf2
  v25 := Try.zeroValue2
  t32 := Try.underlying122
  a32 := Try.isAgg122
  z32 := Try.sizeOf122
  v32 := Try.zeroValue122
  t35 := Try.underlying131
  a35 := Try.isAgg131
  z35 := Try.sizeOf131
  v35 := Try.zeroValue131
  t36 := Try.underlying132
  a36 := Try.isAgg132
  z36 := Try.sizeOf132
  v36 := Try.zeroValue132
  t41 := Try.underlying137
  a41 := Try.isAgg137
  z41 := Try.sizeOf137
  v41 := Try.zeroValue137
  t44 := Try.underlying140
  a44 := Try.isAgg140
  z44 := Try.sizeOf140
  v44 := Try.zeroValue140
  t46 := Try.underlying142
  a46 := Try.isAgg142
  z46 := Try.sizeOf142
  v46 := Try.zeroValue142
  t53 := Try.underlying149
  a53 := Try.isAgg149
  z53 := Try.sizeOf149
  v53 := Try.zeroValue149
  t57 := Try.underlying153
  a57 := Try.isAgg153
  z57 := Try.sizeOf153
  v57 := Try.zeroValue153
  t63 := Try.underlying157
  a63 := Try.isAgg157
  z63 := Try.sizeOf157
  v63 := Try.zeroValue157
  t64 := Try.underlying158
  a64 := Try.isAgg158
  z64 := Try.sizeOf158
  v64 := Try.zeroValue158
theorem sort3_ok (x y z : Int) (g c T : Nat) (w0 : World) (H : List Assn) : Does Try.prog 96 [.slice (some ⟨g, 0, none⟩) 3 c] w0 (Blk g [.int .i64 x, .int .i64 y, .int .i64 z] T :: H) (fun v => [.sep (.pur (v = .tuple #[])) (Blk g [.int .i64 (lo3 x y z), .int .i64 (mi3 x y z), .int .i64 (hi3 x y z)] T)] ++ H) :=
  sort3_blk layI x y z
def layB_ren : Go.Shelf.Ren := ⟨fun | 6 => 98 | 15 => 107 | 14 => 108 | 28 => 122 | 29 => 123 | 20 => 124 | 21 => 125 | 22 => 126 | 23 => 127 | 24 => 128 | 25 => 129 | 26 => 130 | 27 => 131 | 46 => 139 | 47 => 135 | 48 => 136 | 49 => 140 | 50 => 141 | 57 => 143 | n => n, fun | 22 => 26 | 24 => 70 | 25 => 114 | 3 => 3 | 39 => 122 | 0 => 0 | 53 => 140 | 55 => 142 | 4 => 4 | 46 => 132 | 45 => 131 | 50 => 137 | 5 => 5 | 9 => 9 | 66 => 149 | 70 => 153 | 76 => 157 | 77 => 158 | n => n, fun | n => n⟩
theorem layB : SlLaysF0.n6 Try.prog layB_ren where
  mixed := by kernel_rfl
  f6 := ⟨Try.f98.name, by decide, Try.func98.trans (congrArg some (by kernel_rfl))⟩
  f14 := ⟨Try.f108.name, by decide, Try.func108.trans (congrArg some (by kernel_rfl))⟩
  f15 := Try.func107.trans (congrArg some (by kernel_rfl))
  f20 := ⟨Try.f124.name, by decide, Try.func124.trans (congrArg some (by kernel_rfl))⟩
  f21 := ⟨Try.f125.name, by decide, Try.func125.trans (congrArg some (by kernel_rfl))⟩
  f22 := ⟨Try.f126.name, by decide, Try.func126.trans (congrArg some (by kernel_rfl))⟩
  f23 := ⟨Try.f127.name, by decide, Try.func127.trans (congrArg some (by kernel_rfl))⟩
  f24 := ⟨Try.f128.name, by decide, Try.func128.trans (congrArg some (by kernel_rfl))⟩
  f25 := ⟨Try.f129.name, by decide, Try.func129.trans (congrArg some (by kernel_rfl))⟩
  f26 := ⟨Try.f130.name, by decide, Try.func130.trans (congrArg some (by kernel_rfl))⟩
  f27 := ⟨Try.f131.name, by decide, Try.func131.trans (congrArg some (by kernel_rfl))⟩
  f28 := Try.func122.trans (congrArg some (by kernel_rfl))
  f29 := Try.func123.trans (congrArg some (by kernel_rfl))
  f46 := ⟨Try.f139.name, by decide, Try.func139.trans (congrArg some (by kernel_rfl))⟩
  f47 := Try.func135.trans (congrArg some (by kernel_rfl))
  f48 := Try.func136.trans (congrArg some (by kernel_rfl))
  f49 := ⟨Try.f140.name, by decide, Try.func140.trans (congrArg some (by kernel_rfl))⟩
  f50 := ⟨Try.f141.name, by decide, Try.func141.trans (congrArg some (by kernel_rfl))⟩
  f57 := ⟨Try.f143.name, by decide, Try.func143.trans (congrArg some (by kernel_rfl))⟩
  t0 := Try.underlying0
  a0 := Try.isAgg0
  z0 := Try.sizeOf0
  v0 := Try.zeroValue0
  t3 := Try.underlying3
  a3 := Try.isAgg3
  z3 := Try.sizeOf3
  v3 := Try.zeroValue3
  t4 := Try.underlying4
  a4 := Try.isAgg4
  z4 := Try.sizeOf4
  v4 := Try.zeroValue4
  t5 := Try.underlying5
  a5 := Try.isAgg5
  z5 := Try.sizeOf5
  v5 := Try.zeroValue5
  t9 := Try.underlying9
  a9 := Try.isAgg9
  z9 := Try.sizeOf9
  v9 := Try.zeroValue9
  t22 := Try.underlying26
  a22 := Try.isAgg26
  z22 := Try.sizeOf26
  v22 := Try.zeroValue26
  t25 := Try.underlying114
  a25 := Try.isAgg114
  z25 := Try.sizeOf114
  v25 := Try.zeroValue114
  t39 := Try.underlying122
  a39 := Try.isAgg122
  z39 := Try.sizeOf122
  v39 := Try.zeroValue122
  t45 := Try.underlying131
  a45 := Try.isAgg131
  z45 := Try.sizeOf131
  v45 := Try.zeroValue131
  t46 := Try.underlying132
  a46 := Try.isAgg132
  z46 := Try.sizeOf132
  v46 := Try.zeroValue132
  t50 := Try.underlying137
  a50 := Try.isAgg137
  z50 := Try.sizeOf137
  v50 := Try.zeroValue137
  t53 := Try.underlying140
  a53 := Try.isAgg140
  z53 := Try.sizeOf140
  v53 := Try.zeroValue140
  t55 := Try.underlying142
  a55 := Try.isAgg142
  z55 := Try.sizeOf142
  v55 := Try.zeroValue142
  t66 := Try.underlying149
  a66 := Try.isAgg149
  z66 := Try.sizeOf149
  v66 := Try.zeroValue149
  t70 := Try.underlying153
  a70 := Try.isAgg153
  z70 := Try.sizeOf153
  v70 := Try.zeroValue153
  t76 := Try.underlying157
  a76 := Try.isAgg157
  z76 := Try.sizeOf157
  v76 := Try.zeroValue157
  t77 := Try.underlying158
  a77 := Try.isAgg158
  z77 := Try.sizeOf158
  v77 := Try.zeroValue158
theorem sortB_ok (xs : List B3) (xsA : Option Addr) (xsc : Nat) (w0 : World) (H : List Assn) (lxs : xs.length ≤ 1099511627776) : Does Try.prog 98 [.slice xsA xs.length xsc, .func (.func 89) #[] #[]] w0 (Own 70 B3C xsA xsc xs :: H) (fun v => [.exi fun ys : List B3 => .sep (.pur (v = .tuple #[] ∧ ys.Perm xs ∧ SrtB ys)) (Own 70 B3C xsA xsc ys)] ++ H) :=
  (sortK_does (C := B3C) layB Try.isAgg70 Try.sizeOf70 (fun x y => cmpL (bl x) (bl y)) swoB call89 (fun zs W _ x y => compare_ok x y W) (by omega)).mono (fun v w hs => by
    obtain ⟨ys, hs⟩ := St.exi hs
    obtain ⟨⟨h1, h2, h3⟩, h4⟩ := hs.sep.pur
    exact St.mkExi ys (St.unsep (St.addPur ⟨h1, h2, srt_of h3⟩ h4)))
set_option maxRecDepth 100000 in
set_option maxHeartbeats 1000000 in
theorem blockOf_ok (a : Int) (b : Int) (c_ : Int) (w : World) : Does Try.prog 82 [.int .i64 a, .int .i64 b, .int .i64 c_] w [] (fun r => [.pur (r = B3.v (bk3 a b c_))]) := by
  refine Does.enter Try.func82 rfl rfl [(0, .int .i64 a), (1, .int .i64 b), (2, .int .i64 c_)] rfl ?_
  refine V.seq ?_
  refine V.region ?_
  refine O.e rfl rfl rfl (Ef.alloc rfl zr70 rfl) ?_
  rintro _ _ ⟨b1, rfl, rfl⟩
  refine O.nil ?_
  refine X.next ?_
  refine V.seq ?_
  refine V.region ?_
  refine O.p rfl rfl rfl (Pu.move rfl rfl) ?_
  refine O.p rfl rfl rfl (Pu.move rfl rfl) ?_
  refine O.p rfl rfl rfl (Pu.move rfl rfl) ?_
  refine O.p rfl rfl rfl (Pu.buildA (cs := [.int .i64 a, .int .i64 b, .int .i64 c_]) (v := B3.v (a, b, c_)) rfl rfl Try.underlying70 zr70 sz2 rfl (by kernel_rfl)) ?_
  refine O.e rfl rfl rfl (Ef.alloc rfl zr70 rfl) ?_
  rintro _ _ ⟨b2, rfl, rfl⟩
  refine O.s rfl rfl (Ef.storeAll 0 rfl sz70 rfl rfl rfl rfl (by simp [Value.oneCell']) rfl) ?_
  rintro _ _ rfl
  refine O.nil ?_
  refine X.next ?_
  refine V.seq ?_
  refine V.region ?_
  refine O.p rfl rfl rfl (Pu.slicePtr rfl Try.underlying70 sz2 rfl) ?_
  refine O.e rfl rfl rfl (Ef.call call96 rfl rfl (Does.pre (fun w hw => hw.sub (Sub.keep 0 rfl (Sub.keep 0 rfl (Sub.nil _)))) (sort3_ok a b c_ _ _ _ w _))) ?_
  rintro _ _ rfl
  refine O.sep ?_
  refine O.pur ?_
  rintro rfl
  refine O.nil ?_
  refine X.next ?_
  refine V.seq ?_
  refine V.region ?_
  refine O.p rfl rfl rfl (Pu.loadAgg' (v := B3.v (bk3 a b c_)) rfl rfl ag70 sz70 rfl rfl (Ld.whole 0 rfl)) ?_
  refine O.s rfl rfl (Ef.storeAll 1 rfl sz70 rfl rfl rfl rfl (by simp [Value.oneCell']) rfl) ?_
  rintro _ _ rfl
  refine O.nil ?_
  refine X.next ?_
  refine V.ret ?_
  refine X.retCell rfl ag70 sz70 rfl rfl (Ld.whole 1 rfl) ?_
  exact fun w hw => St.retP (rfl) hw
set_option maxRecDepth 100000 in
set_option maxHeartbeats 1000000 in
theorem sorted_ok (blocks : List B3) (blocksA : Option Addr) (blocksc : Nat) (w : World) (hblocks : Rd B3C w blocksA blocks) (lblocks : blocks.length ≤ 1099511627776) (lb : blocks.length ≤ 1000000) : Does Try.prog 83 [.slice blocksA blocks.length blocksc] w [] (fun rv_ => [.exi fun (rA : Option Addr) => .exi fun (rc : Nat) => .exi fun (r : List B3) => .sep (.pur (rv_ = .slice rA r.length rc ∧ r.Perm blocks ∧ SrtB r)) (Own 70 B3C rA rc r)]) := by
  refine Does.enter Try.func83 rfl rfl [(0, .slice blocksA blocks.length blocksc)] rfl ?_
  refine V.seq ?_
  refine V.region ?_
  refine O.p rfl rfl rfl (Pu.assign rfl rfl) ?_
  refine O.nil ?_
  refine X.next ?_
  refine V.seq ?_
  refine V.region ?_
  refine O.p rfl rfl rfl (Pu.move rfl rfl) ?_
  refine O.e rfl rfl rfl (Ef.call1 call97 rfl rfl (fun w hw => cloneB_ok blocks _ _ w ((Ld.old hblocks) w hw) (by first | omega | (simp only [tops_len] at *; omega)))) ?_
  rintro _ _ rfl
  refine O.exi (fun p1 => ?_)
  refine O.sep ?_
  refine O.pur ?_
  rintro ⟨rfl, hp1⟩
  refine O.p rfl rfl rfl (Pu.assign rfl rfl) ?_
  refine O.nil ?_
  refine X.next ?_
  refine V.seq ?_
  refine V.region ?_
  refine O.p rfl rfl rfl (Pu.move rfl rfl) ?_
  refine O.e rfl rfl rfl (Ef.call call98 rfl rfl (Does.pre (fun w hw => hw.sub (Sub.keep 0 rfl (Sub.nil _))) (sortB_ok  (p1.2) _ _ w _   (by rw [hp1]; omega)))) ?_
  rintro _ _ rfl
  refine O.exi (fun ys1 => ?_)
  refine O.sep ?_
  refine O.pur ?_
  rintro ⟨rfl, hys1_1, hys1_2⟩
  refine O.nil ?_
  refine X.next ?_
  refine V.seq ?_
  refine V.region ?_
  refine O.p rfl rfl rfl (Pu.move rfl rfl) ?_
  refine O.p rfl rfl rfl (Pu.assign rfl rfl) ?_
  refine O.nil ?_
  refine X.next ?_
  refine V.ret ?_
  refine X.ret1 rfl rfl ?_
  exact fun w hw => St.mkExi (p1.1.1) (St.mkExi (p1.1.2) (St.mkExi ys1 (St.unsep (St.addPur ⟨(by rw [hys1_1.length_eq]), hys1_1.trans (by rw [hp1]), hys1_2⟩ (hw.sub (Sub.keep 0 rfl (Sub.nil _)))))))
set_option maxRecDepth 100000 in
set_option maxHeartbeats 1000000 in
theorem system_ok (v_ : Int) (blocks : List B3) (blocksA : Option Addr) (blocksc : Nat) (w : World) (hblocks : Rd B3C w blocksA blocks) (lblocks : blocks.length ≤ 1099511627776) (lb : blocks.length ≤ 1000000) : Does Try.prog 90 [.int .i64 v_, .slice blocksA blocks.length blocksc] w [] (fun rv_ => [.exi fun (rA : Option Addr) => .exi fun (rc : Nat) => .exi fun (r : List B3) => .sep (.pur (rv_ = .agg #[.int .i64 v_, .slice rA r.length rc] ∧ r.Perm blocks ∧ SrtB r)) (Own 70 B3C rA rc r)]) := by
  refine Does.enter Try.func90 rfl rfl [(0, .int .i64 v_), (1, .slice blocksA blocks.length blocksc)] rfl ?_
  refine V.seq ?_
  refine V.region ?_
  refine O.e rfl rfl rfl (Ef.alloc rfl zr28 rfl) ?_
  rintro _ _ ⟨b1, rfl, rfl⟩
  refine O.nil ?_
  refine X.next ?_
  refine V.seq ?_
  refine V.region ?_
  refine O.p rfl rfl rfl (Pu.move rfl rfl) ?_
  refine O.p rfl rfl rfl (Pu.move rfl rfl) ?_
  refine O.e rfl rfl rfl (Ef.call1 call83 rfl rfl (fun w hw => sorted_ok  blocks _ _ w ((Ld.old hblocks) w hw) (by first | omega | (simp only [tops_len, conts_len, bl, List.length_append, List.length_cons, List.length_nil] at *; omega)) (by first | assumption | omega | (try dsimp only at *; omega)))) ?_
  rintro _ _ rfl
  refine O.exi (fun r1A => ?_)
  refine O.exi (fun r1c => ?_)
  refine O.exi (fun r1 => ?_)
  refine O.sep ?_
  refine O.pur ?_
  rintro ⟨rfl, hr1_1, hr1_2⟩
  refine O.p rfl rfl rfl (Pu.buildS (cs := [.int .i64 v_, .slice r1A r1.length r1c]) rfl rfl Try.underlying28 zr28 (by kernel_rfl) rfl (by kernel_rfl)) ?_
  refine O.s rfl rfl (Ef.storeAll 1 rfl sz28 rfl rfl rfl rfl (by simp [Value.oneCell']) rfl) ?_
  rintro _ _ rfl
  refine O.nil ?_
  refine X.next ?_
  refine V.ret ?_
  refine X.retCell rfl ag28 sz28 rfl rfl (Ld.whole 1 rfl) ?_
  exact fun w hw => St.mkExi r1A (St.mkExi r1c (St.mkExi r1 (St.unsep (St.addPur ⟨rfl, hr1_1, hr1_2⟩ (hw.sub (Sub.keep 0 rfl (Sub.nil _)))))))
set_option maxRecDepth 100000 in
set_option maxHeartbeats 1000000 in
theorem l01Sort_ok (blocks : List B3) (blocksA : Option Addr) (blocksc : Nat) (w : World) (hblocks : Rd B3C w blocksA blocks) (lblocks : blocks.length ≤ 1099511627776) (lb : blocks.length ≤ 1000000) : Does Try.prog 79 [.slice blocksA blocks.length blocksc] w [] (fun rv_ => [.exi fun (rA : Option Addr) => .exi fun (rc : Nat) => .exi fun (r : List B3) => .sep (.pur (rv_ = .slice rA r.length rc ∧ r.Perm blocks ∧ SrtB r)) (Own 70 B3C rA rc r)]) := by
  refine Does.enter Try.func79 rfl rfl [(0, .slice blocksA blocks.length blocksc)] rfl ?_
  refine V.seq ?_
  refine V.region ?_
  refine O.p rfl rfl rfl (Pu.assign rfl rfl) ?_
  refine O.nil ?_
  refine X.next ?_
  refine V.seq ?_
  refine V.region ?_
  refine O.e rfl rfl rfl (Ef.build B3C ([] : List B3) rfl Try.underlying26 inf70 rfl rfl rfl (by first | decide | (simp; done)) (by kernel_rfl)) ?_
  rintro _ _ ⟨A1, hA1, rfl, rfl⟩
  refine O.p rfl rfl rfl (Pu.assign rfl rfl) ?_
  refine O.nil ?_
  refine X.next ?_
  refine V.seq ?_
  refine V.seq ?_
  refine V.region ?_
  refine O.p rfl rfl rfl (Pu.assign rfl rfl) ?_
  refine O.nil ?_
  refine X.next ?_
  refine V.block ?_
  refine V.loop2 (β := (Option Addr) × Nat × (List B3) × Nat) (fun x => [(3, .slice x.1 x.2.2.1.length x.2.1), (4, .int .i64 (x.2.2.2 : Int))]) _ (fun x => [Own 70 B3C x.1 x.2.1 x.2.2.1]) (fun x => x.2.2.2 ≤ blocks.length ∧ x.2.2.1.Perm (blocks.take x.2.2.2) ∧ SrtB x.2.2.1) (fun x => blocks.length - x.2.2.2) (A1, 0, ([] : List B3), 0) (by (try dsimp only); exact ⟨by omega, by simp, List.Pairwise.nil⟩) (Ent.cons rfl (Ent.cons rfl (Ent.nil _))) (Ent.cons (t := 0) rfl (Ent.nil _)) (Sub.keep 0 rfl (Sub.nil _)) ?_
  rintro ⟨outA, outc, out, i⟩ ⟨hi, hp, hsr⟩
  dsimp only at hi hp hsr ⊢
  have hol : out.length = i := by rw [hp.length_eq, List.length_take]; omega
  refine V.seq ?_
  refine V.seq ?_
  refine V.region ?_
  refine O.p rfl rfl rfl (Pu.move rfl rfl) ?_
  refine O.p rfl rfl rfl (Pu.move rfl rfl) ?_
  refine O.p rfl rfl rfl (Pu.len rfl Try.underlying26 rfl) ?_
  refine O.p rfl rfl rfl (Pu.lss rfl rfl rfl) ?_
  refine O.nil ?_
  refine X.next ?_
  refine V.condD rfl (fun c1 => ?_) (fun c1 => ?_)
  · skip
    refine V.skip ?_
    refine X.next ?_
    refine V.seq ?_
    refine V.block ?_
    refine V.seq ?_
    refine V.region ?_
    refine O.p rfl rfl rfl (Pu.move rfl rfl) ?_
    refine O.p rfl rfl rfl (Pu.len rfl Try.underlying26 rfl) ?_
    refine O.p rfl rfl rfl (Pu.assign rfl rfl) ?_
    refine O.nil ?_
    refine X.next ?_
    refine V.seq ?_
    refine V.region ?_
    refine O.p rfl rfl rfl (Pu.move rfl rfl) ?_
    refine O.p rfl rfl rfl (Pu.move rfl rfl) ?_
    refine O.p rfl rfl rfl (Pu.move rfl rfl) ?_
    refine O.p rfl rfl rfl (Pu.indexAddr (i) rfl Try.underlying26 sz70 rfl rfl (by omega) (by omega) (hblocks.some (by omega))) ?_
    have e1 : i < blocks.length := by omega
    refine O.p rfl rfl rfl (Pu.loadAgg' (v := B3.v (blocks[i]'e1)) rfl rfl ag70 sz70 rfl rfl (Ld.rds (Ld.old hblocks) (k := i) e1 rfl)) ?_
    refine O.e rfl rfl rfl (Ef.build B3C ([(blocks[i]'e1)] : List B3) rfl Try.underlying26 inf70 rfl rfl rfl (by first | decide | (simp; done)) (by kernel_rfl)) ?_
    rintro _ _ ⟨A2, hA2, rfl, rfl⟩
    refine O.e rfl rfl rfl (Ef.append (xs := out) (ys := ([(blocks[i]'e1)] : List B3)) 1 rfl Try.underlying26 inf70 rfl rfl rfl rfl rfl rfl hA2 (Ld.own 0 (by exact rfl)) (by simp only [List.length_append, List.length_cons, List.length_nil] at *; omega) (by decide)) ?_
    rintro _ _ ⟨A3, k1, rfl, rfl, hA3⟩
    replace hA3 := hA3 (.inr (by simp))
    refine O.p rfl rfl rfl (Pu.assign rfl rfl) ?_
    refine O.nil ?_
    refine X.next ?_
    refine V.seq ?_
    refine V.block ?_
    refine V.loop3 (β := Nat × (List B3)) (fun x => [(5, .int .i64 (x.1 : Int))]) _ (fun x => [Own 70 B3C A3 k1 x.2]) _ (fun x => x.1 ≤ out.length ∧ x.2 = shiftAt out (blocks[i]'e1) x.1 ∧ ∀ j (hj : j < out.length), x.1 ≤ j → B3.lt (blocks[i]'e1) out[j]) (fun x => x.1) (out.length, (out ++ ([(blocks[i]'e1)] : List B3))) (by (try dsimp only); exact ⟨by omega, shiftAt_start.symm, fun j hj h => by omega⟩) (Ent.cons rfl (Ent.nil _)) (Ent.cons (t := 0) rfl (Ent.cons (t := 3) rfl (Ent.cons (t := 4) rfl (Ent.nil _)))) (Sub.keep 1 rfl (Sub.keep 0 rfl (Sub.nil _))) ?_
    rintro ⟨y, z⟩ ⟨hy, hz, hz2⟩
    dsimp only at hy hz hz2 ⊢
    have hzl : z.length = out.length + 1 := by rw [hz]; exact shiftAt_len hy
    have hoa : (out ++ [(blocks[i]'e1)]).length = out.length + 1 := by simp
    refine V.seq ?_
    refine V.seq ?_
    refine V.draw mo (by kernel_rfl) (fun hwf => ?_)
    refine D.p 0 rfl rfl rfl rfl rfl rfl (Pu.move rfl rfl) ?_
    refine D.p 1 rfl rfl rfl rfl rfl rfl (Pu.gtr rfl rfl rfl) ?_
    refine D.p 2 rfl rfl rfl rfl rfl rfl (Pu.move rfl rfl) ?_
    refine D.splitD 24 rfl (fun c2 => ?_) (fun c2 => ?_)
    · skip
      refine D.gp 3 rfl rfl rfl rfl rfl rfl rfl rfl (Pu.move rfl rfl) ?_
      refine D.gp 4 rfl rfl rfl rfl rfl rfl rfl rfl (Pu.move rfl rfl) ?_
      refine D.gp 5 rfl rfl rfl rfl rfl rfl rfl rfl (Pu.indexAddr (i) rfl Try.underlying26 sz70 rfl rfl (by omega) (by omega) (hblocks.some (by omega))) ?_
      refine D.gp 6 rfl rfl rfl rfl rfl rfl rfl rfl (Pu.loadAgg' (v := B3.v (blocks[i]'e1)) rfl rfl ag70 sz70 rfl rfl (Ld.rds (Ld.old hblocks) (k := i) e1 rfl)) ?_
      refine D.gp 7 rfl rfl rfl rfl rfl rfl rfl rfl (Pu.move rfl rfl) ?_
      refine D.gp 8 rfl rfl rfl rfl rfl rfl rfl rfl (Pu.move rfl rfl) ?_
      refine D.gp 9 rfl rfl rfl rfl rfl rfl rfl rfl (Pu.sub64 (r := ((y - 1 : Nat) : Int)) (by omega) (by omega) rfl rfl rfl) ?_
      refine D.gp 10 rfl rfl rfl rfl rfl rfl rfl rfl (Pu.indexAddrS (y - 1) rfl Try.underlying26 sz70 rfl rfl (by omega) (by omega) (fun w hw => Own.some hw (i := 0) (by exact rfl) (by omega))) ?_
      have e2 : y - 1 < z.length := by omega
      refine D.gp 11 rfl rfl rfl rfl rfl rfl rfl rfl (Pu.loadAgg' (v := B3.v (z[y - 1]'e2)) rfl rfl ag70 sz70 rfl rfl (Ld.rds (C := B3C) (Ld.own 0 (by exact rfl)) (k := y - 1) e2 rfl)) ?_
      refine D.geff hwf (e := 12) rfl rfl rfl rfl rfl rfl (Ef.callP call64 rfl rfl (fun w hw => l01Before_ok _ _ _)) rfl rfl rfl ?_
      rintro _ _ ⟨rfl, rfl⟩ hs
      refine ⟨fun w hw => hw, ?_⟩
      refine D.p 13 rfl rfl rfl rfl rfl rfl (Pu.pickT rfl rfl rfl) ?_
      refine D.done hwf rfl ?_
      refine X.next ?_
      refine V.condD rfl (fun c3 => ?_) (fun c3 => ?_)
      · skip
        refine V.skip ?_
        refine X.next ?_
        refine V.block ?_
        refine V.seq ?_
        refine V.region ?_
        refine O.p rfl rfl rfl (Pu.move rfl rfl) ?_
        refine O.p rfl rfl rfl (Pu.move rfl rfl) ?_
        refine O.p rfl rfl rfl (Pu.move rfl rfl) ?_
        refine O.p rfl rfl rfl (Pu.move rfl rfl) ?_
        refine O.p rfl rfl rfl (Pu.sub64 (r := ((y - 1 : Nat) : Int)) (by omega) (by omega) rfl rfl rfl) ?_
        refine O.p rfl rfl rfl (Pu.indexAddrS (y - 1) rfl Try.underlying26 sz70 rfl rfl (by omega) (by omega) (fun w hw => Own.some hw (i := 0) (by exact rfl) (by omega))) ?_
        refine O.p rfl rfl rfl (Pu.loadAgg' (v := B3.v (z[y - 1]'e2)) rfl rfl ag70 sz70 rfl rfl (Ld.rds (C := B3C) (Ld.own 0 (by exact rfl)) (k := y - 1) e2 rfl)) ?_
        refine O.p rfl rfl rfl (Pu.indexAddrS (y) rfl Try.underlying26 sz70 rfl rfl (by omega) (by omega) (fun w hw => Own.some hw (i := 0) (by exact rfl) (by omega))) ?_
        refine O.s rfl rfl (Ef.storeOwn 0 (y) (z[y - 1]'e2) rfl sz70 rfl rfl rfl rfl (by omega) rfl) ?_
        rintro _ _ rfl
        refine O.nil ?_
        refine X.next ?_
        refine V.region ?_
        refine O.p rfl rfl rfl (Pu.move rfl rfl) ?_
        refine O.p rfl rfl rfl (Pu.sub64 (r := ((y - 1 : Nat) : Int)) (by omega) (by omega) rfl rfl rfl) ?_
        refine O.p rfl rfl rfl (Pu.assign rfl rfl) ?_
        refine O.nil ?_
        refine X.blockNormal ?_
        exact X.back3 (y - 1, (z.set (y) (z[y - 1]'e2))) (by (try dsimp only); exact ⟨by omega, by subst hz; exact shiftAt_step hy (by omega) _, fun j hj h => by by_cases e : j = y - 1; (· subst e; have e4 : z[y - 1]'(by omega) = out[y - 1]'(by omega) := (by subst hz; exact shiftAt_lt hy (by omega) _); rw [← e4]; exact c3); (· exact hz2 j hj (by omega))⟩) (by first | omega | (dsimp only; omega)) (Ent.cons rfl (Ent.nil _)) (Ent.cons (t := 0) rfl (Ent.cons (t := 3) rfl (Ent.cons (t := 4) rfl (Ent.nil _)))) (Sub.keep 0 rfl (Sub.keep 0 rfl (Sub.nil _)))
      · skip
        refine V.exit ?_
        refine X.thenExit ?_
        refine X.thenExit ?_
        refine X.blockHit ?_
        refine X.next ?_
        refine V.region ?_
        refine O.p rfl rfl rfl (Pu.move rfl rfl) ?_
        refine O.p rfl rfl rfl (Pu.move rfl rfl) ?_
        refine O.p rfl rfl rfl (Pu.move rfl rfl) ?_
        refine O.p rfl rfl rfl (Pu.move rfl rfl) ?_
        refine O.p rfl rfl rfl (Pu.indexAddr (i) rfl Try.underlying26 sz70 rfl rfl (by omega) (by omega) (hblocks.some (by omega))) ?_
        refine O.p rfl rfl rfl (Pu.loadAgg' (v := B3.v (blocks[i]'e1)) rfl rfl ag70 sz70 rfl rfl (Ld.rds (Ld.old hblocks) (k := i) e1 rfl)) ?_
        refine O.p rfl rfl rfl (Pu.indexAddrS (y) rfl Try.underlying26 sz70 rfl rfl (by omega) (by omega) (fun w hw => Own.some hw (i := 0) (by exact rfl) (by omega))) ?_
        refine O.s rfl rfl (Ef.storeOwn 0 (y) (blocks[i]'e1) rfl sz70 rfl rfl rfl rfl (by omega) rfl) ?_
        rintro _ _ rfl
        refine O.nil ?_
        refine X.blockNormal ?_
        refine X.next ?_
        refine V.region ?_
        refine O.p rfl rfl rfl (Pu.move rfl rfl) ?_
        refine O.p rfl rfl rfl (Pu.add64 (r := ((i + 1 : Nat) : Int)) rfl (by omega) rfl rfl rfl) ?_
        refine O.p rfl rfl rfl (Pu.assign rfl rfl) ?_
        refine O.nil ?_
        exact X.back2 (A3, k1, (out.take y ++ (blocks[i]'e1) :: out.drop y), i + 1) (by (try dsimp only); exact ⟨by omega, ((ins_perm (y := y)).trans ((hp.append_right _).trans (by rw [take_snoc e1]))), ins_sorted hsr hy hz2 (fun h0 => by have e4 : z[y - 1]'(by omega) = out[y - 1]'(by omega) := (by subst hz; exact shiftAt_lt hy (by omega) _); rw [← e4]; exact c3)⟩) (by first | omega | (dsimp only; omega)) (Ent.cons' rfl (by rw [(ins_perm (y := y)).length_eq]) (Ent.cons rfl (Ent.nil _))) (Ent.cons (t := 0) rfl (Ent.nil _)) (Sub.cons 0 rfl (fun w F h => by rw [hz, shiftAt_done hy] at h; exact h) (Sub.nil _))
    · skip
      refine D.gs 3 rfl rfl rfl rfl rfl rfl rfl rfl rfl ?_
      refine D.gs 4 rfl rfl rfl rfl rfl rfl rfl rfl rfl ?_
      refine D.gs 5 rfl rfl rfl rfl rfl rfl rfl rfl rfl ?_
      refine D.gs 6 rfl rfl rfl rfl rfl rfl rfl rfl rfl ?_
      refine D.gs 7 rfl rfl rfl rfl rfl rfl rfl rfl rfl ?_
      refine D.gs 8 rfl rfl rfl rfl rfl rfl rfl rfl rfl ?_
      refine D.gs 9 rfl rfl rfl rfl rfl rfl rfl rfl rfl ?_
      refine D.gs 10 rfl rfl rfl rfl rfl rfl rfl rfl rfl ?_
      refine D.gs 11 rfl rfl rfl rfl rfl rfl rfl rfl rfl ?_
      refine D.gs 12 rfl rfl rfl rfl rfl rfl rfl rfl rfl ?_
      refine D.p 13 rfl rfl rfl rfl rfl rfl (Pu.pickF rfl rfl rfl) ?_
      refine D.done hwf rfl ?_
      refine X.next ?_
      refine V.condF rfl ?_
      refine V.exit ?_
      refine X.thenExit ?_
      refine X.thenExit ?_
      refine X.blockHit ?_
      refine X.next ?_
      refine V.region ?_
      refine O.p rfl rfl rfl (Pu.move rfl rfl) ?_
      refine O.p rfl rfl rfl (Pu.move rfl rfl) ?_
      refine O.p rfl rfl rfl (Pu.move rfl rfl) ?_
      refine O.p rfl rfl rfl (Pu.move rfl rfl) ?_
      refine O.p rfl rfl rfl (Pu.indexAddr (i) rfl Try.underlying26 sz70 rfl rfl (by omega) (by omega) (hblocks.some (by omega))) ?_
      refine O.p rfl rfl rfl (Pu.loadAgg' (v := B3.v (blocks[i]'e1)) rfl rfl ag70 sz70 rfl rfl (Ld.rds (Ld.old hblocks) (k := i) e1 rfl)) ?_
      refine O.p rfl rfl rfl (Pu.indexAddrS (y) rfl Try.underlying26 sz70 rfl rfl (by omega) (by omega) (fun w hw => Own.some hw (i := 0) (by exact rfl) (by omega))) ?_
      refine O.s rfl rfl (Ef.storeOwn 0 (y) (blocks[i]'e1) rfl sz70 rfl rfl rfl rfl (by omega) rfl) ?_
      rintro _ _ rfl
      refine O.nil ?_
      refine X.blockNormal ?_
      refine X.next ?_
      refine V.region ?_
      refine O.p rfl rfl rfl (Pu.move rfl rfl) ?_
      refine O.p rfl rfl rfl (Pu.add64 (r := ((i + 1 : Nat) : Int)) rfl (by omega) rfl rfl rfl) ?_
      refine O.p rfl rfl rfl (Pu.assign rfl rfl) ?_
      refine O.nil ?_
      exact X.back2 (A3, k1, (out.take y ++ (blocks[i]'e1) :: out.drop y), i + 1) (by (try dsimp only); exact ⟨by omega, ((ins_perm (y := y)).trans ((hp.append_right _).trans (by rw [take_snoc e1]))), ins_sorted hsr hy hz2 (fun h0 => by omega)⟩) (by first | omega | (dsimp only; omega)) (Ent.cons' rfl (by rw [(ins_perm (y := y)).length_eq]) (Ent.cons rfl (Ent.nil _))) (Ent.cons (t := 0) rfl (Ent.nil _)) (Sub.cons 0 rfl (fun w F h => by rw [hz, shiftAt_done hy] at h; exact h) (Sub.nil _))
  · skip
    refine V.exit ?_
    refine X.thenExit ?_
    refine X.thenExit ?_
    refine X.blockHit ?_
    refine X.next ?_
    refine V.seq ?_
    refine V.region ?_
    refine O.p rfl rfl rfl (Pu.move rfl rfl) ?_
    refine O.p rfl rfl rfl (Pu.assign rfl rfl) ?_
    refine O.nil ?_
    refine X.next ?_
    refine V.ret ?_
    refine X.ret1 rfl rfl ?_
    exact fun w hw => St.mkExi outA (St.mkExi outc (St.mkExi out (St.unsep (St.addPur ⟨rfl, by rw [List.take_of_length_le (by omega)] at hp; exact hp, hsr⟩ (hw.sub (Sub.keep 0 rfl (Sub.nil _)))))))
set_option maxRecDepth 100000 in
set_option maxHeartbeats 1000000 in
theorem l01BlockG_ok (a : Int) (b : Int) (c_ : Int) (w : World) (ha : (-1000000 ≤ a ∧ a ≤ 1000000)) (hb : (-1000000 ≤ b ∧ b ≤ 1000000)) (hc : (-1000000 ≤ c_ ∧ c_ ≤ 1000000)) : Does Try.prog 50 [.int .i64 a, .int .i64 b, .int .i64 c_] w [] (fun r => [.pur (r = B3.v (bk3 a b c_))]) := by
  refine Does.enter Try.func50 rfl rfl [(0, .int .i64 a), (1, .int .i64 b), (2, .int .i64 c_)] rfl ?_
  refine V.seq ?_
  refine V.region ?_
  refine O.e rfl rfl rfl (Ef.alloc rfl zr70 rfl) ?_
  rintro _ _ ⟨b1, rfl, rfl⟩
  refine O.nil ?_
  refine X.next ?_
  refine V.seq ?_
  refine V.region ?_
  refine O.p rfl rfl rfl (Pu.move rfl rfl) ?_
  refine O.p rfl rfl rfl (Pu.move rfl rfl) ?_
  refine O.p rfl rfl rfl (Pu.move rfl rfl) ?_
  refine O.p rfl rfl rfl (Pu.min3 (r := (min (min a b) c_)) (by omega) rfl rfl rfl rfl) ?_
  refine O.p rfl rfl rfl (Pu.move rfl rfl) ?_
  refine O.p rfl rfl rfl (Pu.move rfl rfl) ?_
  refine O.p rfl rfl rfl (Pu.move rfl rfl) ?_
  refine O.p rfl rfl rfl (Pu.max3 (r := (max (max a b) c_)) (by omega) rfl rfl rfl rfl) ?_
  refine O.p rfl rfl rfl (Pu.assign rfl rfl) ?_
  refine O.p rfl rfl rfl (Pu.assign rfl rfl) ?_
  refine O.nil ?_
  refine X.next ?_
  refine V.seq ?_
  refine V.region ?_
  refine O.p rfl rfl rfl (Pu.move rfl rfl) ?_
  refine O.p rfl rfl rfl (Pu.move rfl rfl) ?_
  refine O.p rfl rfl rfl (Pu.move rfl rfl) ?_
  refine O.p rfl rfl rfl (Pu.add64 rfl (by omega) rfl rfl rfl) ?_
  refine O.p rfl rfl rfl (Pu.move rfl rfl) ?_
  refine O.p rfl rfl rfl (Pu.add64 rfl (by omega) rfl rfl rfl) ?_
  refine O.p rfl rfl rfl (Pu.move rfl rfl) ?_
  refine O.p rfl rfl rfl (Pu.sub64 rfl (by omega) rfl rfl rfl) ?_
  refine O.p rfl rfl rfl (Pu.move rfl rfl) ?_
  refine O.p rfl rfl rfl (Pu.sub64 rfl (by omega) rfl rfl rfl) ?_
  refine O.p rfl rfl rfl (Pu.move rfl rfl) ?_
  refine O.p rfl rfl rfl (Pu.buildA (cs := [.int .i64 (min (min a b) c_), .int .i64 ((((a + b) + c_) - (min (min a b) c_)) - (max (max a b) c_)), .int .i64 (max (max a b) c_)]) (v := B3.v ((min (min a b) c_), ((((a + b) + c_) - (min (min a b) c_)) - (max (max a b) c_)), (max (max a b) c_))) rfl rfl Try.underlying70 zr70 sz2 rfl (by kernel_rfl)) ?_
  refine O.s rfl rfl (Ef.storeAll 0 rfl sz70 rfl rfl rfl rfl (by simp [Value.oneCell']) rfl) ?_
  rintro _ _ rfl
  refine O.nil ?_
  refine X.next ?_
  refine V.ret ?_
  refine X.retCell rfl ag70 sz70 rfl rfl (Ld.whole 0 rfl) ?_
  exact fun w hw => St.retP (rfl) hw
set_option maxRecDepth 100000 in
set_option maxHeartbeats 1000000 in
theorem l01Made_ok (v_ : Int) (blocks : List B3) (blocksA : Option Addr) (blocksc : Nat) (w : World) (hblocks : Rd B3C w blocksA blocks) (lblocks : blocks.length ≤ 1099511627776) (lb : blocks.length ≤ 1000000) : Does Try.prog 87 [.int .i64 v_, .slice blocksA blocks.length blocksc] w [] (fun rv_ => [.exi fun (rA : Option Addr) => .exi fun (rc : Nat) => .exi fun (r : List B3) => .sep (.pur (rv_ = .agg #[.int .i64 v_, .slice rA r.length rc] ∧ r.Perm blocks ∧ SrtB r)) (Own 70 B3C rA rc r)]) := by
  refine Does.enter Try.func87 rfl rfl [(0, .int .i64 v_), (1, .slice blocksA blocks.length blocksc)] rfl ?_
  refine V.seq ?_
  refine V.region ?_
  refine O.e rfl rfl rfl (Ef.alloc rfl zr28 rfl) ?_
  rintro _ _ ⟨b1, rfl, rfl⟩
  refine O.nil ?_
  refine X.next ?_
  refine V.seq ?_
  refine V.region ?_
  refine O.p rfl rfl rfl (Pu.move rfl rfl) ?_
  refine O.p rfl rfl rfl (Pu.move rfl rfl) ?_
  refine O.e rfl rfl rfl (Ef.call1 call79 rfl rfl (fun w hw => l01Sort_ok  blocks _ _ w ((Ld.old hblocks) w hw) (by first | omega | (simp only [tops_len, conts_len, bl, List.length_append, List.length_cons, List.length_nil] at *; omega)) (by first | assumption | omega | (try dsimp only at *; omega)))) ?_
  rintro _ _ rfl
  refine O.exi (fun r1A => ?_)
  refine O.exi (fun r1c => ?_)
  refine O.exi (fun r1 => ?_)
  refine O.sep ?_
  refine O.pur ?_
  rintro ⟨rfl, hr1_1, hr1_2⟩
  refine O.p rfl rfl rfl (Pu.buildS (cs := [.int .i64 v_, .slice r1A r1.length r1c]) rfl rfl Try.underlying28 zr28 (by kernel_rfl) rfl (by kernel_rfl)) ?_
  refine O.s rfl rfl (Ef.storeAll 1 rfl sz28 rfl rfl rfl rfl (by simp [Value.oneCell']) rfl) ?_
  rintro _ _ rfl
  refine O.nil ?_
  refine X.next ?_
  refine V.ret ?_
  refine X.retCell rfl ag28 sz28 rfl rfl (Ld.whole 1 rfl) ?_
  exact fun w hw => St.mkExi r1A (St.mkExi r1c (St.mkExi r1 (St.unsep (St.addPur ⟨rfl, hr1_1, hr1_2⟩ (hw.sub (Sub.keep 0 rfl (Sub.nil _)))))))
end Go.Proofs.Ytnngcemighmikaa
