/-
  Contracts, part 2.
-/
import Derived.Test.YtgfpljeppfaolaaKb1
set_option linter.unusedVariables false
set_option linter.unusedSimpArgs false
namespace Go.Proofs.Ytgfpljeppfaolaa
open Go Go.RowKit Go.Vc Go.Proofs
set_option maxRecDepth 100000 in
theorem within_ok (n lo hi : Int) (w : World) : Does Try.prog 47 [.int .i64 n, .int .i64 lo, .int .i64 hi] w [] (fun v => [.pur (v = .bool (decide (lo ≤ n ∧ n ≤ hi)))]) := by
 refine Does.enter Try.func47 rfl rfl [(0, .int .i64 n), (1, .int .i64 lo), (2, .int .i64 hi)] rfl (Za (O.m rfl (Zb (O.m rfl (O.m rfl (O.q rfl (Pu.geq rfl rfl rfl) (O.m rfl (O.splitD 10 rfl (fun c1 => ?_) (fun c1 => ?_)))))))))
 ·exact O.gm rfl (O.gm rfl (O.gq rfl (Pu.leq rfl rfl rfl) (O.m rfl (O.m rfl (Ze (X.ret1 rfl rfl (fun w hw => St.retP (boolD ⟨fun h => ⟨c1, h⟩, fun h => h.2⟩) hw)))))))
 ·exact O.g rfl (O.g rfl (O.g rfl (O.m rfl (O.m rfl (Ze (X.ret1 rfl rfl (fun w hw => St.retP (boolF (fun h => c1 h.1)) hw)))))))
set_option maxRecDepth 100000 in
theorem l01In_ok (n lo hi : Int) (w : World) : Does Try.prog 30 [.int .i64 n, .int .i64 lo, .int .i64 hi] w [] (fun v => [.pur (v = .bool (decide (lo ≤ n ∧ n ≤ hi)))]) := by
 refine Does.enter Try.func30 rfl rfl [(0, .int .i64 n), (1, .int .i64 lo), (2, .int .i64 hi)] rfl (Za (O.m rfl (Zb (O.m rfl (O.m rfl (O.q rfl (Pu.geq rfl rfl rfl) (O.m rfl (O.splitD 10 rfl (fun c1 => ?_) (fun c1 => ?_)))))))))
 ·exact O.gm rfl (O.gm rfl (O.gq rfl (Pu.leq rfl rfl rfl) (O.m rfl (O.m rfl (Ze (X.ret1 rfl rfl (fun w hw => St.retP (boolD ⟨fun h => ⟨c1, h⟩, fun h => h.2⟩) hw)))))))
 ·exact O.g rfl (O.g rfl (O.g rfl (O.m rfl (O.m rfl (Ze (X.ret1 rfl rfl (fun w hw => St.retP (boolF (fun h => c1 h.1)) hw)))))))
set_option maxRecDepth 100000 in
theorem isNaN_ok (n : Int) (w : World) : Does Try.prog 52 [.int .i64 n] w [] (fun v => [.pur (v = .bool false)]) := by
 refine Does.enter Try.func52 rfl rfl [(0, .int .i64 n)] rfl (Za (O.m rfl (Zb (O.m rfl (O.m rfl (O.q rfl (Pu.neq rfl rfl rfl) (O.m rfl ?_)))))))
 exact Ze (X.ret1 rfl rfl (fun w hw => St.retP (by simp) hw))
set_option maxRecDepth 100000 in
theorem cmpCompare_ok (x y : Int) (w : World) : Does Try.prog 40 [.int .i64 x, .int .i64 y] w [] (fun v => [.pur (v = .int .i64 (cmpI x y))]) := by
 refine Does.enter Try.func40 rfl rfl [(0, .int .i64 x), (1, .int .i64 y)] rfl (Za (O.m rfl (Zb (O.m rfl (O.f rfl (Ef.callP call52 rfl rfl (fun w hw => isNaN_ok _ _)) ?_)))))
 rintro _ _ ⟨rfl, rfl⟩
 refine O.m rfl (Zb (O.m rfl (O.f rfl (Ef.callP call52 rfl rfl (fun w hw => isNaN_ok _ _)) ?_)))
 rintro _ _ ⟨rfl, rfl⟩
 refine O.m rfl (Zc (O.m rfl (Zf (V.condF rfl (Vk (Xn ?_))))))
 refine Zj (O.m rfl (Zf (V.condF rfl (Vk (Xn (Zj ?_))))))
 refine O.m rfl (O.m rfl (O.q rfl (Pu.lss rfl rfl rfl) (Zf (V.condD rfl (fun c1 => ?_) (fun c1 => ?_)))))
 ·exact Za (O.m rfl (Ze (Xr (X.ret1 rfl rfl (fun w hw => St.retP (by simp [cmpI, c1]) hw)))))
 ·refine Vk (Xn (Zj (O.m rfl (O.m rfl (O.q rfl (Pu.gtr rfl rfl rfl) (Zf (V.condD rfl (fun c2 => ?_) (fun c2 => ?_))))))))
  ·exact Za (O.m rfl (Ze (Xr (X.ret1 rfl rfl (fun w hw => St.retP (by simp [cmpI, c1, c2]) hw)))))
  ·exact Vk (Xn (Za (O.m rfl (Ze (X.ret1 rfl rfl (fun w hw => St.retP (by simp [cmpI, c1, c2]) hw))))))
set_option maxRecDepth 100000 in
theorem slicesCompare_ok (xs ys : List Int) (A A2 : Option Addr) (c c2 : Nat) (w : World) (hx : Rd I64 w A xs) (hy : Rd I64 w A2 ys) (lx : xs.length ≤ 4611686018427387904) (ly : ys.length ≤ 4611686018427387904) : Does Try.prog 25 [.slice A xs.length c, .slice A2 ys.length c2] w [] (fun v => [.pur (v = .int .i64 (cmpL xs ys))]) := by
 refine Does.enter Try.func25 rfl rfl [(0, .slice A xs.length c), (1, .slice A2 ys.length c2)] rfl (Za (O.m rfl (Zc (O.m rfl (O.q rfl (Pu.len rfl ut40 rfl) (O.m rfl ?_))))))
 refine Zi (V.loop2 (β := Nat) (fun k => [(11, .int .i64 (k : Int))]) _ (fun k => []) (fun k => k ≤ xs.length ∧ k ≤ ys.length ∧ cmpL (xs.drop k) (ys.drop k) = cmpL xs ys) (fun k => xs.length - k) 0 ⟨by omega, by omega, rfl⟩ (Ent.cons rfl (Ent.nil _)) (Ent.cons (t := 0) rfl (Ent.cons (t := 1) rfl (Ent.cons (t := 9) rfl (Ent.cons (t := 10) rfl (Ent.nil _))))) (Sub.nil _) ?_)
 rintro k ⟨hk1, hk2, hk3⟩
 refine Za (O.q rfl (Pu.lss rfl rfl rfl) (Zf (Vs (V.condD rfl (fun c1 => ?_) (fun c1 => ?_)))))
 ·refine Zh (O.m rfl (O.q rfl (Pu.indexAddr (k) rfl ut40 sz2 rfl rfl (by omega) (by omega) (hx.some (by omega))) ?_))
  have e1 : k < xs.length := by omega
  refine O.q rfl (Pu.load rfl pl2 rfl (Ld.rd (Ld.old hx) (k := k) e1 rfl rfl)) (O.m rfl (O.m rfl (Zc (O.m rfl (O.m rfl (O.q rfl (Pu.len rfl ut40 rfl) (O.q rfl (Pu.geq rfl rfl rfl) ?_)))))))
  refine Zf (V.condD rfl (fun c2 => ?_) (fun c2 => ?_))
  ·refine Za (O.m rfl (Ze (Xr (Xq (Xr (Xr (Xq (Xr ?_))))))))
   exact X.ret1 rfl rfl (fun w hw => St.retP (iv (by rw [← hk3]; exact cmpL_more (by omega) (by omega))) hw)
  ·refine Vk (Xn (Za (O.m rfl (O.m rfl (O.q rfl (Pu.indexAddr (k) rfl ut40 sz2 rfl rfl (by omega) (by omega) (hy.some (by omega))) ?_)))))
   have e2 : k < ys.length := by omega
   refine O.q rfl (Pu.load rfl pl2 rfl (Ld.rd (Ld.old hy) (k := k) e2 rfl rfl)) (O.m rfl (Zb (O.m rfl (O.m rfl (O.f rfl (Ef.callP call40 rfl rfl (fun w hw => cmpCompare_ok _ _ _)) ?_)))))
   rintro _ _ ⟨rfl, rfl⟩
   refine O.m rfl (Zb (O.m rfl (O.q rfl (Pu.neq rfl rfl rfl) (Zf (V.condNot rfl (fun c3 => ?_) (fun c3 => ?_))))))
   ·refine Za (O.m rfl (O.m rfl (Ze (Xq (Xr (Xr (Xq (Xr ?_))))))))
    exact X.ret1 rfl rfl (fun w hw => St.retP (iv (by rw [← hk3]; exact cmpL_ne (by omega) (by omega) c3)) hw)
   ·exact Zg (O.q rfl (Pu.add64 (r := ((k + 1 : Nat) : Int)) rfl (by omega) rfl rfl rfl) (O.m rfl (On (X.back2 (k + 1) ⟨by omega, by omega, cmpL_step hk3 (by omega) (by omega) c3⟩ (by omega) (Ent.cons rfl (Ent.nil _)) (Ent.cons (t := 0) rfl (Ent.cons (t := 1) rfl (Ent.cons (t := 9) rfl (Ent.cons (t := 10) rfl (Ent.nil _))))) (Sub.nil _)))))
 ·refine Ve (Xe (Xe (Xh (Xn (Zj (O.m rfl (O.q rfl (Pu.len rfl ut40 rfl) (O.m rfl (O.q rfl (Pu.len rfl ut40 rfl) ?_)))))))))
  refine O.q rfl (Pu.lss rfl rfl rfl) (Zf (V.condD rfl (fun c4 => ?_) (fun c4 => ?_)))
  ·exact Za (O.m rfl (Ze (Xr (X.ret1 rfl rfl (fun w hw => St.retP (iv (by rw [← hk3]; exact cmpL_less (by omega) (by omega))) hw)))))
  ·exact Vk (Xn (Za (O.m rfl (Ze (X.ret1 rfl rfl (fun w hw => St.retP (iv (by rw [← hk3]; exact cmpL_end (by omega) (by omega))) hw))))))
set_option maxRecDepth 100000 in
theorem rises_ok (xs : List Int) (n : Int) (A : Option Addr) (c : Nat) (w : World) (hx : Rd I64 w A xs) (lx : xs.length ≤ 4611686018427387904) (hn : 0 ≤ n ∧ n ≤ 4611686018427387904) : Does Try.prog 38 [.slice A xs.length c, .int .i64 n] w [] (fun v => [.pur (v = .bool (decide (Go.Vc.rises n xs)))]) := by
 refine Does.enter Try.func38 rfl rfl [(0, .slice A xs.length c), (1, .int .i64 n)] rfl (Za (O.m rfl (Zc (O.m rfl (O.q rfl (Pu.len rfl ut40 rfl) (O.m rfl ?_))))))
 refine Zi (V.loop2 (β := Nat) (fun k => [(9, .int .i64 (k : Int))]) _ (fun k => []) (fun k => k ≤ xs.length ∧ risesAt n xs k) (fun k => xs.length - k) 0 ⟨by omega, fun i _ h => by omega⟩ (Ent.cons rfl (Ent.nil _)) (Ent.cons (t := 0) rfl (Ent.cons (t := 1) rfl (Ent.cons (t := 7) rfl (Ent.cons (t := 8) rfl (Ent.nil _))))) (Sub.nil _) ?_)
 rintro k ⟨hk, hr⟩
 refine Za (O.q rfl (Pu.lss rfl rfl rfl) (Zf (Vs (V.condD rfl (fun c1 => ?_) (fun c1 => ?_)))))
 ·refine Zh (O.m rfl (O.q rfl (Pu.indexAddr (k) rfl ut40 sz2 rfl rfl (by omega) (by omega) (hx.some (by omega))) ?_))
  have e1 : k < xs.length := by omega
  refine O.q rfl (Pu.load rfl pl2 rfl (Ld.rd (Ld.old hx) (k := k) e1 rfl rfl)) (O.m rfl (O.m rfl (Zb (O.m rfl (O.m rfl (O.q rfl (Pu.sub64 rfl (by omega) rfl rfl rfl) (O.f rfl (Ef.callP call47 rfl rfl (fun w hw => within_ok _ _ _ _)) ?_)))))))
  rintro _ _ ⟨rfl, rfl⟩
  refine O.q rfl (Pu.not rfl rfl) (O.m rfl (O.splitN 19 rfl (fun c2 => ?_) (fun c2 => ?_)))
  ·refine O.g rfl (O.g rfl (O.g rfl (O.g rfl (O.g rfl (O.g rfl (O.g rfl (O.g rfl (O.g rfl (O.g rfl (O.g rfl (O.m rfl ?_)))))))))))
   refine Zf (V.condT rfl (Za (O.m rfl (Ze (Xq (Xr (Xr ?_)))))))
   exact Xq (Xr (X.ret1 rfl rfl (fun w hw => St.retP (boolF (fun h => c2 (by have := (((rises_iff n xs).1 h) k (by omega) (by omega)).1; omega))) hw)))
  ·refine O.gm rfl (O.gq rfl (Pu.gtr rfl rfl rfl) (O.gm rfl (O.splitD 22 rfl (fun c3 => ?_) (fun c3 => ?_))))
   ·refine O.gm rfl (O.gm rfl (O.gq rfl (Pu.sub64 (r := ((k - 1 : Nat) : Int)) (by omega) (by omega) rfl rfl rfl) (O.gq rfl (Pu.indexAddr (k - 1) rfl ut40 sz2 rfl rfl (by omega) (by omega) (hx.some (by omega))) ?_)))
    have e2 : k - 1 < xs.length := by omega
    refine O.gq rfl (Pu.load rfl pl2 rfl (Ld.rd (Ld.old hx) (k := k - 1) e2 rfl rfl)) (O.gm rfl (O.gq rfl (Pu.geq rfl rfl rfl) (O.gm rfl (O.m rfl (Zf (V.condD rfl (fun c4 => ?_) (fun c4 => ?_)))))))
    ·exact Za (O.m rfl (Ze (Xq (Xr (Xr (Xq (Xr (X.ret1 rfl rfl (fun w hw => St.retP (boolF (fun h => by have := (((rises_iff n xs).1 h) k (by omega) (by omega)).2 (k - 1) (by omega) (by omega); omega)) hw)))))))))
    ·exact Zg (O.q rfl (Pu.add64 (r := ((k + 1 : Nat) : Int)) rfl (by omega) rfl rfl rfl) (O.m rfl (On (X.back2 (k + 1) ⟨by omega, risesAt_succ (by omega) hr (by omega) (fun j hj e => by subst e; simp only [Nat.add_sub_cancel] at c4; omega)⟩ (by omega) (Ent.cons rfl (Ent.nil _)) (Ent.cons (t := 0) rfl (Ent.cons (t := 1) rfl (Ent.cons (t := 7) rfl (Ent.cons (t := 8) rfl (Ent.nil _))))) (Sub.nil _)))))
   ·refine O.g rfl (O.g rfl (O.g rfl (O.g rfl (O.g rfl (O.g rfl (O.g rfl (O.gm rfl (O.m rfl (Zf (V.condF rfl ?_))))))))))
    exact Zg (O.q rfl (Pu.add64 (r := ((k + 1 : Nat) : Int)) rfl (by omega) rfl rfl rfl) (O.m rfl (On (X.back2 (k + 1) ⟨by omega, risesAt_succ (by omega) hr (by omega) (fun j hj e => by omega)⟩ (by omega) (Ent.cons rfl (Ent.nil _)) (Ent.cons (t := 0) rfl (Ent.cons (t := 1) rfl (Ent.cons (t := 7) rfl (Ent.cons (t := 8) rfl (Ent.nil _))))) (Sub.nil _)))))
 ·exact Zd (O.m rfl (Ze (X.ret1 rfl rfl (fun w hw => St.retP (boolT ((rises_iff n xs).2 (fun i hi h => hr i hi (by omega)))) hw))))
set_option maxRecDepth 100000 in
theorem isBlock_ok (b : B3) (n : Int) (w : World) (hn : 0 ≤ n ∧ n ≤ 4611686018427387904) : Does Try.prog 48 [B3.v b, .int .i64 n] w [] (fun v => [.pur (v = .bool (decide (good n b)))]) := by
 refine Does.enter Try.func48 rfl rfl [(0, B3.v b), (1, .int .i64 n)] rfl (Za (O.f rfl (Ef.box rfl rfl rfl) ?_))
 rintro _ _ ⟨b1, rfl, rfl⟩
 refine O.m rfl (Zb (O.q rfl (Pu.slicePtr rfl ut57 sz2 rfl) (O.m rfl (O.f rfl (Ef.callP call38 rfl rfl (fun w hw => rises_ok (bl b) n _ 3 w (Ld.arr 0 rfl rfl w hw) (by simp [bl]) hn)) ?_))))
 rintro _ _ ⟨rfl, rfl⟩
 exact O.m rfl (Ze (X.ret1 rfl rfl (fun w hw => St.retP (boolD (rises_bl b)) hw)))
set_option maxRecDepth 100000 in
theorem compare_ok (a b : B3) (w : World) : Does Try.prog 49 [B3.v a, B3.v b] w [] (fun v => [.pur (v = .int .i64 (cmpL (bl a) (bl b)))]) := by
 refine Does.enter Try.func49 rfl rfl [(0, B3.v a), (1, B3.v b)] rfl (Za (O.f rfl (Ef.box rfl rfl rfl) ?_))
 rintro _ _ ⟨b1, rfl, rfl⟩
 refine O.f rfl (Ef.box rfl rfl rfl) ?_
 rintro _ _ ⟨b2, rfl, rfl⟩
 refine O.m rfl (Zf (Vs (V.ent (Ent.cons (t := 2) rfl (Ent.cons (t := 3) rfl (Ent.nil _))) (V.draw mo (by kernel_rfl) (fun hwf => D.q 0 rfl (Pu.slicePtr rfl ut57 sz2 rfl) (D.q 1 rfl (Pu.slicePtr rfl ut57 sz2 rfl) (D.f hwf 2 rfl (Ef.callP call25 rfl rfl (fun w hw => slicesCompare_ok (bl a) (bl b) _ _ 3 3 w (Ld.arr 1 rfl rfl w hw) (Ld.arr 0 rfl rfl w hw) (by simp [bl]) (by simp [bl]))) ?_)))))))
 rintro _ _ ⟨rfl, rfl⟩ hs
 exact ⟨fun w hw => hw, (D.m 3 rfl (D.done hwf rfl (Xn (Vt (X.ret1 rfl rfl (fun w hw => St.retP (rfl) hw))))))⟩
set_option maxRecDepth 100000 in
theorem l01Good_ok (b : B3) (n : Int) (w : World) : Does Try.prog 31 [.int .i64 n, B3.v b] w [] (fun v => [.pur (v = .bool (decide (good n b)))]) := by
 refine Does.enter Try.func31 rfl rfl [(0, .int .i64 n), (1, B3.v b)] rfl (Za (O.f rfl (Ef.box rfl rfl rfl) ?_))
 rintro _ _ ⟨b1, rfl, rfl⟩
 refine O.m rfl (Zb (O.q rfl (Pu.indexArr 0 0 rfl ut57 sz2 rfl rfl (by decide) (by decide) (by decide)) (O.q rfl (Pu.load rfl pl2 rfl (Ld.blk 0 rfl rfl)) (O.q rfl (Pu.geq rfl rfl rfl) (O.m rfl (O.splitD 8 rfl (fun c1 => ?_) (fun c1 => ?_)))))))
 ·refine O.gq rfl (Pu.indexArr 0 0 rfl ut57 sz2 rfl rfl (by decide) (by decide) (by decide)) (O.gq rfl (Pu.load rfl pl2 rfl (Ld.blk 0 rfl rfl)) (O.gq rfl (Pu.indexArr 1 1 rfl ut57 sz2 rfl rfl (by decide) (by decide) (by decide)) (O.gq rfl (Pu.load rfl pl2 rfl (Ld.blk 0 rfl rfl)) (O.gq rfl (Pu.lss rfl rfl rfl) (O.m rfl (O.m rfl (O.splitD 15 rfl (fun c2 => ?_) (fun c2 => ?_))))))))
  ·refine O.gq rfl (Pu.indexArr 1 1 rfl ut57 sz2 rfl rfl (by decide) (by decide) (by decide)) (O.gq rfl (Pu.load rfl pl2 rfl (Ld.blk 0 rfl rfl)) (O.gq rfl (Pu.indexArr 2 2 rfl ut57 sz2 rfl rfl (by decide) (by decide) (by decide)) (O.gq rfl (Pu.load rfl pl2 rfl (Ld.blk 0 rfl rfl)) (O.gq rfl (Pu.lss rfl rfl rfl) (O.m rfl (O.m rfl (O.splitD 22 rfl (fun c3 => ?_) (fun c3 => ?_))))))))
   ·exact O.gq rfl (Pu.indexArr 2 2 rfl ut57 sz2 rfl rfl (by decide) (by decide) (by decide)) (O.gq rfl (Pu.load rfl pl2 rfl (Ld.blk 0 rfl rfl)) (O.gm rfl (O.gq rfl (Pu.lss rfl rfl rfl) (O.m rfl (O.m rfl (Ze (X.ret1 rfl rfl (fun w hw => St.retP (boolD ⟨fun h => ⟨c1, c2, c3, h⟩, fun h => h.2.2.2⟩) hw))))))))
   ·exact O.g rfl (O.g rfl (O.g rfl (O.g rfl (O.m rfl (O.m rfl (Ze (X.ret1 rfl rfl (fun w hw => St.retP (boolF (fun h => c3 h.2.2.1)) hw))))))))
  ·refine O.g rfl (O.g rfl (O.g rfl (O.g rfl (O.g rfl (O.m rfl (O.m rfl (O.g rfl (O.g rfl (O.g rfl (O.g rfl (O.m rfl ?_)))))))))))
   exact O.m rfl (Ze (X.ret1 rfl rfl (fun w hw => St.retP (boolF (fun h => c2 h.2.1)) hw)))
 ·refine O.g rfl (O.g rfl (O.g rfl (O.g rfl (O.g rfl (O.m rfl (O.m rfl (O.g rfl (O.g rfl (O.g rfl (O.g rfl (O.g rfl ?_)))))))))))
  exact O.m rfl (O.m rfl (O.g rfl (O.g rfl (O.g rfl (O.g rfl (O.m rfl (O.m rfl (Ze (X.ret1 rfl rfl (fun w hw => St.retP (boolF (fun h => c1 h.1)) hw))))))))))
set_option maxRecDepth 100000 in
theorem l01Before_ok (a b : B3) (w : World) : Does Try.prog 32 [B3.v a, B3.v b] w [] (fun v => [.pur (v = .bool (decide (B3.lt a b)))]) := by
 refine Does.enter Try.func32 rfl rfl [(0, B3.v a), (1, B3.v b)] rfl (Za (O.f rfl (Ef.box rfl rfl rfl) ?_))
 rintro _ _ ⟨b1, rfl, rfl⟩
 refine O.f rfl (Ef.box rfl rfl rfl) ?_
 rintro _ _ ⟨b2, rfl, rfl⟩
 refine O.m rfl (Zc (O.m rfl (Zi (V.unroll 3 (Vs ?_)))))
 refine Za (O.m rfl (O.q rfl (Pu.isT (by decide) (Pu.lss rfl rfl rfl)) (Zf (V.condT rfl (Vk (Xn (Vs (Vb (Vs ?_)))))))))
 refine V.draw mo (by kernel_rfl) (fun hwf => D.m 0 rfl (D.q 1 rfl (Pu.indexArr 0 0 rfl ut57 sz2 rfl rfl (by decide) (by decide) (by decide)) (D.q 2 rfl (Pu.load rfl pl2 rfl (Ld.blk 1 rfl rfl)) (D.m 3 rfl (D.q 4 rfl (Pu.indexArr 0 0 rfl ut57 sz2 rfl rfl (by decide) (by decide) (by decide)) (D.q 5 rfl (Pu.load rfl pl2 rfl (Ld.blk 0 rfl rfl)) (D.q 6 rfl (Pu.neq rfl rfl rfl) (D.done hwf rfl (Xn (V.condNot rfl (fun c1 => ?_) (fun c1 => ?_)))))))))))
 ·refine Vs (V.ent (Ent.cons (t := 2) rfl (Ent.cons (t := 3) rfl (Ent.cons (t := 5) rfl (Ent.nil _)))) (V.draw mo (by kernel_rfl) (fun hwf => D.m 0 rfl (D.q 1 rfl (Pu.indexArr 0 0 rfl ut57 sz2 rfl rfl (by decide) (by decide) (by decide)) (D.q 2 rfl (Pu.load rfl pl2 rfl (Ld.blk 1 rfl rfl)) (D.m 3 rfl (D.q 4 rfl (Pu.indexArr 0 0 rfl ut57 sz2 rfl rfl (by decide) (by decide) (by decide)) (D.q 5 rfl (Pu.load rfl pl2 rfl (Ld.blk 0 rfl rfl)) (D.q 6 rfl (Pu.lss rfl rfl rfl) (D.m 7 rfl (D.done hwf rfl ?_)))))))))))
  exact Xn (Vt (Xq (Xr (Xr (Xq (Xr (X.ret1 rfl rfl (fun w hw => St.retP (boolD (by unfold B3.lt; omega)) hw))))))))
 ·refine Zg (O.m rfl (O.q rfl (Pu.add64 (r := 1) (by decide) (by decide) rfl rfl rfl) (O.m rfl (On (X.again 2 (Zj ?_))))))
  refine O.m rfl (O.q rfl (Pu.isT (by decide) (Pu.lss rfl rfl rfl)) (Zf (V.condT rfl (Vk (Xn (Vs (Vb (Vs (V.ent (Ent.cons (t := 2) rfl (Ent.cons (t := 3) rfl (Ent.cons (t := 4) rfl (Ent.cons (t := 5) rfl (Ent.nil _))))) (V.draw mo (by kernel_rfl) (fun hwf => ?_)))))))))))
  refine D.m 0 rfl (D.q 1 rfl (Pu.indexArr 1 1 rfl ut57 sz2 rfl rfl (by decide) (by decide) (by decide)) (D.q 2 rfl (Pu.load rfl pl2 rfl (Ld.blk 1 rfl rfl)) (D.m 3 rfl (D.q 4 rfl (Pu.indexArr 1 1 rfl ut57 sz2 rfl rfl (by decide) (by decide) (by decide)) (D.q 5 rfl (Pu.load rfl pl2 rfl (Ld.blk 0 rfl rfl)) (D.q 6 rfl (Pu.neq rfl rfl rfl) (D.done hwf rfl (Xn (V.condNot rfl (fun c2 => ?_) (fun c2 => ?_))))))))))
  ·refine Vs (V.ent (Ent.cons (t := 2) rfl (Ent.cons (t := 3) rfl (Ent.cons (t := 5) rfl (Ent.nil _)))) (V.draw mo (by kernel_rfl) (fun hwf => D.m 0 rfl (D.q 1 rfl (Pu.indexArr 1 1 rfl ut57 sz2 rfl rfl (by decide) (by decide) (by decide)) (D.q 2 rfl (Pu.load rfl pl2 rfl (Ld.blk 1 rfl rfl)) (D.m 3 rfl (D.q 4 rfl (Pu.indexArr 1 1 rfl ut57 sz2 rfl rfl (by decide) (by decide) (by decide)) (D.q 5 rfl (Pu.load rfl pl2 rfl (Ld.blk 0 rfl rfl)) (D.q 6 rfl (Pu.lss rfl rfl rfl) (D.m 7 rfl (D.done hwf rfl ?_)))))))))))
   exact Xn (Vt (Xq (Xr (Xr (Xq (Xr (X.ret1 rfl rfl (fun w hw => St.retP (boolD (by unfold B3.lt; omega)) hw))))))))
  ·refine Zg (O.m rfl (O.q rfl (Pu.add64 (r := 2) (by decide) (by decide) rfl rfl rfl) (O.m rfl (On (X.again 1 (Zj ?_))))))
   refine O.m rfl (O.q rfl (Pu.isT (by decide) (Pu.lss rfl rfl rfl)) (Zf (V.condT rfl (Vk (Xn (Vs (Vb (Vs (V.ent (Ent.cons (t := 2) rfl (Ent.cons (t := 3) rfl (Ent.cons (t := 4) rfl (Ent.cons (t := 5) rfl (Ent.nil _))))) (V.draw mo (by kernel_rfl) (fun hwf => ?_)))))))))))
   refine D.m 0 rfl (D.q 1 rfl (Pu.indexArr 2 2 rfl ut57 sz2 rfl rfl (by decide) (by decide) (by decide)) (D.q 2 rfl (Pu.load rfl pl2 rfl (Ld.blk 1 rfl rfl)) (D.m 3 rfl (D.q 4 rfl (Pu.indexArr 2 2 rfl ut57 sz2 rfl rfl (by decide) (by decide) (by decide)) (D.q 5 rfl (Pu.load rfl pl2 rfl (Ld.blk 0 rfl rfl)) (D.q 6 rfl (Pu.neq rfl rfl rfl) (D.done hwf rfl (Xn (V.condNot rfl (fun c3 => ?_) (fun c3 => ?_))))))))))
   ·refine Vs (V.ent (Ent.cons (t := 2) rfl (Ent.cons (t := 3) rfl (Ent.cons (t := 5) rfl (Ent.nil _)))) (V.draw mo (by kernel_rfl) (fun hwf => D.m 0 rfl (D.q 1 rfl (Pu.indexArr 2 2 rfl ut57 sz2 rfl rfl (by decide) (by decide) (by decide)) (D.q 2 rfl (Pu.load rfl pl2 rfl (Ld.blk 1 rfl rfl)) (D.m 3 rfl (D.q 4 rfl (Pu.indexArr 2 2 rfl ut57 sz2 rfl rfl (by decide) (by decide) (by decide)) (D.q 5 rfl (Pu.load rfl pl2 rfl (Ld.blk 0 rfl rfl)) (D.q 6 rfl (Pu.lss rfl rfl rfl) (D.m 7 rfl (D.done hwf rfl ?_)))))))))))
    exact Xn (Vt (Xq (Xr (Xr (Xq (Xr (X.ret1 rfl rfl (fun w hw => St.retP (boolD (by unfold B3.lt; omega)) hw))))))))
   ·refine Zg (O.m rfl (O.q rfl (Pu.add64 (r := 3) (by decide) (by decide) rfl rfl rfl) (O.m rfl (On (X.again 0 (Zj ?_))))))
    refine O.m rfl (O.q rfl (Pu.isF (by decide) (Pu.lss rfl rfl rfl)) (Zf (V.condF rfl (Zd ?_))))
    exact O.m rfl (Ze (X.ret1 rfl rfl (fun w hw => St.retP (boolF (by unfold B3.lt; omega)) hw)))
set_option maxRecDepth 100000 in
theorem l01Common_ok (a b : B3) (w : World) : Does Try.prog 45 [B3.v a, B3.v b] w [] (fun v => [.pur (v = .int .i64 (common a b))]) := by
 refine Does.enter Try.func45 rfl rfl [(0, B3.v a), (1, B3.v b)] rfl (Za (O.f rfl (Ef.box rfl rfl rfl) ?_))
 rintro _ _ ⟨b1, rfl, rfl⟩
 refine O.f rfl (Ef.box rfl rfl rfl) ?_
 rintro _ _ ⟨b2, rfl, rfl⟩
 refine O.m rfl (Zb (O.m rfl (Zc (O.m rfl ?_))))
 refine Zi (V.unroll 3 (Zj (O.m rfl (O.q rfl (Pu.isT (by decide) (Pu.lss rfl rfl rfl)) (Zf (V.condT rfl ?_))))))
 refine Zh (O.m rfl (Zi (V.unroll 3 (Vs ?_))))
 refine Za (O.m rfl (O.q rfl (Pu.isT (by decide) (Pu.lss rfl rfl rfl)) (Zf (V.condT rfl (Vk (Xn (Vs (Vb (Vs ?_)))))))))
 refine V.draw mo (by kernel_rfl) (fun hwf => D.m 0 rfl (D.q 1 rfl (Pu.indexArr 0 0 rfl ut57 sz2 rfl rfl (by decide) (by decide) (by decide)) (D.q 2 rfl (Pu.load rfl pl2 rfl (Ld.blk 1 rfl rfl)) (D.m 3 rfl (D.q 4 rfl (Pu.indexArr 0 0 rfl ut57 sz2 rfl rfl (by decide) (by decide) (by decide)) (D.q 5 rfl (Pu.load rfl pl2 rfl (Ld.blk 0 rfl rfl)) (D.q 6 rfl (Pu.eql rfl rfl rfl) (D.done hwf rfl (Xn (V.cut2 [(5, .int .i64 ((0 : Int) + if a.1 = b.1 then 1 else 0))] (Ent.cons (t := 2) rfl (Ent.cons (t := 3) rfl (Ent.cons (t := 4) rfl (Ent.cons (t := 6) rfl (Ent.cons (t := 7) rfl (Ent.nil _)))))) (Sub.s [0,0] rfl) ?_ ?_))))))))))
 ·refine V.condD rfl (fun c1 => ?_) (fun c1 => ?_)
  ·exact Vr (O.m rfl (O.q rfl (Pu.add64 (r := 1) (by decide) (by decide) rfl rfl rfl) (O.m rfl (On (X.cut (Ent.cons' rfl (iv (by rw [if_pos c1]; try omega)) (Ent.nil _)) (Ent.cons (t := 2) rfl (Ent.cons (t := 3) rfl (Ent.cons (t := 4) rfl (Ent.cons (t := 6) rfl (Ent.cons (t := 7) rfl (Ent.nil _)))))) (Sub.s [0,0] rfl))))))
  ·exact Vk (X.cut (Ent.cons' rfl (iv (by rw [if_neg c1]; try omega)) (Ent.nil _)) (Ent.cons (t := 2) rfl (Ent.cons (t := 3) rfl (Ent.cons (t := 4) rfl (Ent.cons (t := 6) rfl (Ent.cons (t := 7) rfl (Ent.nil _)))))) (Sub.s [0,0] rfl))
 ·generalize hn1 : ((0 : Int) + if a.1 = b.1 then 1 else 0) = n1
  have bn1 : 0 ≤ n1 ∧ n1 ≤ 9 := by rw [← hn1]; split <;> omega
  refine Xb (Xn (Vr (O.m rfl (O.q rfl (Pu.add64 (r := 1) (by decide) (by decide) rfl rfl rfl) (O.m rfl (On (X.again 2 (Zj (O.m rfl ?_)))))))))
  refine O.q rfl (Pu.isT (by decide) (Pu.lss rfl rfl rfl)) (Zf (V.condT rfl (Vk (Xn (Vs (Vb (Vs (V.draw mo (by kernel_rfl) (fun hwf => D.m 0 rfl (D.q 1 rfl (Pu.indexArr 0 0 rfl ut57 sz2 rfl rfl (by decide) (by decide) (by decide)) ?_))))))))))
  refine D.q 2 rfl (Pu.load rfl pl2 rfl (Ld.blk 1 rfl rfl)) (D.m 3 rfl (D.q 4 rfl (Pu.indexArr 1 1 rfl ut57 sz2 rfl rfl (by decide) (by decide) (by decide)) (D.q 5 rfl (Pu.load rfl pl2 rfl (Ld.blk 0 rfl rfl)) (D.q 6 rfl (Pu.eql rfl rfl rfl) (D.done hwf rfl (Xn (V.cut2 [(5, .int .i64 (n1 + if a.1 = b.2.1 then 1 else 0))] (Ent.cons (t := 2) rfl (Ent.cons (t := 3) rfl (Ent.cons (t := 4) rfl (Ent.cons (t := 6) rfl (Ent.cons (t := 7) rfl (Ent.nil _)))))) (Sub.s [0,0] rfl) ?_ ?_)))))))
  ·refine V.condD rfl (fun c2 => ?_) (fun c2 => ?_)
   ·exact Vr (O.m rfl (O.q rfl (Pu.add64 rfl (by omega) rfl rfl rfl) (O.m rfl (On (X.cut (Ent.cons' rfl (iv (by rw [if_pos c2]; try omega)) (Ent.nil _)) (Ent.cons (t := 2) rfl (Ent.cons (t := 3) rfl (Ent.cons (t := 4) rfl (Ent.cons (t := 6) rfl (Ent.cons (t := 7) rfl (Ent.nil _)))))) (Sub.s [0,0] rfl))))))
   ·exact Vk (X.cut (Ent.cons' rfl (iv (by rw [if_neg c2]; try omega)) (Ent.nil _)) (Ent.cons (t := 2) rfl (Ent.cons (t := 3) rfl (Ent.cons (t := 4) rfl (Ent.cons (t := 6) rfl (Ent.cons (t := 7) rfl (Ent.nil _)))))) (Sub.s [0,0] rfl))
  ·generalize hn2 : (n1 + if a.1 = b.2.1 then 1 else 0) = n2
   have bn2 : 0 ≤ n2 ∧ n2 ≤ 9 := by rw [← hn2]; split <;> omega
   refine Xb (Xn (Vr (O.m rfl (O.q rfl (Pu.add64 (r := 2) (by decide) (by decide) rfl rfl rfl) (O.m rfl (On (X.again 1 (Zj (O.m rfl ?_)))))))))
   refine O.q rfl (Pu.isT (by decide) (Pu.lss rfl rfl rfl)) (Zf (V.condT rfl (Vk (Xn (Vs (Vb (Vs (V.draw mo (by kernel_rfl) (fun hwf => D.m 0 rfl (D.q 1 rfl (Pu.indexArr 0 0 rfl ut57 sz2 rfl rfl (by decide) (by decide) (by decide)) ?_))))))))))
   refine D.q 2 rfl (Pu.load rfl pl2 rfl (Ld.blk 1 rfl rfl)) (D.m 3 rfl (D.q 4 rfl (Pu.indexArr 2 2 rfl ut57 sz2 rfl rfl (by decide) (by decide) (by decide)) (D.q 5 rfl (Pu.load rfl pl2 rfl (Ld.blk 0 rfl rfl)) (D.q 6 rfl (Pu.eql rfl rfl rfl) (D.done hwf rfl (Xn (V.cut2 [(5, .int .i64 (n2 + if a.1 = b.2.2 then 1 else 0))] (Ent.cons (t := 2) rfl (Ent.cons (t := 3) rfl (Ent.cons (t := 4) rfl (Ent.cons (t := 6) rfl (Ent.cons (t := 7) rfl (Ent.nil _)))))) (Sub.s [0,0] rfl) ?_ ?_)))))))
   ·refine V.condD rfl (fun c3 => ?_) (fun c3 => ?_)
    ·exact Vr (O.m rfl (O.q rfl (Pu.add64 rfl (by omega) rfl rfl rfl) (O.m rfl (On (X.cut (Ent.cons' rfl (iv (by rw [if_pos c3]; try omega)) (Ent.nil _)) (Ent.cons (t := 2) rfl (Ent.cons (t := 3) rfl (Ent.cons (t := 4) rfl (Ent.cons (t := 6) rfl (Ent.cons (t := 7) rfl (Ent.nil _)))))) (Sub.s [0,0] rfl))))))
    ·exact Vk (X.cut (Ent.cons' rfl (iv (by rw [if_neg c3]; try omega)) (Ent.nil _)) (Ent.cons (t := 2) rfl (Ent.cons (t := 3) rfl (Ent.cons (t := 4) rfl (Ent.cons (t := 6) rfl (Ent.cons (t := 7) rfl (Ent.nil _)))))) (Sub.s [0,0] rfl))
   ·generalize hn3 : (n2 + if a.1 = b.2.2 then 1 else 0) = n3
    have bn3 : 0 ≤ n3 ∧ n3 ≤ 9 := by rw [← hn3]; split <;> omega
    refine Xb (Xn (Vr (O.m rfl (O.q rfl (Pu.add64 (r := 3) (by decide) (by decide) rfl rfl rfl) (O.m rfl (On (X.again 0 (Zj (O.m rfl ?_)))))))))
    refine O.q rfl (Pu.isF (by decide) (Pu.lss rfl rfl rfl)) (Zf (V.condF rfl (Ve (Xe (Xe (Xh (Xb (Xn (Vr (O.m rfl ?_))))))))))
    refine O.q rfl (Pu.add64 (r := 1) (by decide) (by decide) rfl rfl rfl) (O.m rfl (On (X.again 2 (Zj (O.m rfl (O.q rfl (Pu.isT (by decide) (Pu.lss rfl rfl rfl)) (Zf (V.condT rfl ?_))))))))
    refine Zh (O.m rfl (Zi (V.unroll 3 (Vs ?_))))
    refine Za (O.m rfl (O.q rfl (Pu.isT (by decide) (Pu.lss rfl rfl rfl)) (Zf (V.condT rfl (Vk (Xn (Vs (Vb (Vs ?_)))))))))
    refine V.draw mo (by kernel_rfl) (fun hwf => D.m 0 rfl (D.q 1 rfl (Pu.indexArr 1 1 rfl ut57 sz2 rfl rfl (by decide) (by decide) (by decide)) (D.q 2 rfl (Pu.load rfl pl2 rfl (Ld.blk 1 rfl rfl)) (D.m 3 rfl (D.q 4 rfl (Pu.indexArr 0 0 rfl ut57 sz2 rfl rfl (by decide) (by decide) (by decide)) (D.q 5 rfl (Pu.load rfl pl2 rfl (Ld.blk 0 rfl rfl)) (D.q 6 rfl (Pu.eql rfl rfl rfl) (D.done hwf rfl (Xn (V.cut2 [(5, .int .i64 (n3 + if a.2.1 = b.1 then 1 else 0))] (Ent.cons (t := 2) rfl (Ent.cons (t := 3) rfl (Ent.cons (t := 4) rfl (Ent.cons (t := 6) rfl (Ent.cons (t := 7) rfl (Ent.nil _)))))) (Sub.s [0,0] rfl) ?_ ?_))))))))))
    ·refine V.condD rfl (fun c4 => ?_) (fun c4 => ?_)
     ·exact Vr (O.m rfl (O.q rfl (Pu.add64 rfl (by omega) rfl rfl rfl) (O.m rfl (On (X.cut (Ent.cons' rfl (iv (by rw [if_pos c4]; try omega)) (Ent.nil _)) (Ent.cons (t := 2) rfl (Ent.cons (t := 3) rfl (Ent.cons (t := 4) rfl (Ent.cons (t := 6) rfl (Ent.cons (t := 7) rfl (Ent.nil _)))))) (Sub.s [0,0] rfl))))))
     ·exact Vk (X.cut (Ent.cons' rfl (iv (by rw [if_neg c4]; try omega)) (Ent.nil _)) (Ent.cons (t := 2) rfl (Ent.cons (t := 3) rfl (Ent.cons (t := 4) rfl (Ent.cons (t := 6) rfl (Ent.cons (t := 7) rfl (Ent.nil _)))))) (Sub.s [0,0] rfl))
    ·generalize hn4 : (n3 + if a.2.1 = b.1 then 1 else 0) = n4
     have bn4 : 0 ≤ n4 ∧ n4 ≤ 9 := by rw [← hn4]; split <;> omega
     refine Xb (Xn (Vr (O.m rfl (O.q rfl (Pu.add64 (r := 1) (by decide) (by decide) rfl rfl rfl) (O.m rfl (On (X.again 2 (Zj (O.m rfl ?_)))))))))
     refine O.q rfl (Pu.isT (by decide) (Pu.lss rfl rfl rfl)) (Zf (V.condT rfl (Vk (Xn (Vs (Vb (Vs (V.draw mo (by kernel_rfl) (fun hwf => D.m 0 rfl (D.q 1 rfl (Pu.indexArr 1 1 rfl ut57 sz2 rfl rfl (by decide) (by decide) (by decide)) ?_))))))))))
     refine D.q 2 rfl (Pu.load rfl pl2 rfl (Ld.blk 1 rfl rfl)) (D.m 3 rfl (D.q 4 rfl (Pu.indexArr 1 1 rfl ut57 sz2 rfl rfl (by decide) (by decide) (by decide)) (D.q 5 rfl (Pu.load rfl pl2 rfl (Ld.blk 0 rfl rfl)) (D.q 6 rfl (Pu.eql rfl rfl rfl) (D.done hwf rfl (Xn (V.cut2 [(5, .int .i64 (n4 + if a.2.1 = b.2.1 then 1 else 0))] (Ent.cons (t := 2) rfl (Ent.cons (t := 3) rfl (Ent.cons (t := 4) rfl (Ent.cons (t := 6) rfl (Ent.cons (t := 7) rfl (Ent.nil _)))))) (Sub.s [0,0] rfl) ?_ ?_)))))))
     ·refine V.condD rfl (fun c5 => ?_) (fun c5 => ?_)
      ·exact Vr (O.m rfl (O.q rfl (Pu.add64 rfl (by omega) rfl rfl rfl) (O.m rfl (On (X.cut (Ent.cons' rfl (iv (by rw [if_pos c5]; try omega)) (Ent.nil _)) (Ent.cons (t := 2) rfl (Ent.cons (t := 3) rfl (Ent.cons (t := 4) rfl (Ent.cons (t := 6) rfl (Ent.cons (t := 7) rfl (Ent.nil _)))))) (Sub.s [0,0] rfl))))))
      ·exact Vk (X.cut (Ent.cons' rfl (iv (by rw [if_neg c5]; try omega)) (Ent.nil _)) (Ent.cons (t := 2) rfl (Ent.cons (t := 3) rfl (Ent.cons (t := 4) rfl (Ent.cons (t := 6) rfl (Ent.cons (t := 7) rfl (Ent.nil _)))))) (Sub.s [0,0] rfl))
     ·generalize hn5 : (n4 + if a.2.1 = b.2.1 then 1 else 0) = n5
      have bn5 : 0 ≤ n5 ∧ n5 ≤ 9 := by rw [← hn5]; split <;> omega
      refine Xb (Xn (Vr (O.m rfl (O.q rfl (Pu.add64 (r := 2) (by decide) (by decide) rfl rfl rfl) (O.m rfl (On (X.again 1 (Zj (O.m rfl ?_)))))))))
      refine O.q rfl (Pu.isT (by decide) (Pu.lss rfl rfl rfl)) (Zf (V.condT rfl (Vk (Xn (Vs (Vb (Vs (V.draw mo (by kernel_rfl) (fun hwf => D.m 0 rfl (D.q 1 rfl (Pu.indexArr 1 1 rfl ut57 sz2 rfl rfl (by decide) (by decide) (by decide)) ?_))))))))))
      refine D.q 2 rfl (Pu.load rfl pl2 rfl (Ld.blk 1 rfl rfl)) (D.m 3 rfl (D.q 4 rfl (Pu.indexArr 2 2 rfl ut57 sz2 rfl rfl (by decide) (by decide) (by decide)) (D.q 5 rfl (Pu.load rfl pl2 rfl (Ld.blk 0 rfl rfl)) (D.q 6 rfl (Pu.eql rfl rfl rfl) (D.done hwf rfl (Xn (V.cut2 [(5, .int .i64 (n5 + if a.2.1 = b.2.2 then 1 else 0))] (Ent.cons (t := 2) rfl (Ent.cons (t := 3) rfl (Ent.cons (t := 4) rfl (Ent.cons (t := 6) rfl (Ent.cons (t := 7) rfl (Ent.nil _)))))) (Sub.s [0,0] rfl) ?_ ?_)))))))
      ·refine V.condD rfl (fun c6 => ?_) (fun c6 => ?_)
       ·exact Vr (O.m rfl (O.q rfl (Pu.add64 rfl (by omega) rfl rfl rfl) (O.m rfl (On (X.cut (Ent.cons' rfl (iv (by rw [if_pos c6]; try omega)) (Ent.nil _)) (Ent.cons (t := 2) rfl (Ent.cons (t := 3) rfl (Ent.cons (t := 4) rfl (Ent.cons (t := 6) rfl (Ent.cons (t := 7) rfl (Ent.nil _)))))) (Sub.s [0,0] rfl))))))
       ·exact Vk (X.cut (Ent.cons' rfl (iv (by rw [if_neg c6]; try omega)) (Ent.nil _)) (Ent.cons (t := 2) rfl (Ent.cons (t := 3) rfl (Ent.cons (t := 4) rfl (Ent.cons (t := 6) rfl (Ent.cons (t := 7) rfl (Ent.nil _)))))) (Sub.s [0,0] rfl))
      ·generalize hn6 : (n5 + if a.2.1 = b.2.2 then 1 else 0) = n6
       have bn6 : 0 ≤ n6 ∧ n6 ≤ 9 := by rw [← hn6]; split <;> omega
       refine Xb (Xn (Vr (O.m rfl (O.q rfl (Pu.add64 (r := 3) (by decide) (by decide) rfl rfl rfl) (O.m rfl (On (X.again 0 (Zj (O.m rfl ?_)))))))))
       refine O.q rfl (Pu.isF (by decide) (Pu.lss rfl rfl rfl)) (Zf (V.condF rfl (Ve (Xe (Xe (Xh (Xb (Xn (Vr (O.m rfl ?_))))))))))
       refine O.q rfl (Pu.add64 (r := 2) (by decide) (by decide) rfl rfl rfl) (O.m rfl (On (X.again 1 (Zj (O.m rfl (O.q rfl (Pu.isT (by decide) (Pu.lss rfl rfl rfl)) (Zf (V.condT rfl ?_))))))))
       refine Zh (O.m rfl (Zi (V.unroll 3 (Vs ?_))))
       refine Za (O.m rfl (O.q rfl (Pu.isT (by decide) (Pu.lss rfl rfl rfl)) (Zf (V.condT rfl (Vk (Xn (Vs (Vb (Vs ?_)))))))))
       refine V.draw mo (by kernel_rfl) (fun hwf => D.m 0 rfl (D.q 1 rfl (Pu.indexArr 2 2 rfl ut57 sz2 rfl rfl (by decide) (by decide) (by decide)) (D.q 2 rfl (Pu.load rfl pl2 rfl (Ld.blk 1 rfl rfl)) (D.m 3 rfl (D.q 4 rfl (Pu.indexArr 0 0 rfl ut57 sz2 rfl rfl (by decide) (by decide) (by decide)) (D.q 5 rfl (Pu.load rfl pl2 rfl (Ld.blk 0 rfl rfl)) (D.q 6 rfl (Pu.eql rfl rfl rfl) (D.done hwf rfl (Xn (V.cut2 [(5, .int .i64 (n6 + if a.2.2 = b.1 then 1 else 0))] (Ent.cons (t := 2) rfl (Ent.cons (t := 3) rfl (Ent.cons (t := 4) rfl (Ent.cons (t := 6) rfl (Ent.cons (t := 7) rfl (Ent.nil _)))))) (Sub.s [0,0] rfl) ?_ ?_))))))))))
       ·refine V.condD rfl (fun c7 => ?_) (fun c7 => ?_)
        ·exact Vr (O.m rfl (O.q rfl (Pu.add64 rfl (by omega) rfl rfl rfl) (O.m rfl (On (X.cut (Ent.cons' rfl (iv (by rw [if_pos c7]; try omega)) (Ent.nil _)) (Ent.cons (t := 2) rfl (Ent.cons (t := 3) rfl (Ent.cons (t := 4) rfl (Ent.cons (t := 6) rfl (Ent.cons (t := 7) rfl (Ent.nil _)))))) (Sub.s [0,0] rfl))))))
        ·exact Vk (X.cut (Ent.cons' rfl (iv (by rw [if_neg c7]; try omega)) (Ent.nil _)) (Ent.cons (t := 2) rfl (Ent.cons (t := 3) rfl (Ent.cons (t := 4) rfl (Ent.cons (t := 6) rfl (Ent.cons (t := 7) rfl (Ent.nil _)))))) (Sub.s [0,0] rfl))
       ·generalize hn7 : (n6 + if a.2.2 = b.1 then 1 else 0) = n7
        have bn7 : 0 ≤ n7 ∧ n7 ≤ 9 := by rw [← hn7]; split <;> omega
        refine Xb (Xn (Vr (O.m rfl (O.q rfl (Pu.add64 (r := 1) (by decide) (by decide) rfl rfl rfl) (O.m rfl (On (X.again 2 (Zj (O.m rfl ?_)))))))))
        refine O.q rfl (Pu.isT (by decide) (Pu.lss rfl rfl rfl)) (Zf (V.condT rfl (Vk (Xn (Vs (Vb (Vs (V.draw mo (by kernel_rfl) (fun hwf => D.m 0 rfl (D.q 1 rfl (Pu.indexArr 2 2 rfl ut57 sz2 rfl rfl (by decide) (by decide) (by decide)) ?_))))))))))
        refine D.q 2 rfl (Pu.load rfl pl2 rfl (Ld.blk 1 rfl rfl)) (D.m 3 rfl (D.q 4 rfl (Pu.indexArr 1 1 rfl ut57 sz2 rfl rfl (by decide) (by decide) (by decide)) (D.q 5 rfl (Pu.load rfl pl2 rfl (Ld.blk 0 rfl rfl)) (D.q 6 rfl (Pu.eql rfl rfl rfl) (D.done hwf rfl (Xn (V.cut2 [(5, .int .i64 (n7 + if a.2.2 = b.2.1 then 1 else 0))] (Ent.cons (t := 2) rfl (Ent.cons (t := 3) rfl (Ent.cons (t := 4) rfl (Ent.cons (t := 6) rfl (Ent.cons (t := 7) rfl (Ent.nil _)))))) (Sub.s [0,0] rfl) ?_ ?_)))))))
        ·refine V.condD rfl (fun c8 => ?_) (fun c8 => ?_)
         ·exact Vr (O.m rfl (O.q rfl (Pu.add64 rfl (by omega) rfl rfl rfl) (O.m rfl (On (X.cut (Ent.cons' rfl (iv (by rw [if_pos c8]; try omega)) (Ent.nil _)) (Ent.cons (t := 2) rfl (Ent.cons (t := 3) rfl (Ent.cons (t := 4) rfl (Ent.cons (t := 6) rfl (Ent.cons (t := 7) rfl (Ent.nil _)))))) (Sub.s [0,0] rfl))))))
         ·exact Vk (X.cut (Ent.cons' rfl (iv (by rw [if_neg c8]; try omega)) (Ent.nil _)) (Ent.cons (t := 2) rfl (Ent.cons (t := 3) rfl (Ent.cons (t := 4) rfl (Ent.cons (t := 6) rfl (Ent.cons (t := 7) rfl (Ent.nil _)))))) (Sub.s [0,0] rfl))
        ·generalize hn8 : (n7 + if a.2.2 = b.2.1 then 1 else 0) = n8
         have bn8 : 0 ≤ n8 ∧ n8 ≤ 9 := by rw [← hn8]; split <;> omega
         refine Xb (Xn (Vr (O.m rfl (O.q rfl (Pu.add64 (r := 2) (by decide) (by decide) rfl rfl rfl) (O.m rfl (On (X.again 1 (Zj (O.m rfl ?_)))))))))
         refine O.q rfl (Pu.isT (by decide) (Pu.lss rfl rfl rfl)) (Zf (V.condT rfl (Vk (Xn (Vs (Vb (Vs (V.draw mo (by kernel_rfl) (fun hwf => D.m 0 rfl (D.q 1 rfl (Pu.indexArr 2 2 rfl ut57 sz2 rfl rfl (by decide) (by decide) (by decide)) ?_))))))))))
         refine D.q 2 rfl (Pu.load rfl pl2 rfl (Ld.blk 1 rfl rfl)) (D.m 3 rfl (D.q 4 rfl (Pu.indexArr 2 2 rfl ut57 sz2 rfl rfl (by decide) (by decide) (by decide)) (D.q 5 rfl (Pu.load rfl pl2 rfl (Ld.blk 0 rfl rfl)) (D.q 6 rfl (Pu.eql rfl rfl rfl) (D.done hwf rfl (Xn (V.cut2 [(5, .int .i64 (n8 + if a.2.2 = b.2.2 then 1 else 0))] (Ent.cons (t := 2) rfl (Ent.cons (t := 3) rfl (Ent.cons (t := 4) rfl (Ent.cons (t := 6) rfl (Ent.cons (t := 7) rfl (Ent.nil _)))))) (Sub.s [0,0] rfl) ?_ ?_)))))))
         ·refine V.condD rfl (fun c9 => ?_) (fun c9 => ?_)
          ·exact Vr (O.m rfl (O.q rfl (Pu.add64 rfl (by omega) rfl rfl rfl) (O.m rfl (On (X.cut (Ent.cons' rfl (iv (by rw [if_pos c9]; try omega)) (Ent.nil _)) (Ent.cons (t := 2) rfl (Ent.cons (t := 3) rfl (Ent.cons (t := 4) rfl (Ent.cons (t := 6) rfl (Ent.cons (t := 7) rfl (Ent.nil _)))))) (Sub.s [0,0] rfl))))))
          ·exact Vk (X.cut (Ent.cons' rfl (iv (by rw [if_neg c9]; try omega)) (Ent.nil _)) (Ent.cons (t := 2) rfl (Ent.cons (t := 3) rfl (Ent.cons (t := 4) rfl (Ent.cons (t := 6) rfl (Ent.cons (t := 7) rfl (Ent.nil _)))))) (Sub.s [0,0] rfl))
         ·generalize hn9 : (n8 + if a.2.2 = b.2.2 then 1 else 0) = n9
          have bn9 : 0 ≤ n9 ∧ n9 ≤ 9 := by rw [← hn9]; split <;> omega
          refine Xb (Xn (Vr (O.m rfl (O.q rfl (Pu.add64 (r := 3) (by decide) (by decide) rfl rfl rfl) (O.m rfl (On (X.again 0 (Zj (O.m rfl ?_)))))))))
          refine O.q rfl (Pu.isF (by decide) (Pu.lss rfl rfl rfl)) (Zf (V.condF rfl (Ve (Xe (Xe (Xh (Xb (Xn (Vr (O.m rfl ?_))))))))))
          refine O.q rfl (Pu.add64 (r := 3) (by decide) (by decide) rfl rfl rfl) (O.m rfl (On (X.again 0 (Zj (O.m rfl (O.q rfl (Pu.isF (by decide) (Pu.lss rfl rfl rfl)) (Zf (V.condF rfl ?_))))))))
          refine Zd (O.m rfl (O.m rfl (Ze ?_)))
          exact X.ret1 rfl rfl (fun w hw => St.retP (iv (by subst_vars; rfl)) hw)
set_option maxRecDepth 100000 in
theorem l01Fits_ok (bs : List B3) (A : Option Addr) (c : Nat) (w : World) (hx : Rd B3C w A bs) (lx : bs.length ≤ 4611686018427387904) : Does Try.prog 33 [.slice A bs.length c] w [] (fun v => [.pur (v = .bool (decide (fitsAt bs bs.length)))]) := by
 refine Does.enter Try.func33 rfl rfl [(0, .slice A bs.length c)] rfl (Za (O.m rfl (Zc (O.m rfl (Zf ?_)))))
 refine Vb (V.loop2 (β := Nat) (fun i => [(3, .int .i64 (i : Int))]) _ (fun i => []) (fun i => i ≤ bs.length ∧ fitsAt bs i) (fun i => bs.length - i) 0 ⟨by omega, fitsAt_zero bs⟩ (Ent.cons rfl (Ent.nil _)) (Ent.cons (t := 0) rfl (Ent.nil _)) (Sub.nil _) ?_)
 rintro i ⟨hi, hf⟩
 refine Zj (O.m rfl (O.m rfl (O.q rfl (Pu.len rfl ut30 rfl) (O.q rfl (Pu.lss rfl rfl rfl) (Zf (V.condD rfl (fun c1 => ?_) (fun c1 => ?_)))))))
 ·refine Zh (O.m rfl (Zi (V.loop2 (β := Nat) (fun k => [(4, .int .i64 (k : Int))]) _ (fun k => []) (fun k => k ≤ i ∧ ∀ j (hj : j < bs.length), j < k → common (bs[i]'(by omega)) bs[j] ≤ 1) (fun k => i - k) 0 ⟨by omega, fun j _ h => by omega⟩ (Ent.cons rfl (Ent.nil _)) (Ent.cons (t := 0) rfl (Ent.cons (t := 3) rfl (Ent.nil _))) (Sub.nil _) ?_)))
  rintro k ⟨hk, hg⟩
  refine Zj (O.m rfl (O.m rfl (O.q rfl (Pu.lss rfl rfl rfl) (Zf (V.condD rfl (fun c2 => ?_) (fun c2 => ?_))))))
  ·refine Vk (Xn (Vs (Vb (Vs (V.draw mo (by kernel_rfl) (fun hwf => D.m 0 rfl (D.m 1 rfl (D.q 2 rfl (Pu.indexAddr (i) rfl ut30 sz57 rfl rfl (by omega) (by omega) (hx.some (by omega))) ?_))))))))
   have e1 : i < bs.length := by omega
   refine D.q 3 rfl (Pu.loadAgg' (v := B3.v (bs[i]'e1)) rfl rfl ag57 sz57 rfl rfl (Ld.rds (Ld.old hx) (k := i) e1 rfl)) (D.m 4 rfl (D.m 5 rfl (D.q 6 rfl (Pu.indexAddr (k) rfl ut30 sz57 rfl rfl (by omega) (by omega) (hx.some (by omega))) ?_)))
   have e2 : k < bs.length := by omega
   refine D.q 7 rfl (Pu.loadAgg' (v := B3.v (bs[k]'e2)) rfl rfl ag57 sz57 rfl rfl (Ld.rds (Ld.old hx) (k := k) e2 rfl)) (D.f hwf 8 rfl (Ef.callP call45 rfl rfl (fun w hw => l01Common_ok _ _ _)) ?_)
   rintro _ _ ⟨rfl, rfl⟩ hs
   refine ⟨fun w hw => hw, (D.q 9 rfl (Pu.gtr rfl rfl rfl) (D.done hwf rfl (Xn (V.condD rfl (fun c3 => ?_) (fun c3 => ?_)))))⟩
   ·refine Za (O.m rfl (Ze (Xq (Xr (Xr (Xq (Xq (Xr ?_))))))))
    exact Xr (Xq (Xr (X.ret1 rfl rfl (fun w hw => St.retP (boolF (fun h => by have := h i (by omega) (by omega) k (by omega) (by omega); omega)) hw))))
   ·exact Zg (O.m rfl (O.q rfl (Pu.add64 (r := ((k + 1 : Nat) : Int)) rfl (by omega) rfl rfl rfl) (O.m rfl (On (X.back2 (k + 1) ⟨by omega, fun j hj e => by by_cases h : j = k; (· subst h; omega); (· exact hg j hj (by omega))⟩ (by omega) (Ent.cons rfl (Ent.nil _)) (Ent.cons (t := 0) rfl (Ent.cons (t := 3) rfl (Ent.nil _))) (Sub.nil _))))))
  ·exact Ve (Xe (Xe (Xh (Xb (Xn (Vr (O.m rfl (O.q rfl (Pu.add64 (r := ((i + 1 : Nat) : Int)) rfl (by omega) rfl rfl rfl) (O.m rfl (On (X.back2 (i + 1) ⟨by omega, fitsAt_succ (by omega) hf (fun j hj e => hg j hj (by omega))⟩ (by omega) (Ent.cons rfl (Ent.nil _)) (Ent.cons (t := 0) rfl (Ent.nil _)) (Sub.nil _))))))))))))
 ·exact Zd (O.m rfl (Ze (X.ret1 rfl rfl (fun w hw => St.retP (boolT (fitsAt_len (by omega) hf)) hw))))
set_option maxRecDepth 100000 in
theorem l01Is_ok (v : Int) (bs : List B3) (A : Option Addr) (c : Nat) (w : World) (hx : Rd B3C w A bs) (lx : bs.length ≤ 4611686018427387904) : Does Try.prog 14 [.agg #[.int .i64 v, .slice A bs.length c]] w [] (fun r => [.pur (r = .bool (decide (STS v bs)))]) := by
 refine Does.enter Try.func14 rfl rfl [(0, .agg #[.int .i64 v, .slice A bs.length c])] rfl (Za (O.f rfl (Ef.box rfl rfl rfl) ?_))
 rintro _ _ ⟨b1, rfl, rfl⟩
 refine O.m rfl (Zc (O.q rfl (Pu.fieldAddr 0 rfl ut32 rfl sz2 rfl rfl) (O.q rfl (Pu.load rfl pl2 rfl (Ld.blk 0 rfl rfl)) (O.f rfl (Ef.callP call30 rfl rfl (fun w hw => l01In_ok _ _ _ _)) ?_))))
 rintro _ _ ⟨rfl, rfl⟩
 refine O.q rfl (Pu.not rfl rfl) (O.m rfl (O.splitN 8 rfl (fun c1 => ?_) (fun c1 => ?_)))
 ·refine O.g rfl (O.g rfl (O.g rfl (O.g rfl (O.m rfl (Zf (V.condT rfl (Za (O.m rfl (On ?_)))))))))
  exact Xn (Vt (Xr (X.ret1 rfl rfl (fun w hw => St.retP (boolF (fun h => c1 ⟨h.lo, h.hi⟩)) hw))))
 ·refine O.gq rfl (Pu.fieldAddr 1 rfl ut32 rfl sz30 rfl rfl) (O.gq rfl (Pu.load rfl pl30 rfl (Ld.blk 0 rfl rfl)) (O.gq rfl (Pu.len rfl ut30 rfl) (O.gq rfl (Pu.gtr rfl rfl rfl) (O.m rfl (Zf (V.condD rfl (fun c2 => ?_) (fun c2 => ?_)))))))
  ·exact Za (O.m rfl (Ze (Xr (X.ret1 rfl rfl (fun w hw => St.retP (boolF (fun h => by have := h.few; omega)) hw)))))
  ·refine Vk (Xn (Zj (O.m rfl (Zi (V.loop3 (β := Nat) (fun i => [(3, .int .i64 (i : Int))]) _ (fun i => []) _ (fun i => i ≤ bs.length ∧ ordAt v bs i) (fun i => bs.length - i) 0 ⟨by omega, ordAt_zero v bs⟩ (Ent.cons rfl (Ent.nil _)) (Ent.cons (t := 1) rfl (Ent.nil _)) (Sub.s [0] rfl) ?_)))))
   rintro i ⟨hi, hf⟩
   refine Zj (O.m rfl (O.q rfl (Pu.fieldAddr 1 rfl ut32 rfl sz30 rfl rfl) (O.q rfl (Pu.load rfl pl30 rfl (Ld.blk 0 rfl rfl)) (O.q rfl (Pu.len rfl ut30 rfl) (O.q rfl (Pu.lss rfl rfl rfl) (Zf (V.condD rfl (fun c3 => ?_) (fun c3 => ?_))))))))
   ·refine Vk (Xn (Vs (Vb (Vs (V.draw mo (by kernel_rfl) (fun hwf => D.q 0 rfl (Pu.fieldAddr 0 rfl ut32 rfl sz2 rfl rfl) (D.q 1 rfl (Pu.load rfl pl2 rfl (Ld.blk 0 rfl rfl)) (D.q 2 rfl (Pu.fieldAddr 1 rfl ut32 rfl sz30 rfl rfl) (D.q 3 rfl (Pu.load rfl pl30 rfl (Ld.blk 0 rfl rfl)) (D.m 4 rfl (D.q 5 rfl (Pu.indexAddr (i) rfl ut30 sz57 rfl rfl (by omega) (by omega) (hx.some (by omega))) ?_)))))))))))
    have e1 : i < bs.length := by omega
    refine D.q 6 rfl (Pu.loadAgg' (v := B3.v (bs[i]'e1)) rfl rfl ag57 sz57 rfl rfl (Ld.rds (Ld.old hx) (k := i) e1 rfl)) (D.f hwf 7 rfl (Ef.callP call31 rfl rfl (fun w hw => l01Good_ok _ _ _)) ?_)
    rintro _ _ ⟨rfl, rfl⟩ hs
    refine ⟨fun w hw => hw, (D.q 8 rfl (Pu.not rfl rfl) (D.m 9 rfl (D.splitN 30 rfl (fun c4 => ?_) (fun c4 => ?_))))⟩
    ·refine D.g 10 rfl (D.g 11 rfl (D.g 12 rfl (D.g 13 rfl (D.g 14 rfl (D.g 15 rfl (D.g 16 rfl (D.g 17 rfl (D.g 18 rfl (D.g 19 rfl (D.g 20 rfl (D.g 21 rfl ?_)))))))))))
     refine D.g 22 rfl (D.g 23 rfl (D.g 24 rfl (D.g 25 rfl (D.g 26 rfl (D.m 27 rfl (D.done hwf rfl (Xn (V.condT rfl (Za (O.m rfl ?_))))))))))
     exact Ze (Xq (Xr (Xr (Xq (Xr (X.ret1 rfl rfl (fun w hw => St.retP (boolF (fun h => c4 (h.ord i (by omega) (by omega)).1)) hw)))))))
    ·refine D.gm 10 rfl (D.gq 11 rfl (Pu.gtr rfl rfl rfl) (D.gm 12 rfl (D.splitD 33 rfl (fun c5 => ?_) (fun c5 => ?_))))
     ·refine D.gq 13 rfl (Pu.fieldAddr 1 rfl ut32 rfl sz30 rfl rfl) (D.gq 14 rfl (Pu.load rfl pl30 rfl (Ld.blk 0 rfl rfl)) (D.gm 15 rfl (D.gq 16 rfl (Pu.sub64 (r := ((i - 1 : Nat) : Int)) (by omega) (by omega) rfl rfl rfl) (D.gq 17 rfl (Pu.indexAddr (i - 1) rfl ut30 sz57 rfl rfl (by omega) (by omega) (hx.some (by omega))) ?_))))
      have e2 : i - 1 < bs.length := by omega
      refine D.gq 18 rfl (Pu.loadAgg' (v := B3.v (bs[i - 1]'e2)) rfl rfl ag57 sz57 rfl rfl (Ld.rds (Ld.old hx) (k := i - 1) e2 rfl)) (D.gq 19 rfl (Pu.fieldAddr 1 rfl ut32 rfl sz30 rfl rfl) (D.gq 20 rfl (Pu.load rfl pl30 rfl (Ld.blk 0 rfl rfl)) (D.gm 21 rfl (D.gq 22 rfl (Pu.indexAddr (i) rfl ut30 sz57 rfl rfl (by omega) (by omega) (hx.some (by omega))) (D.gq 23 rfl (Pu.loadAgg' (v := B3.v (bs[i]'e1)) rfl rfl ag57 sz57 rfl rfl (Ld.rds (Ld.old hx) (k := i) e1 rfl)) (D.geff hwf (e := 24) rfl rfl rfl rfl rfl rfl (Ef.callP call32 rfl rfl (fun w hw => l01Before_ok _ _ _)) rfl rfl rfl ?_))))))
      rintro _ _ ⟨rfl, rfl⟩ hs
      refine ⟨fun w hw => hw, (D.gq 25 rfl (Pu.not rfl rfl) (D.gm 26 rfl (D.m 27 rfl (D.done hwf rfl (Xn (V.condNot rfl (fun c6 => ?_) (fun c6 => ?_)))))))⟩
      ·exact Za (O.m rfl (Ze (Xq (Xr (Xr (Xq (Xr (X.ret1 rfl rfl (fun w hw => St.retP (boolF (fun h => c6 ((h.ord i (by omega) (by omega)).2 (i - 1) (by omega) (by omega)))) hw)))))))))
      ·exact Zg (O.m rfl (O.q rfl (Pu.add64 (r := ((i + 1 : Nat) : Int)) rfl (by omega) rfl rfl rfl) (O.m rfl (On (X.back3 (i + 1) ⟨by omega, ordAt_succ (by omega) hf (by assumption) (fun j hj e => by subst e; assumption)⟩ (by omega) (Ent.cons rfl (Ent.nil _)) (Ent.cons (t := 1) rfl (Ent.nil _)) (Sub.s [0] rfl))))))
     ·refine D.g 13 rfl (D.g 14 rfl (D.g 15 rfl (D.g 16 rfl (D.g 17 rfl (D.g 18 rfl (D.g 19 rfl (D.g 20 rfl (D.g 21 rfl (D.g 22 rfl (D.g 23 rfl (D.g 24 rfl ?_)))))))))))
      refine D.g 25 rfl (D.gm 26 rfl (D.m 27 rfl (D.done hwf rfl (Xn (V.condF rfl (Zg (O.m rfl (O.q rfl (Pu.add64 (r := ((i + 1 : Nat) : Int)) rfl (by omega) rfl rfl rfl) ?_))))))))
      exact O.m rfl (On (X.back3 (i + 1) ⟨by omega, ordAt_succ (by omega) hf (by assumption) (fun j hj e => by omega)⟩ (by omega) (Ent.cons rfl (Ent.nil _)) (Ent.cons (t := 1) rfl (Ent.nil _)) (Sub.s [0] rfl)))
   ·refine Zd (O.q rfl (Pu.fieldAddr 1 rfl ut32 rfl sz30 rfl rfl) (O.q rfl (Pu.load rfl pl30 rfl (Ld.blk 0 rfl rfl)) (O.f rfl (Ef.callP call33 rfl rfl (fun w hw => l01Fits_ok bs _ _ w ((Ld.old hx) w hw) (by omega))) ?_)))
    rintro _ _ ⟨rfl, rfl⟩
    exact O.m rfl (Ze (X.ret1 rfl rfl (fun w hw => St.retP (boolD ⟨fun h => ⟨c1.1, c1.2, by omega, ordAt_len (by omega) hf, h⟩, fun h => h.fits⟩) hw)))
set_option maxRecDepth 100000 in
theorem newGrid_ok (w : World) : Does Try.prog 56 [] w [] (fun v => [.exi fun g => .sep (.pur (v = .pointer (some ⟨g, 0, none⟩))) (Grid g (fun _ _ => -1) 89)]) := by
 refine Does.enter Try.func56 rfl rfl [] rfl (Za (O.m rfl (Zb (O.f rfl (Ef.allocGrid rfl zr89) ?_))))
 rintro _ _ ⟨b1, rfl, rfl⟩
 refine Zc (O.m rfl (Zi (V.loop2 (β := Nat) (fun i => [(4, .int .i64 (i : Int))]) _ (fun i => [Grid b1 (ngrid i 0) 89]) (fun i => i ≤ 15) (fun i => 15 - i) 0 (by omega) (Ent.cons rfl (Ent.nil _)) (Ent.cons (t := 0) rfl (Ent.cons (t := 1) rfl (Ent.nil _))) (Sub.cons 0 rfl ngrid_start (Sub.nil _)) ?_)))
 rintro i hi
 refine Za (O.q rfl (Pu.lss rfl rfl rfl) (Zf (Vs (V.condD rfl (fun c1 => ?_) (fun c1 => ?_)))))
 ·refine Zh (O.m rfl (O.m rfl (Zb ?_)))
  refine O.m rfl (Zi (V.loop2 (β := Nat) (fun k => [(7, .int .i64 (k : Int))]) _ (fun k => [Grid b1 (ngrid i k) 89]) (fun k => k ≤ 15) (fun k => 15 - k) 0 (by omega) (Ent.cons rfl (Ent.nil _)) (Ent.cons (t := 0) rfl (Ent.cons (t := 1) rfl (Ent.cons (t := 2) rfl (Ent.cons (t := 4) rfl (Ent.nil _))))) (Sub.s [0] rfl) ?_))
  rintro k hk
  refine Za (O.q rfl (Pu.lss rfl rfl rfl) (Zf (Vs (V.condD rfl (fun c2 => ?_) (fun c2 => ?_)))))
  ·refine Zh (O.m rfl (O.m rfl (Zf (Vr (O.m rfl ?_)))))
   refine O.m rfl (O.q rfl (Pu.indexArr (i) (0 + i * 15) rfl ut89 sz87 rfl rfl (by omega) (by omega) rfl) (O.q rfl (Pu.indexArr (k) (0 + i * 15 + k * 1) rfl ut87 sz2 rfl rfl (by omega) (by omega) rfl) (O.s rfl rfl (Ef.storeGrid 0 ((↑i : Int)) ((↑k : Int)) rfl sz2 rfl rfl rfl (by omega) (by omega) (by omega)) ?_)))
   rintro _ _ rfl
   exact Zk (O.q rfl (Pu.add64 (r := ((k + 1 : Nat) : Int)) rfl (by omega) rfl rfl rfl) (O.m rfl (On (X.back2 (k + 1) (by omega) (by omega) (Ent.cons rfl (Ent.nil _)) (Ent.cons (t := 0) rfl (Ent.cons (t := 1) rfl (Ent.cons (t := 2) rfl (Ent.cons (t := 4) rfl (Ent.nil _))))) (Sub.cons 0 rfl (ngrid_set) (Sub.nil _))))))
  ·exact Ve (Xe (Xe (Xh (Xb (Xn (Vr (O.q rfl (Pu.add64 (r := ((i + 1 : Nat) : Int)) rfl (by omega) rfl rfl rfl) (O.m rfl (On (X.back2 (i + 1) (by omega) (by omega) (Ent.cons rfl (Ent.nil _)) (Ent.cons (t := 0) rfl (Ent.cons (t := 1) rfl (Ent.nil _))) (Sub.cons 0 rfl (ngrid_row (by omega)) (Sub.nil _))))))))))))
 ·exact Zd (O.m rfl (Ze (X.ret1 rfl rfl (fun w hw => St.retX b1 rfl (hw.sub (Sub.cons 0 rfl (ngrid_end (by omega)) (Sub.nil _)))))))
set_option maxRecDepth 100000 in
theorem isLeft_ok (g : Nat) (G : Int → Int → Int) (b : B3) (w : World) (hG : GridAt w g G 89) (hb : (0 ≤ b.1 ∧ b.1 < 15) ∧ (0 ≤ b.2.1 ∧ b.2.1 < 15) ∧ (0 ≤ b.2.2 ∧ b.2.2 < 15)) : Does Try.prog 57 [.pointer (some ⟨g, 0, none⟩), B3.v b] w [] (fun v => [.pur (v = .bool (decide (isLeft G b)))]) := by
 refine Does.enter Try.func57 rfl rfl [(0, .pointer (some ⟨g, 0, none⟩)), (1, B3.v b)] rfl (Za (O.f rfl (Ef.box rfl rfl rfl) ?_))
 rintro _ _ ⟨b1, rfl, rfl⟩
 refine O.m rfl (Zf (Vs (V.ent (Ent.cons (t := 0) rfl (Ent.cons (t := 3) rfl (Ent.nil _))) (V.draw mo (by kernel_rfl) (fun hwf => D.m 0 rfl (D.q 1 rfl (Pu.indexArr 0 0 rfl ut57 sz2 rfl rfl (by decide) (by decide) (by decide)) (D.q 2 rfl (Pu.load rfl pl2 rfl (Ld.blk 0 rfl rfl)) (D.q 3 rfl (Pu.indexArr 1 1 rfl ut57 sz2 rfl rfl (by decide) (by decide) (by decide)) (D.q 4 rfl (Pu.load rfl pl2 rfl (Ld.blk 0 rfl rfl)) (D.m 5 rfl ?_))))))))))
 refine D.q 6 rfl (Pu.indexArr ((b.1).toNat) (0 + (b.1).toNat * 15) rfl ut89 sz87 rfl rfl (by omega) (by omega) rfl) (D.q 7 rfl (Pu.indexArr ((b.2.1).toNat) (0 + (b.1).toNat * 15 + (b.2.1).toNat * 1) rfl ut87 sz2 rfl rfl (by omega) (by omega) rfl) (D.q 8 rfl (Pu.load rfl pl2 rfl (Ld.gridOld (x := b.1) (y := b.2.1) hG (by omega) (by omega) (by omega))) (D.q 9 rfl (Pu.eql rfl rfl rfl) (D.m 10 rfl (D.splitD 15 rfl (fun c1 => ?_) (fun c1 => ?_))))))
 ·refine D.gm 11 rfl (D.gq 12 rfl (Pu.indexArr 0 0 rfl ut57 sz2 rfl rfl (by decide) (by decide) (by decide)) (D.gq 13 rfl (Pu.load rfl pl2 rfl (Ld.blk 0 rfl rfl)) (D.gq 14 rfl (Pu.indexArr 2 2 rfl ut57 sz2 rfl rfl (by decide) (by decide) (by decide)) (D.gq 15 rfl (Pu.load rfl pl2 rfl (Ld.blk 0 rfl rfl)) (D.gm 16 rfl (D.gq 17 rfl (Pu.indexArr ((b.1).toNat) (0 + (b.1).toNat * 15) rfl ut89 sz87 rfl rfl (by omega) (by omega) rfl) (D.gq 18 rfl (Pu.indexArr ((b.2.2).toNat) (0 + (b.1).toNat * 15 + (b.2.2).toNat * 1) rfl ut87 sz2 rfl rfl (by omega) (by omega) rfl) (D.gq 19 rfl (Pu.load rfl pl2 rfl (Ld.gridOld (x := b.1) (y := b.2.2) hG (by omega) (by omega) (by omega))) (D.gq 20 rfl (Pu.eql rfl rfl rfl) (D.m 21 rfl (D.m 22 rfl (D.splitD 27 rfl (fun c2 => ?_) (fun c2 => ?_)))))))))))))
  ·refine D.gm 23 rfl (D.gq 24 rfl (Pu.indexArr 1 1 rfl ut57 sz2 rfl rfl (by decide) (by decide) (by decide)) (D.gq 25 rfl (Pu.load rfl pl2 rfl (Ld.blk 0 rfl rfl)) (D.gq 26 rfl (Pu.indexArr 2 2 rfl ut57 sz2 rfl rfl (by decide) (by decide) (by decide)) (D.gq 27 rfl (Pu.load rfl pl2 rfl (Ld.blk 0 rfl rfl)) (D.gm 28 rfl (D.gq 29 rfl (Pu.indexArr ((b.2.1).toNat) (0 + (b.2.1).toNat * 15) rfl ut89 sz87 rfl rfl (by omega) (by omega) rfl) (D.gq 30 rfl (Pu.indexArr ((b.2.2).toNat) (0 + (b.2.1).toNat * 15 + (b.2.2).toNat * 1) rfl ut87 sz2 rfl rfl (by omega) (by omega) rfl) (D.gq 31 rfl (Pu.load rfl pl2 rfl (Ld.gridOld (x := b.2.1) (y := b.2.2) hG (by omega) (by omega) (by omega))) (D.gq 32 rfl (Pu.eql rfl rfl rfl) (D.m 33 rfl (D.m 34 rfl ?_)))))))))))
   exact D.done hwf rfl (Xn (Vt (X.ret1 rfl rfl (fun w hw => St.retP (boolD ⟨fun h => ⟨c1, c2, h⟩, fun h => h.2.2⟩) hw))))
  ·refine D.g 23 rfl (D.g 24 rfl (D.g 25 rfl (D.g 26 rfl (D.g 27 rfl (D.g 28 rfl (D.g 29 rfl (D.g 30 rfl (D.g 31 rfl (D.g 32 rfl (D.m 33 rfl (D.m 34 rfl ?_)))))))))))
   exact D.done hwf rfl (Xn (Vt (X.ret1 rfl rfl (fun w hw => St.retP (boolF (fun h => c2 h.2.1)) hw))))
 ·refine D.g 11 rfl (D.g 12 rfl (D.g 13 rfl (D.g 14 rfl (D.g 15 rfl (D.g 16 rfl (D.g 17 rfl (D.g 18 rfl (D.g 19 rfl (D.g 20 rfl (D.m 21 rfl (D.m 22 rfl ?_)))))))))))
  refine D.g 23 rfl (D.g 24 rfl (D.g 25 rfl (D.g 26 rfl (D.g 27 rfl (D.g 28 rfl (D.g 29 rfl (D.g 30 rfl (D.g 31 rfl (D.g 32 rfl (D.m 33 rfl (D.m 34 rfl ?_)))))))))))
  exact D.done hwf rfl (Xn (Vt (X.ret1 rfl rfl (fun w hw => St.retP (boolF (fun h => c1 h.1)) hw))))
set_option maxRecDepth 100000 in
theorem put_true (g : Nat) (G : Int → Int → Int) (b : B3) (w0 : World) (H : List Assn) (hb : (0 ≤ b.1 ∧ b.1 < 15) ∧ (0 ≤ b.2.1 ∧ b.2.1 < 15) ∧ (0 ≤ b.2.2 ∧ b.2.2 < 15)) : Does Try.prog 58 [.pointer (some ⟨g, 0, none⟩), B3.v b, .bool true] w0 (Grid g G 89 :: H) (fun v => .pur (v = .tuple #[]) :: Grid g (tabPut G b) 89 :: H) := by
 refine Does.enter Try.func58 rfl rfl [(0, .pointer (some ⟨g, 0, none⟩)), (1, B3.v b), (2, .bool true)] rfl (Za (O.f rfl (Ef.box rfl rfl rfl) ?_))
 rintro _ _ ⟨b1, rfl, rfl⟩
 refine Zb (O.q rfl (Pu.loadAgg rfl ag57 sz57 rfl rfl (Ld.whole 0 rfl)) (O.m rfl (Zi (V.unroll 3 (Za ?_)))))
 refine O.q rfl (Pu.isT (by decide) (Pu.lss rfl rfl rfl)) (Zf (Vs (V.condT rfl (Zh (O.m rfl ?_)))))
 refine O.q rfl (Pu.indexAgg 0 rfl ut57 sz2 pl2 rfl rfl (by decide) (by decide) rfl) (O.m rfl (O.m rfl (Zf (Vs (V.draw mo (by kernel_rfl) (fun hwf => D.m 0 rfl (D.q 1 rfl (Pu.add64 (r := 1) (by decide) (by decide) rfl rfl rfl) (D.q 2 rfl (Pu.rem64' (r := 1) (by decide) (by decide) (by decide) rfl rfl rfl) (D.q 3 rfl (Pu.indexArr 1 1 rfl ut57 sz2 rfl rfl (by decide) (by decide) (by decide)) (D.q 4 rfl (Pu.load rfl pl2 rfl (Ld.blk 0 rfl rfl)) ?_))))))))))
 refine D.m 5 rfl (D.q 6 rfl (Pu.add64 (r := 2) (by decide) (by decide) rfl rfl rfl) (D.q 7 rfl (Pu.rem64' (r := 2) (by decide) (by decide) (by decide) rfl rfl rfl) (D.q 8 rfl (Pu.indexArr 2 2 rfl ut57 sz2 rfl rfl (by decide) (by decide) (by decide)) (D.q 9 rfl (Pu.load rfl pl2 rfl (Ld.blk 0 rfl rfl)) (D.m 10 rfl (D.m 11 rfl (D.done hwf rfl (Xn (Zj ?_)))))))))
 refine O.m rfl (O.q rfl (Pu.notT rfl rfl) (Zf (V.condF rfl (Vk (Xn (V.drawS mo (by kernel_rfl) (Sub.s [0] rfl) (fun hwf => D.m 0 rfl (D.m 1 rfl (D.m 2 rfl (D.m 3 rfl ?_))))))))))
 refine D.m 4 rfl (D.m 5 rfl (D.m 6 rfl (D.m 7 rfl (D.m 8 rfl (D.q 9 rfl (Pu.indexArr ((b.1).toNat) (0 + (b.1).toNat * 15) rfl ut89 sz87 rfl rfl (by omega) (by omega) rfl) (D.q 10 rfl (Pu.indexArr ((b.2.1).toNat) (0 + (b.1).toNat * 15 + (b.2.1).toNat * 1) rfl ut87 sz2 rfl rfl (by omega) (by omega) rfl) (D.m 12 rfl (D.q 13 rfl (Pu.indexArr ((b.2.1).toNat) (0 + (b.2.1).toNat * 15) rfl ut89 sz87 rfl rfl (by omega) (by omega) rfl) (D.q 14 rfl (Pu.indexArr ((b.1).toNat) (0 + (b.2.1).toNat * 15 + (b.1).toNat * 1) rfl ut87 sz2 rfl rfl (by omega) (by omega) rfl) (D.f hwf 11 rfl (Ef.storeGrid 1 (b.1) (b.2.1) rfl sz2 rfl rfl rfl (by omega) (by omega) (by omega)) ?_))))))))))
 rintro _ _ rfl hs
 refine ⟨fun w hw => hw.sub (Sub.s [0] rfl), (D.f hwf 15 rfl (Ef.storeGrid 1 (b.2.1) (b.1) rfl sz2 rfl rfl rfl (by omega) (by omega) (by omega)) ?_)⟩
 rintro _ _ rfl hs
 refine ⟨fun w hw => hw.sub (Sub.s [0] rfl), (D.done hwf rfl (Xb (Xn (Vr (O.q rfl (Pu.add64 (r := 1) (by decide) (by decide) rfl rfl rfl) (O.m rfl (On (X.again 2 (Za (O.q rfl (Pu.isT (by decide) (Pu.lss rfl rfl rfl)) ?_))))))))))⟩
 refine Zf (Vs (V.condT rfl (Zh (O.m rfl (O.q rfl (Pu.indexAgg 1 rfl ut57 sz2 pl2 rfl rfl (by decide) (by decide) rfl) ?_)))))
 refine O.m rfl (O.m rfl (Zf (Vs (V.ent (Ent.cons (t := 0) rfl (Ent.cons (t := 2) rfl (Ent.cons (t := 4) rfl (Ent.cons (t := 6) rfl (Ent.cons (t := 7) rfl (Ent.cons (t := 10) rfl (Ent.cons (t := 11) rfl (Ent.nil _)))))))) (V.draw mo (by kernel_rfl) (fun hwf => D.m 0 rfl (D.q 1 rfl (Pu.add64 (r := 2) (by decide) (by decide) rfl rfl rfl) (D.q 2 rfl (Pu.rem64' (r := 2) (by decide) (by decide) (by decide) rfl rfl rfl) (D.q 3 rfl (Pu.indexArr 2 2 rfl ut57 sz2 rfl rfl (by decide) (by decide) (by decide)) (D.q 4 rfl (Pu.load rfl pl2 rfl (Ld.blk 0 rfl rfl)) ?_))))))))))
 refine D.m 5 rfl (D.q 6 rfl (Pu.add64 (r := 3) (by decide) (by decide) rfl rfl rfl) (D.q 7 rfl (Pu.rem64' (r := 0) (by decide) (by decide) (by decide) rfl rfl rfl) (D.q 8 rfl (Pu.indexArr 0 0 rfl ut57 sz2 rfl rfl (by decide) (by decide) (by decide)) (D.q 9 rfl (Pu.load rfl pl2 rfl (Ld.blk 0 rfl rfl)) (D.m 10 rfl (D.m 11 rfl (D.done hwf rfl (Xn (Zj ?_)))))))))
 refine O.m rfl (O.q rfl (Pu.notT rfl rfl) (Zf (V.condF rfl (Vk (Xn (V.drawS mo (by kernel_rfl) (Sub.s [0] rfl) (fun hwf => D.m 0 rfl (D.m 1 rfl (D.m 2 rfl (D.m 3 rfl ?_))))))))))
 refine D.m 4 rfl (D.m 5 rfl (D.m 6 rfl (D.m 7 rfl (D.m 8 rfl (D.q 9 rfl (Pu.indexArr ((b.2.1).toNat) (0 + (b.2.1).toNat * 15) rfl ut89 sz87 rfl rfl (by omega) (by omega) rfl) (D.q 10 rfl (Pu.indexArr ((b.2.2).toNat) (0 + (b.2.1).toNat * 15 + (b.2.2).toNat * 1) rfl ut87 sz2 rfl rfl (by omega) (by omega) rfl) (D.m 12 rfl (D.q 13 rfl (Pu.indexArr ((b.2.2).toNat) (0 + (b.2.2).toNat * 15) rfl ut89 sz87 rfl rfl (by omega) (by omega) rfl) (D.q 14 rfl (Pu.indexArr ((b.2.1).toNat) (0 + (b.2.2).toNat * 15 + (b.2.1).toNat * 1) rfl ut87 sz2 rfl rfl (by omega) (by omega) rfl) (D.f hwf 11 rfl (Ef.storeGrid 1 (b.2.1) (b.2.2) rfl sz2 rfl rfl rfl (by omega) (by omega) (by omega)) ?_))))))))))
 rintro _ _ rfl hs
 refine ⟨fun w hw => hw.sub (Sub.s [0] rfl), (D.f hwf 15 rfl (Ef.storeGrid 1 (b.2.2) (b.2.1) rfl sz2 rfl rfl rfl (by omega) (by omega) (by omega)) ?_)⟩
 rintro _ _ rfl hs
 refine ⟨fun w hw => hw.sub (Sub.s [0] rfl), (D.done hwf rfl (Xb (Xn (Vr (O.q rfl (Pu.add64 (r := 2) (by decide) (by decide) rfl rfl rfl) (O.m rfl (On (X.again 1 (Za (O.q rfl (Pu.isT (by decide) (Pu.lss rfl rfl rfl)) ?_))))))))))⟩
 refine Zf (Vs (V.condT rfl (Zh (O.m rfl (O.q rfl (Pu.indexAgg 2 rfl ut57 sz2 pl2 rfl rfl (by decide) (by decide) rfl) ?_)))))
 refine O.m rfl (O.m rfl (Zf (Vs (V.ent (Ent.cons (t := 0) rfl (Ent.cons (t := 2) rfl (Ent.cons (t := 4) rfl (Ent.cons (t := 6) rfl (Ent.cons (t := 7) rfl (Ent.cons (t := 10) rfl (Ent.cons (t := 11) rfl (Ent.nil _)))))))) (V.draw mo (by kernel_rfl) (fun hwf => D.m 0 rfl (D.q 1 rfl (Pu.add64 (r := 3) (by decide) (by decide) rfl rfl rfl) (D.q 2 rfl (Pu.rem64' (r := 0) (by decide) (by decide) (by decide) rfl rfl rfl) (D.q 3 rfl (Pu.indexArr 0 0 rfl ut57 sz2 rfl rfl (by decide) (by decide) (by decide)) (D.q 4 rfl (Pu.load rfl pl2 rfl (Ld.blk 0 rfl rfl)) ?_))))))))))
 refine D.m 5 rfl (D.q 6 rfl (Pu.add64 (r := 4) (by decide) (by decide) rfl rfl rfl) (D.q 7 rfl (Pu.rem64' (r := 1) (by decide) (by decide) (by decide) rfl rfl rfl) (D.q 8 rfl (Pu.indexArr 1 1 rfl ut57 sz2 rfl rfl (by decide) (by decide) (by decide)) (D.q 9 rfl (Pu.load rfl pl2 rfl (Ld.blk 0 rfl rfl)) (D.m 10 rfl (D.m 11 rfl (D.done hwf rfl (Xn (Zj ?_)))))))))
 refine O.m rfl (O.q rfl (Pu.notT rfl rfl) (Zf (V.condF rfl (Vk (Xn (V.drawS mo (by kernel_rfl) (Sub.s [0] rfl) (fun hwf => D.m 0 rfl (D.m 1 rfl (D.m 2 rfl (D.m 3 rfl ?_))))))))))
 refine D.m 4 rfl (D.m 5 rfl (D.m 6 rfl (D.m 7 rfl (D.m 8 rfl (D.q 9 rfl (Pu.indexArr ((b.2.2).toNat) (0 + (b.2.2).toNat * 15) rfl ut89 sz87 rfl rfl (by omega) (by omega) rfl) (D.q 10 rfl (Pu.indexArr ((b.1).toNat) (0 + (b.2.2).toNat * 15 + (b.1).toNat * 1) rfl ut87 sz2 rfl rfl (by omega) (by omega) rfl) (D.m 12 rfl (D.q 13 rfl (Pu.indexArr ((b.1).toNat) (0 + (b.1).toNat * 15) rfl ut89 sz87 rfl rfl (by omega) (by omega) rfl) (D.q 14 rfl (Pu.indexArr ((b.2.2).toNat) (0 + (b.1).toNat * 15 + (b.2.2).toNat * 1) rfl ut87 sz2 rfl rfl (by omega) (by omega) rfl) (D.f hwf 11 rfl (Ef.storeGrid 1 (b.2.2) (b.1) rfl sz2 rfl rfl rfl (by omega) (by omega) (by omega)) ?_))))))))))
 rintro _ _ rfl hs
 refine ⟨fun w hw => hw.sub (Sub.s [0] rfl), (D.f hwf 15 rfl (Ef.storeGrid 1 (b.1) (b.2.2) rfl sz2 rfl rfl rfl (by omega) (by omega) (by omega)) ?_)⟩
 rintro _ _ rfl hs
 refine ⟨fun w hw => hw.sub (Sub.s [0] rfl), (D.done hwf rfl (Xb (Xn (Vr (O.q rfl (Pu.add64 (r := 3) (by decide) (by decide) rfl rfl rfl) (O.m rfl (On (X.again 0 (Za (O.q rfl (Pu.isF (by decide) (Pu.lss rfl rfl rfl)) ?_))))))))))⟩
 exact Zf (Vs (V.condF rfl (Ve (Xe (Xe (Xh (X.endBody (X.ret0 rfl (fun w hw => St.addPur rfl (hw.sub (Sub.t [1] 1 rfl)))))))))))
set_option maxRecDepth 100000 in
theorem gridOf_ok (bs : List B3) (A : Option Addr) (c : Nat) (w : World) (hx : Rd B3C w A bs) (lx : bs.length ≤ 4611686018427387904) (hb : ∀ b ∈ bs, good 15 b) : Does Try.prog 50 [.slice A bs.length c] w [] (fun v => [.exi fun g : Option Nat => match g with | none => .pur (v = .tuple #[.pointer none, .bool false] ∧ ¬ fitsAt bs bs.length) | some g => .sep (.pur (v = .tuple #[.pointer (some ⟨g, 0, none⟩), .bool true] ∧ fitsAt bs bs.length)) (Grid g (tab bs) 89)]) := by
 refine Does.enter Try.func50 rfl rfl [(0, .slice A bs.length c)] rfl (Za (O.m rfl (O.m rfl (Zb (O.f rfl (Ef.call1 call56 rfl rfl (fun w hw => newGrid_ok _)) ?_)))))
 rintro _ _ rfl
 refine O.exi (fun g1 => O.sep (O.pur ?_))
 rintro rfl
 refine O.m rfl (Zc (O.m rfl (O.q rfl (Pu.len rfl ut30 rfl) (O.m rfl (Zi ?_)))))
 refine V.loop2 (β := Nat) (fun k => [(10, .int .i64 (k : Int))]) _ (fun k => [Grid g1 (tab (bs.take k)) 89]) (fun k => k ≤ bs.length ∧ fitsAt bs k) (fun k => bs.length - k) 0 ⟨by omega, fitsAt_zero bs⟩ (Ent.cons rfl (Ent.nil _)) (Ent.cons (t := 4) rfl (Ent.cons (t := 8) rfl (Ent.cons (t := 9) rfl (Ent.nil _)))) (Sub.s [0] rfl) ?_
 rintro k ⟨hk, hf⟩
 refine Za (O.q rfl (Pu.lss rfl rfl rfl) (Zf (Vs (V.condD rfl (fun c1 => ?_) (fun c1 => ?_)))))
 ·refine Zh (O.q rfl (Pu.indexAddr (k) rfl ut30 sz57 rfl rfl (by omega) (by omega) (hx.some (by omega))) ?_)
  have e1 : k < bs.length := by omega
  refine O.q rfl (Pu.loadAgg' (v := B3.v (bs[k]'e1)) rfl rfl ag57 sz57 rfl rfl (Ld.rds (Ld.old hx) (k := k) e1 rfl)) (O.f rfl (Ef.alloc rfl zr57 rfl) ?_)
  rintro _ _ ⟨b1, rfl, rfl⟩
  refine O.s rfl rfl (Ef.storeAll 0 rfl sz57 rfl rfl rfl rfl (by simp [Value.oneCell']) rfl) ?_
  rintro _ _ rfl
  refine Zc (O.m rfl (O.q rfl (Pu.loadAgg rfl ag57 sz57 rfl rfl (Ld.whole 0 rfl)) (O.f rfl (Ef.callP call57 rfl rfl (fun w hw => isLeft_ok _ _ (bs[k]'e1) w (GridAt.of (i := 1) hw (by exact rfl)) (hb _ (List.getElem_mem e1)).pts)) ?_)))
  rintro _ _ ⟨rfl, rfl⟩
  refine O.q rfl (Pu.not rfl rfl) (Zf (V.condNot rfl (fun c2 => ?_) (fun c2 => ?_)))
  ·refine Za (O.m rfl (O.m rfl (Ze (Xr (Xq (Xr (Xr (Xq ?_))))))))
   exact Xr (X.ret2 rfl rfl rfl (fun w hw => St.mkExi (none : Option Nat) (St.addPur ⟨rfl, fun h => c2 ((isLeft_fits (by omega) (fun b hb' => (hb b hb').three)).2 (fun j hj hjk => h k (by omega) (by omega) j hj hjk))⟩ (hw.sub (Sub.nil _)))))
  ·refine Vk (Xn (Vr (O.m rfl (O.q rfl (Pu.loadAgg rfl ag57 sz57 rfl rfl (Ld.whole 0 rfl)) (O.f rfl (Ef.callM 1 call58 rfl rfl rfl (fun H _ => put_true _ _ (bs[k]'e1) _ H (hb _ (List.getElem_mem e1)).pts)) ?_)))))
   rintro _ _ ⟨rfl, rfl⟩
   exact Zk (O.q rfl (Pu.add64 (r := ((k + 1 : Nat) : Int)) rfl (by omega) rfl rfl rfl) (O.m rfl (On (X.back2 (k + 1) ⟨by omega, fitsAt_succ (by omega) hf ((isLeft_fits (by omega) (fun b hb' => (hb b hb').three)).1 c2)⟩ (by omega) (Ent.cons rfl (Ent.nil _)) (Ent.cons (t := 4) rfl (Ent.cons (t := 8) rfl (Ent.cons (t := 9) rfl (Ent.nil _)))) (Sub.cons 1 rfl (fun w F h => by rw [tab_succ (by omega)]; exact h) (Sub.nil _))))))
 ·refine Zd (O.m rfl (O.m rfl (O.m rfl (Zf ?_))))
  exact Vt (X.ret2 rfl rfl rfl (fun w hw => St.mkExi (some g1) (St.unsep (St.addPur ⟨rfl, fitsAt_len (by omega) hf⟩ (hw.sub (Sub.cons 0 rfl (fun w F h => by rwa [List.take_of_length_le (by omega)] at h) (Sub.nil _)))))))
set_option maxRecDepth 100000 in
theorem areBlocks_ok (v : Int) (bs : List B3) (A : Option Addr) (c : Nat) (w : World) (hx : Rd B3C w A bs) (lx : bs.length ≤ 4611686018427387904) : Does Try.prog 36 [.int .i64 v, .slice A bs.length c] w [] (fun r => [.pur (r = .bool (decide (STS v bs)))]) := by
 refine Does.enter Try.func36 rfl rfl [(0, .int .i64 v), (1, .slice A bs.length c)] rfl (Za (O.m rfl (Zc (O.m rfl (O.f rfl (Ef.callP call47 rfl rfl (fun w hw => within_ok _ _ _ _)) ?_)))))
 rintro _ _ ⟨rfl, rfl⟩
 refine O.q rfl (Pu.not rfl rfl) (O.m rfl (O.splitN 12 rfl (fun c1 => ?_) (fun c1 => ?_)))
 ·refine O.g rfl (O.g rfl (O.g rfl (O.m rfl (Zf (V.condT rfl (Za (O.m rfl (Zf ?_))))))))
  exact Vt (Xr (X.ret1 rfl rfl (fun w hw => St.retP (boolF (fun h => c1 ⟨h.lo, h.hi⟩)) hw)))
 ·refine O.gm rfl (O.gq rfl (Pu.len rfl ut30 rfl) (O.gq rfl (Pu.gtr rfl rfl rfl) (O.m rfl (Zf (V.condD rfl (fun c2 => ?_) (fun c2 => ?_))))))
  ·exact Za (O.m rfl (Ze (Xr (X.ret1 rfl rfl (fun w hw => St.retP (boolF (fun h => by have := h.few; omega)) hw)))))
  ·refine Vk (Xn (Zj (O.m rfl (O.q rfl (Pu.len rfl ut30 rfl) (O.m rfl (Zi (V.loop2 (β := Nat) (fun i => [(19, .int .i64 (i : Int))]) _ (fun i => []) (fun i => i ≤ bs.length ∧ ordAt v bs i) (fun i => bs.length - i) 0 ⟨by omega, ordAt_zero v bs⟩ (Ent.cons rfl (Ent.nil _)) (Ent.cons (t := 0) rfl (Ent.cons (t := 1) rfl (Ent.cons (t := 17) rfl (Ent.cons (t := 18) rfl (Ent.nil _))))) (Sub.nil _) ?_)))))))
   rintro i ⟨hi, hf⟩
   refine Za (O.q rfl (Pu.lss rfl rfl rfl) (Zf (Vs (V.condD rfl (fun c3 => ?_) (fun c3 => ?_)))))
   ·refine Zh (O.m rfl (O.q rfl (Pu.indexAddr (i) rfl ut30 sz57 rfl rfl (by omega) (by omega) (hx.some (by omega))) ?_))
    have e1 : i < bs.length := by omega
    refine O.q rfl (Pu.loadAgg' (v := B3.v (bs[i]'e1)) rfl rfl ag57 sz57 rfl rfl (Ld.rds (Ld.old hx) (k := i) e1 rfl)) (O.f rfl (Ef.alloc rfl zr57 rfl) ?_)
    rintro _ _ ⟨b1, rfl, rfl⟩
    refine O.m rfl (O.s rfl rfl (Ef.storeAll 0 rfl sz57 rfl rfl rfl rfl (by simp [Value.oneCell']) rfl) ?_)
    rintro _ _ rfl
    refine Zf (Vs (V.draw mo (by kernel_rfl) (fun hwf => D.q 0 rfl (Pu.loadAgg rfl ag57 sz57 rfl rfl (Ld.whole 0 rfl)) (D.m 1 rfl (D.f hwf 2 rfl (Ef.callP call48 rfl rfl (fun w hw => isBlock_ok _ _ _ (by omega))) ?_)))))
    rintro _ _ ⟨rfl, rfl⟩ hs
    refine ⟨fun w hw => hw, (D.q 3 rfl (Pu.not rfl rfl) (D.m 4 rfl (D.splitN 28 rfl (fun c4 => ?_) (fun c4 => ?_))))⟩
    ·refine D.g 5 rfl (D.g 6 rfl (D.g 7 rfl (D.g 8 rfl (D.g 9 rfl (D.g 10 rfl (D.g 11 rfl (D.g 12 rfl (D.g 13 rfl (D.g 14 rfl (D.g 15 rfl (D.g 16 rfl ?_)))))))))))
     refine D.m 17 rfl (D.done hwf rfl (Xn (V.condT rfl (Za (O.m rfl (Ze (Xq (Xr ?_))))))))
     exact Xr (Xq (Xr (X.ret1 rfl rfl (fun w hw => St.retP (boolF (fun h => c4 (h.ord i (by omega) (by omega)).1)) hw))))
    ·refine D.gm 5 rfl (D.gq 6 rfl (Pu.gtr rfl rfl rfl) (D.gm 7 rfl (D.splitD 31 rfl (fun c5 => ?_) (fun c5 => ?_))))
     ·refine D.gm 8 rfl (D.gm 9 rfl (D.gq 10 rfl (Pu.sub64 (r := ((i - 1 : Nat) : Int)) (by omega) (by omega) rfl rfl rfl) (D.gq 11 rfl (Pu.indexAddr (i - 1) rfl ut30 sz57 rfl rfl (by omega) (by omega) (hx.some (by omega))) ?_)))
      have e2 : i - 1 < bs.length := by omega
      refine D.gq 12 rfl (Pu.loadAgg' (v := B3.v (bs[i - 1]'e2)) rfl rfl ag57 sz57 rfl rfl (Ld.rds (Ld.old hx) (k := i - 1) e2 rfl)) (D.gq 13 rfl (Pu.loadAgg rfl ag57 sz57 rfl rfl (Ld.whole 0 rfl)) (D.geff hwf (e := 14) rfl rfl rfl rfl rfl rfl (Ef.callP call49 rfl rfl (fun w hw => compare_ok _ _ _)) rfl rfl rfl ?_))
      rintro _ _ ⟨rfl, rfl⟩ hs
      refine ⟨fun w hw => hw, (D.gq 15 rfl (Pu.geq rfl rfl rfl) (D.gm 16 rfl (D.m 17 rfl (D.done hwf rfl (Xn (V.condD rfl (fun c6 => ?_) (fun c6 => ?_)))))))⟩
      ·exact Za (O.m rfl (Ze (Xq (Xr (Xr (Xq (Xr (X.ret1 rfl rfl (fun w hw => St.retP (boolF (fun h => by have := (cmpL_bl _ _).2 ((h.ord i (by omega) (by omega)).2 (i - 1) (by omega) (by omega)); omega)) hw)))))))))
      ·exact Zg (O.q rfl (Pu.add64 (r := ((i + 1 : Nat) : Int)) rfl (by omega) rfl rfl rfl) (O.m rfl (On (X.back2 (i + 1) ⟨by omega, ordAt_succ (by omega) hf (by assumption) (fun j hj e => by subst e; exact (cmpL_bl _ _).1 (by simp only [Nat.add_sub_cancel] at c6; omega))⟩ (by omega) (Ent.cons rfl (Ent.nil _)) (Ent.cons (t := 0) rfl (Ent.cons (t := 1) rfl (Ent.cons (t := 17) rfl (Ent.cons (t := 18) rfl (Ent.nil _))))) (Sub.nil _)))))
     ·refine D.g 8 rfl (D.g 9 rfl (D.g 10 rfl (D.g 11 rfl (D.g 12 rfl (D.g 13 rfl (D.g 14 rfl (D.g 15 rfl (D.gm 16 rfl (D.m 17 rfl (D.done hwf rfl (Xn ?_)))))))))))
      exact V.condF rfl (Zg (O.q rfl (Pu.add64 (r := ((i + 1 : Nat) : Int)) rfl (by omega) rfl rfl rfl) (O.m rfl (On (X.back2 (i + 1) ⟨by omega, ordAt_succ (by omega) hf (by assumption) (fun j hj e => by omega)⟩ (by omega) (Ent.cons rfl (Ent.nil _)) (Ent.cons (t := 0) rfl (Ent.cons (t := 1) rfl (Ent.cons (t := 17) rfl (Ent.cons (t := 18) rfl (Ent.nil _))))) (Sub.nil _))))))
   ·refine Zd (O.m rfl (O.f rfl (Ef.call1 call50 rfl rfl (fun w hw => gridOf_ok bs _ _ w ((Ld.old hx) w hw) (by omega) (fun b hb => ((ordAt.good (by omega) hf) b hb).mono (by omega)))) ?_))
    rintro v_ _ rfl; refine O.exi (fun g => ?_); rcases g with _ | g
    ·refine O.pur ?_
     rintro ⟨rfl, hfit⟩
     refine O.m rfl (O.m rfl (O.m rfl (O.m rfl (O.m rfl (Zb (O.m rfl (O.m rfl (On ?_))))))))
     exact Xn (Vt (X.ret1 rfl rfl (fun w hw => St.retP (boolF (fun h => hfit h.fits)) hw)))
    ·refine O.sep (O.pur ?_)
     rintro ⟨rfl, hfit⟩
     refine O.m rfl (O.m rfl (O.m rfl (O.m rfl (O.m rfl (Zb (O.m rfl (O.m rfl (On ?_))))))))
     exact Xn (Vt (X.ret1 rfl rfl (fun w hw => St.retP (boolT ⟨c1.1, c1.2, by omega, ordAt_len (by omega) hf, hfit⟩) hw)))
set_option maxRecDepth 100000 in
theorem IsSystem_ok (v : Int) (bs : List B3) (A : Option Addr) (c : Nat) (w : World) (hx : Rd B3C w A bs) (lx : bs.length ≤ 4611686018427387904) : Does Try.prog 20 [.agg #[.int .i64 v, .slice A bs.length c]] w [] (fun r => [.pur (r = .bool (decide (STS v bs)))]) := by
 refine Does.enter Try.func20 rfl rfl [(0, .agg #[.int .i64 v, .slice A bs.length c])] rfl (Za (O.f rfl (Ef.box rfl rfl rfl) ?_))
 rintro _ _ ⟨b1, rfl, rfl⟩
 refine O.m rfl (Zb (O.q rfl (Pu.fieldAddr 0 rfl ut32 rfl sz2 rfl rfl) (O.q rfl (Pu.load rfl pl2 rfl (Ld.blk 0 rfl rfl)) (O.q rfl (Pu.fieldAddr 1 rfl ut32 rfl sz30 rfl rfl) (O.q rfl (Pu.load rfl pl30 rfl (Ld.blk 0 rfl rfl)) (O.f rfl (Ef.callP call36 rfl rfl (fun w hw => areBlocks_ok _ bs _ _ w ((Ld.old hx) w hw) (by omega))) ?_))))))
 rintro _ _ ⟨rfl, rfl⟩
 exact O.m rfl (Ze (X.ret1 rfl rfl (fun w hw => St.retP (rfl) hw)))
set_option maxRecDepth 100000 in
theorem szBlockS_ok (bs : List B3) (left : Int) (A : Option Addr) (c : Nat) (w : World) (hl : 0 ≤ left ∧ left ≤ 4611686018427387904) (lx : bs.length ≤ 9223372036854775807) : Does Try.prog 12 [.slice A bs.length c, .int .i64 left] w [] (fun v => [.pur (v = .int .i64 (roomLeft bs.length left))]) := by
 refine Does.enter Try.func12 rfl rfl [(0, .slice A bs.length c), (1, .int .i64 left)] rfl (Za (O.m rfl (Zb (O.m rfl (O.m rfl (O.q rfl (Pu.len rfl ut22 rfl) (O.q rfl (Pu.sub64 rfl (by omega) rfl rfl rfl) ?_)))))))
 refine O.m rfl (Zc (O.m rfl (O.q rfl (Pu.lss rfl rfl rfl) (Zf (V.condD rfl (fun c1 => ?_) (fun c1 => ?_))))))
 ·exact Za (O.m rfl (Ze (Xr (X.ret1 rfl rfl (fun w hw => St.retP (iv (by unfold roomLeft; rw [if_pos c1])) hw)))))
 ·exact Vk (Xn (Za (O.m rfl (O.m rfl (Ze (X.ret1 rfl rfl (fun w hw => St.retP (iv (by unfold roomLeft; rw [if_neg c1])) hw)))))))
set_option maxRecDepth 100000 in
theorem szSystem_ok (v left : Int) (bs : List B3) (A : Option Addr) (c : Nat) (w : World) (hl : 0 ≤ left ∧ left ≤ 4611686018427387904) (lx : bs.length ≤ 9223372036854775807) : Does Try.prog 4 [.agg #[.int .i64 v, .slice A bs.length c], .int .i64 left] w [] (fun r => [.pur (r = .int .i64 (roomLeft bs.length left))]) := by
 refine Does.enter Try.func4 rfl rfl [(0, .agg #[.int .i64 v, .slice A bs.length c]), (1, .int .i64 left)] rfl (Za (O.f rfl (Ef.box rfl rfl rfl) ?_))
 rintro _ _ ⟨b1, rfl, rfl⟩
 refine O.m rfl (Zb (O.q rfl (Pu.fieldAddr 1 rfl ut24 rfl sz22 rfl rfl) (O.q rfl (Pu.load rfl pl22 rfl (Ld.blk 0 rfl rfl)) (O.m rfl (O.f rfl (Ef.callP call12 rfl rfl (fun w hw => szBlockS_ok bs _ _ _ w (by omega) (by omega))) ?_)))))
 rintro _ _ ⟨rfl, rfl⟩
 refine O.m rfl (Zc (O.m rfl (O.q rfl (Pu.lss rfl rfl rfl) (Zf (V.condD rfl (fun c1 => ?_) (fun c1 => ?_))))))
 ·exact Za (O.m rfl (Ze (Xr (X.ret1 rfl rfl (fun w hw => St.retP (iv (by unfold roomLeft at *; split at c1 <;> simp_all)) hw)))))
 ·exact Vk (Xn (Za (O.m rfl (O.m rfl (Ze (X.ret1 rfl rfl (fun w hw => St.retP (rfl) hw)))))))
set_option maxRecDepth 100000 in
theorem toBlock_ok (b : B3) (w : World) : Does Try.prog 35 [B3.v b] w [] (fun v => [.pur (v = B3.v b)]) := by
 refine Does.enter Try.func35 rfl rfl [(0, B3.v b)] rfl (Za (O.f rfl (Ef.box rfl rfl rfl) ?_))
 rintro _ _ ⟨b1, rfl, rfl⟩
 refine O.f rfl (Ef.alloc rfl zr57 rfl) ?_
 rintro _ _ ⟨b2, rfl, rfl⟩
 refine Zb (O.f rfl (Ef.alloc rfl zr57 rfl) ?_)
 rintro _ _ ⟨b3, rfl, rfl⟩
 refine Zc (O.m rfl (Zi (V.unroll 3 (Vs (Vs ?_)))))
 refine Vr (O.m rfl (O.q rfl (Pu.isT (by decide) (Pu.lss rfl rfl rfl)) (Zf (V.condT rfl (Vk (Xn (Vs (Vb (Vr (O.m rfl ?_))))))))))
 refine O.m rfl (O.q rfl (Pu.indexArr 0 0 rfl ut56 sz2 rfl rfl (by decide) (by decide) (by decide)) (O.q rfl (Pu.load rfl pl2 rfl (Ld.blk 2 rfl rfl)) (O.q rfl (Pu.indexArr 0 0 rfl ut57 sz2 rfl rfl (by decide) (by decide) (by decide)) (O.s rfl rfl (Ef.store1 (cs' := [_, _, _]) 0 rfl sz2 rfl rfl rfl rfl rfl (ltb rfl) rfl) ?_))))
 rintro _ _ rfl
 refine Zk (O.m rfl (O.q rfl (Pu.add64 (r := 1) (by decide) (by decide) rfl rfl rfl) (O.m rfl (On (X.again 2 (Zj ?_))))))
 refine O.m rfl (O.q rfl (Pu.isT (by decide) (Pu.lss rfl rfl rfl)) (Zf (V.condT rfl (Vk (Xn (Vs (Vb (Vr (O.m rfl (O.m rfl ?_))))))))))
 refine O.q rfl (Pu.indexArr 1 1 rfl ut56 sz2 rfl rfl (by decide) (by decide) (by decide)) (O.q rfl (Pu.load rfl pl2 rfl (Ld.blk 2 rfl rfl)) (O.q rfl (Pu.indexArr 1 1 rfl ut57 sz2 rfl rfl (by decide) (by decide) (by decide)) (O.s rfl rfl (Ef.store1 (cs' := [_, _, _]) 0 rfl sz2 rfl rfl rfl rfl rfl (ltb rfl) rfl) ?_)))
 rintro _ _ rfl
 refine Zk (O.m rfl (O.q rfl (Pu.add64 (r := 2) (by decide) (by decide) rfl rfl rfl) (O.m rfl (On (X.again 1 (Zj ?_))))))
 refine O.m rfl (O.q rfl (Pu.isT (by decide) (Pu.lss rfl rfl rfl)) (Zf (V.condT rfl (Vk (Xn (Vs (Vb (Vr (O.m rfl (O.m rfl ?_))))))))))
 refine O.q rfl (Pu.indexArr 2 2 rfl ut56 sz2 rfl rfl (by decide) (by decide) (by decide)) (O.q rfl (Pu.load rfl pl2 rfl (Ld.blk 2 rfl rfl)) (O.q rfl (Pu.indexArr 2 2 rfl ut57 sz2 rfl rfl (by decide) (by decide) (by decide)) (O.s rfl rfl (Ef.store1 (cs' := [_, _, _]) 0 rfl sz2 rfl rfl rfl rfl rfl (ltb rfl) rfl) ?_)))
 rintro _ _ rfl
 refine Zk (O.m rfl (O.q rfl (Pu.add64 (r := 3) (by decide) (by decide) rfl rfl rfl) (O.m rfl (On (X.again 0 (Zj ?_))))))
 refine O.m rfl (O.q rfl (Pu.isF (by decide) (Pu.lss rfl rfl rfl)) (Zf (V.condF rfl (Zd ?_))))
 refine O.q rfl (Pu.loadAgg rfl ag57 sz57 rfl rfl (Ld.whole 0 rfl)) (O.s rfl rfl (Ef.storeAll 1 rfl sz57 rfl rfl rfl rfl (by simp [Value.oneCell']) rfl) ?_)
 rintro _ _ rfl
 exact Ze (X.retCell rfl ag57 sz57 rfl rfl (Ld.whole 1 rfl) (fun w hw => St.retP (rfl) hw))
set_option maxRecDepth 100000 in
theorem eqBlock_ok (a b : B3) (w : World) : Does Try.prog 44 [B3.v a, B3.v b] w [] (fun v => [.pur (v = .bool (decide (a = b)))]) := by
 refine Does.enter Try.func44 rfl rfl [(0, B3.v a), (1, B3.v b)] rfl (Za (O.f rfl (Ef.box rfl rfl rfl) ?_))
 rintro _ _ ⟨b1, rfl, rfl⟩
 refine O.f rfl (Ef.box rfl rfl rfl) ?_
 rintro _ _ ⟨b2, rfl, rfl⟩
 refine O.m rfl (Zc (O.m rfl (Zi (V.unroll 3 (Vs ?_)))))
 refine Za (O.m rfl (O.q rfl (Pu.isT (by decide) (Pu.lss rfl rfl rfl)) (Zf (V.condT rfl (Vk (Xn (Vs (Vb (Vs ?_)))))))))
 refine V.draw mo (by kernel_rfl) (fun hwf => D.m 0 rfl (D.q 1 rfl (Pu.indexArr 0 0 rfl ut57 sz2 rfl rfl (by decide) (by decide) (by decide)) (D.q 2 rfl (Pu.load rfl pl2 rfl (Ld.blk 1 rfl rfl)) (D.m 3 rfl (D.q 4 rfl (Pu.indexArr 0 0 rfl ut57 sz2 rfl rfl (by decide) (by decide) (by decide)) (D.q 5 rfl (Pu.load rfl pl2 rfl (Ld.blk 0 rfl rfl)) (D.q 6 rfl (Pu.neq rfl rfl rfl) (D.done hwf rfl (Xn (V.condNot rfl (fun c1 => ?_) (fun c1 => ?_)))))))))))
 ·exact Za (O.m rfl (Ze (Xq (Xr (Xr (Xq (Xr (X.ret1 rfl rfl (fun w hw => St.retP (boolF (fun h => c1 (by rw [h]))) hw)))))))))
 ·refine Zg (O.m rfl (O.q rfl (Pu.add64 (r := 1) (by decide) (by decide) rfl rfl rfl) (O.m rfl (On (X.again 2 (Zj ?_))))))
  refine O.m rfl (O.q rfl (Pu.isT (by decide) (Pu.lss rfl rfl rfl)) (Zf (V.condT rfl (Vk (Xn (Vs (Vb (Vs (V.ent (Ent.cons (t := 2) rfl (Ent.cons (t := 3) rfl (Ent.cons (t := 4) rfl (Ent.cons (t := 5) rfl (Ent.nil _))))) (V.draw mo (by kernel_rfl) (fun hwf => ?_)))))))))))
  refine D.m 0 rfl (D.q 1 rfl (Pu.indexArr 1 1 rfl ut57 sz2 rfl rfl (by decide) (by decide) (by decide)) (D.q 2 rfl (Pu.load rfl pl2 rfl (Ld.blk 1 rfl rfl)) (D.m 3 rfl (D.q 4 rfl (Pu.indexArr 1 1 rfl ut57 sz2 rfl rfl (by decide) (by decide) (by decide)) (D.q 5 rfl (Pu.load rfl pl2 rfl (Ld.blk 0 rfl rfl)) (D.q 6 rfl (Pu.neq rfl rfl rfl) (D.done hwf rfl (Xn (V.condNot rfl (fun c2 => ?_) (fun c2 => ?_))))))))))
  ·exact Za (O.m rfl (Ze (Xq (Xr (Xr (Xq (Xr (X.ret1 rfl rfl (fun w hw => St.retP (boolF (fun h => c2 (by rw [h]))) hw)))))))))
  ·refine Zg (O.m rfl (O.q rfl (Pu.add64 (r := 2) (by decide) (by decide) rfl rfl rfl) (O.m rfl (On (X.again 1 (Zj ?_))))))
   refine O.m rfl (O.q rfl (Pu.isT (by decide) (Pu.lss rfl rfl rfl)) (Zf (V.condT rfl (Vk (Xn (Vs (Vb (Vs (V.ent (Ent.cons (t := 2) rfl (Ent.cons (t := 3) rfl (Ent.cons (t := 4) rfl (Ent.cons (t := 5) rfl (Ent.nil _))))) (V.draw mo (by kernel_rfl) (fun hwf => ?_)))))))))))
   refine D.m 0 rfl (D.q 1 rfl (Pu.indexArr 2 2 rfl ut57 sz2 rfl rfl (by decide) (by decide) (by decide)) (D.q 2 rfl (Pu.load rfl pl2 rfl (Ld.blk 1 rfl rfl)) (D.m 3 rfl (D.q 4 rfl (Pu.indexArr 2 2 rfl ut57 sz2 rfl rfl (by decide) (by decide) (by decide)) (D.q 5 rfl (Pu.load rfl pl2 rfl (Ld.blk 0 rfl rfl)) (D.q 6 rfl (Pu.neq rfl rfl rfl) (D.done hwf rfl (Xn (V.condNot rfl (fun c3 => ?_) (fun c3 => ?_))))))))))
   ·exact Za (O.m rfl (Ze (Xq (Xr (Xr (Xq (Xr (X.ret1 rfl rfl (fun w hw => St.retP (boolF (fun h => c3 (by rw [h]))) hw)))))))))
   ·refine Zg (O.m rfl (O.q rfl (Pu.add64 (r := 3) (by decide) (by decide) rfl rfl rfl) (O.m rfl (On (X.again 0 (Zj ?_))))))
    refine O.m rfl (O.q rfl (Pu.isF (by decide) (Pu.lss rfl rfl rfl)) (Zf (V.condF rfl (Zd ?_))))
    exact O.m rfl (Ze (X.ret1 rfl rfl (fun w hw => St.retP (boolT (Prod.ext c1 (Prod.ext c2 c3))) hw)))
set_option maxRecDepth 100000 in
theorem eqBlockS_ok (xs ys : List B3) (A A2 : Option Addr) (c c2 : Nat) (w : World) (hx : Rd B3C w A xs) (hy : Rd B3C w A2 ys) (lx : xs.length ≤ 4611686018427387904) (ly : ys.length ≤ 4611686018427387904) : Does Try.prog 28 [.slice A xs.length c, .slice A2 ys.length c2] w [] (fun v => [.pur (v = .bool (decide (xs = ys)))]) := by
 refine Does.enter Try.func28 rfl rfl [(0, .slice A xs.length c), (1, .slice A2 ys.length c2)] rfl (Za (O.m rfl (Zc (O.m rfl (O.q rfl (Pu.len rfl ut30 rfl) (O.m rfl ?_))))))
 refine O.q rfl (Pu.len rfl ut30 rfl) (O.q rfl (Pu.neq rfl rfl rfl) (Zf (V.condNot rfl (fun c1 => ?_) (fun c1 => ?_))))
 ·exact Za (O.m rfl (Ze (Xr (X.ret1 rfl rfl (fun w hw => St.retP (boolF (fun h => c1 (by rw [h]))) hw)))))
 ·refine Vk (Xn (Zj (O.m rfl (Zi (V.loop2 (β := Nat) (fun k => [(5, .int .i64 (k : Int))]) _ (fun k => []) (fun k => k ≤ xs.length ∧ ∀ j (h1 : j < xs.length) (h2 : j < ys.length), j < k → xs[j] = ys[j]) (fun k => xs.length - k) 0 ⟨by omega, fun j _ _ h => by omega⟩ (Ent.cons rfl (Ent.nil _)) (Ent.cons (t := 0) rfl (Ent.cons (t := 1) rfl (Ent.nil _))) (Sub.nil _) ?_)))))
  rintro k ⟨hk, he⟩
  refine Zj (O.m rfl (O.m rfl (O.q rfl (Pu.len rfl ut30 rfl) (O.q rfl (Pu.lss rfl rfl rfl) (Zf (V.condD rfl (fun c2 => ?_) (fun c2 => ?_)))))))
  ·refine Vk (Xn (Vs (Vb (Vs (V.draw mo (by kernel_rfl) (fun hwf => D.m 0 rfl (D.m 1 rfl (D.q 2 rfl (Pu.indexAddr (k) rfl ut30 sz57 rfl rfl (by omega) (by omega) (hx.some (by omega))) ?_))))))))
   have e1 : k < xs.length := by omega
   refine D.q 3 rfl (Pu.loadAgg' (v := B3.v (xs[k]'e1)) rfl rfl ag57 sz57 rfl rfl (Ld.rds (Ld.old hx) (k := k) e1 rfl)) (D.m 4 rfl (D.m 5 rfl (D.q 6 rfl (Pu.indexAddr (k) rfl ut30 sz57 rfl rfl (by omega) (by omega) (hy.some (by omega))) ?_)))
   have e2 : k < ys.length := by omega
   refine D.q 7 rfl (Pu.loadAgg' (v := B3.v (ys[k]'e2)) rfl rfl ag57 sz57 rfl rfl (Ld.rds (Ld.old hy) (k := k) e2 rfl)) (D.f hwf 8 rfl (Ef.callP call44 rfl rfl (fun w hw => eqBlock_ok (xs[k]'e1) (ys[k]'e2) w)) ?_)
   rintro _ _ ⟨rfl, rfl⟩ hs
   refine ⟨fun w hw => hw, (D.q 9 rfl (Pu.not rfl rfl) (D.done hwf rfl (Xn (V.condNot rfl (fun c3 => ?_) (fun c3 => ?_)))))⟩
   ·exact Za (O.m rfl (Ze (Xq (Xr (Xr (Xq (Xr (X.ret1 rfl rfl (fun w hw => St.retP (boolF (fun h => c3 (by simp [h]))) hw)))))))))
   ·exact Zg (O.m rfl (O.q rfl (Pu.add64 (r := ((k + 1 : Nat) : Int)) rfl (by omega) rfl rfl rfl) (O.m rfl (On (X.back2 (k + 1) ⟨by omega, fun j h1 h2 hj => by by_cases e : j = k; (· subst e; exact c3); (· exact he j h1 h2 (by omega))⟩ (by omega) (Ent.cons rfl (Ent.nil _)) (Ent.cons (t := 0) rfl (Ent.cons (t := 1) rfl (Ent.nil _))) (Sub.nil _))))))
  ·exact Zd (O.m rfl (Ze (X.ret1 rfl rfl (fun w hw => St.retP (boolT (List.ext_getElem (by omega) (fun j h1 h2 => he j h1 h2 (by omega)))) hw))))
set_option maxRecDepth 100000 in
theorem toBlockS_ok (bs : List B3) (A : Option Addr) (c : Nat) (w : World) (hx : Rd B3C w A bs) (lx : bs.length ≤ 1099511627776) : Does Try.prog 18 [.slice A bs.length c] w [] (fun v => [.exi fun A' : Option Addr => .sep (.pur (A'.isSome = true ∧ v = .slice A' bs.length bs.length)) (Own 57 B3C A' bs.length bs)]) := by
 refine Does.enter Try.func18 rfl rfl [(0, .slice A bs.length c)] rfl (Za (O.m rfl (Zb (O.m rfl (O.q rfl (Pu.len rfl ut22 rfl) (O.f rfl (Ef.make B3C ((0, 0, 0) : B3) rfl ut30 inf57 rfl rfl rfl rfl (by omega) (by omega)) ?_))))))
 rintro _ _ ⟨A1, hA1, rfl, rfl⟩
 refine O.m rfl (Zc (O.m rfl (Zi (V.loop2 (β := Nat) (fun k => [(4, .int .i64 (k : Int))]) _ (fun k => [Own 57 B3C A1 bs.length (fill bs (0, 0, 0) k)]) (fun k => k ≤ bs.length) (fun k => bs.length - k) 0 (by omega) (Ent.cons rfl (Ent.nil _)) (Ent.cons (t := 0) rfl (Ent.cons (t := 2) rfl (Ent.cons (t := 3) rfl (Ent.nil _)))) (Sub.cons 0 rfl (fun w F h => by rw [fill_zero]; exact h) (Sub.nil _)) ?_))))
 rintro k hk
 refine Zj (O.m rfl (O.m rfl (O.q rfl (Pu.len rfl ut22 rfl) (O.q rfl (Pu.lss rfl rfl rfl) (Zf (V.condD rfl (fun c1 => ?_) (fun c1 => ?_)))))))
 ·refine Vk (Xn (Vs (Vb (Vr (O.m rfl (O.m rfl (O.m rfl (O.m rfl (O.q rfl (Pu.indexAddr (k) rfl ut22 sz56 rfl rfl (by omega) (by omega) (hx.some (by omega))) ?_)))))))))
  have e1 : k < bs.length := by omega
  refine O.q rfl (Pu.loadAgg' (v := B3.v (bs[k]'e1)) rfl rfl ag56 sz56 rfl rfl (Ld.rds (Ld.old hx) (k := k) e1 rfl)) (O.f rfl (Ef.callP call35 rfl rfl (fun w hw => toBlock_ok (bs[k]'e1) w)) ?_)
  rintro _ _ ⟨rfl, rfl⟩
  refine O.q rfl (Pu.indexAddr (k) rfl ut30 sz57 rfl rfl (by omega) (by omega) hA1) (O.s rfl rfl (Ef.storeOwn 0 (k) (bs[k]'e1) rfl sz57 rfl rfl rfl rfl (by rw [fill_length (by omega)]; omega) rfl) ?_)
  rintro _ _ rfl
  exact Zk (O.m rfl (O.q rfl (Pu.add64 (r := ((k + 1 : Nat) : Int)) rfl (by omega) rfl rfl rfl) (O.m rfl (On (X.back2 (k + 1) (by omega) (by omega) (Ent.cons rfl (Ent.nil _)) (Ent.cons (t := 0) rfl (Ent.cons (t := 2) rfl (Ent.cons (t := 3) rfl (Ent.nil _)))) (Sub.cons 0 rfl (fun w F h => by rw [fill_set (by omega)] at h; exact h) (Sub.nil _)))))))
 ·refine Zd (O.m rfl (O.m rfl (Ze ?_)))
  exact X.ret1 rfl rfl (fun w hw => St.retX A1 ⟨hA1, rfl⟩ (hw.sub (Sub.cons 0 rfl (fun w F h => by rwa [fill_all (by omega)] at h) (Sub.nil _))))
set_option maxRecDepth 100000 in
theorem toSystem_ok (v : Int) (bs : List B3) (A : Option Addr) (c : Nat) (w : World) (hx : Rd B3C w A bs) (lx : bs.length ≤ 1099511627776) : Does Try.prog 7 [.agg #[.int .i64 v, .slice A bs.length c]] w [] (fun r => [.exi fun A' : Option Addr => .sep (.pur (A'.isSome = true ∧ r = .agg #[.int .i64 v, .slice A' bs.length bs.length])) (Own 57 B3C A' bs.length bs)]) := by
 refine Does.enter Try.func7 rfl rfl [(0, .agg #[.int .i64 v, .slice A bs.length c])] rfl (Za (O.f rfl (Ef.box rfl rfl rfl) ?_))
 rintro _ _ ⟨b1, rfl, rfl⟩
 refine O.f rfl (Ef.alloc rfl zr32 rfl) ?_
 rintro _ _ ⟨b2, rfl, rfl⟩
 refine Zb (O.f rfl (Ef.alloc rfl zr32 rfl) ?_)
 rintro _ _ ⟨b3, rfl, rfl⟩
 refine Zb (O.q rfl (Pu.fieldAddr 0 rfl ut24 rfl sz2 rfl rfl) (O.q rfl (Pu.load rfl pl2 rfl (Ld.blk 2 rfl rfl)) (O.q rfl (Pu.fieldAddr 0 rfl ut32 rfl sz2 rfl rfl) (O.s rfl rfl (Ef.store1 (cs' := [_, _]) 0 rfl sz2 rfl rfl rfl rfl rfl (ltb rfl) rfl) ?_))))
 rintro _ _ rfl
 refine Zb (O.q rfl (Pu.fieldAddr 1 rfl ut24 rfl sz22 rfl rfl) (O.q rfl (Pu.load rfl pl22 rfl (Ld.blk 2 rfl rfl)) (O.f rfl (Ef.call1 call18 rfl rfl (fun w hw => toBlockS_ok bs _ _ w ((Ld.old hx) w hw) (by omega))) ?_)))
 rintro _ _ rfl
 refine O.exi (fun A1 => O.sep (O.pur ?_))
 rintro ⟨hA1, rfl⟩
 refine O.q rfl (Pu.fieldAddr 1 rfl ut32 rfl sz30 rfl rfl) (O.s rfl rfl (Ef.store1 (cs' := [_, _]) 1 rfl sz30 rfl rfl rfl rfl rfl (ltb rfl) rfl) ?_)
 rintro _ _ rfl
 refine Zb (O.q rfl (Pu.loadAgg rfl ag32 sz32 rfl rfl (Ld.whole 1 rfl)) (O.s rfl rfl (Ef.storeAll 2 rfl sz32 rfl rfl rfl rfl (by simp [Value.oneCell']) rfl) ?_))
 rintro _ _ rfl
 exact Ze (X.retCell rfl ag32 sz32 rfl rfl (Ld.whole 2 rfl) (fun w hw => St.retX A1 ⟨hA1, rfl⟩ (hw.sub (Sub.s [0] rfl))))
set_option maxRecDepth 100000 in
theorem eqSystem_ok (v1 v2 : Int) (xs ys : List B3) (A A2 : Option Addr) (c c2 : Nat) (w : World) (hx : Rd B3C w A xs) (hy : Rd B3C w A2 ys) (lx : xs.length ≤ 4611686018427387904) (ly : ys.length ≤ 4611686018427387904) : Does Try.prog 10 [.agg #[.int .i64 v1, .slice A xs.length c], .agg #[.int .i64 v2, .slice A2 ys.length c2]] w [] (fun v => [.pur (v = .bool (decide (v1 = v2 ∧ xs = ys)))]) := by
 refine Does.enter Try.func10 rfl rfl [(0, .agg #[.int .i64 v1, .slice A xs.length c]), (1, .agg #[.int .i64 v2, .slice A2 ys.length c2])] rfl (Za (O.f rfl (Ef.box rfl rfl rfl) ?_))
 rintro _ _ ⟨b1, rfl, rfl⟩
 refine O.f rfl (Ef.box rfl rfl rfl) ?_
 rintro _ _ ⟨b2, rfl, rfl⟩
 refine O.m rfl (Zc (O.q rfl (Pu.fieldAddr 0 rfl ut32 rfl sz2 rfl rfl) (O.q rfl (Pu.load rfl pl2 rfl (Ld.blk 1 rfl rfl)) (O.q rfl (Pu.fieldAddr 0 rfl ut32 rfl sz2 rfl rfl) (O.q rfl (Pu.load rfl pl2 rfl (Ld.blk 0 rfl rfl)) (O.q rfl (Pu.neq rfl rfl rfl) (On ?_)))))))
 refine Xn (V.condNot rfl (fun c1 => ?_) (fun c1 => ?_))
 ·exact Za (O.m rfl (Ze (Xr (X.ret1 rfl rfl (fun w hw => St.retP (boolF (fun h => c1 h.1)) hw)))))
 ·refine Vk (Xn (Zj (O.q rfl (Pu.fieldAddr 1 rfl ut32 rfl sz30 rfl rfl) (O.q rfl (Pu.load rfl pl30 rfl (Ld.blk 1 rfl rfl)) (O.q rfl (Pu.fieldAddr 1 rfl ut32 rfl sz30 rfl rfl) (O.q rfl (Pu.load rfl pl30 rfl (Ld.blk 0 rfl rfl)) (O.f rfl (Ef.callP call28 rfl rfl (fun w hw => eqBlockS_ok xs ys _ _ _ _ w ((Ld.old hx) w hw) ((Ld.old hy) w hw) (by omega) (by omega))) ?_)))))))
  rintro _ _ ⟨rfl, rfl⟩
  refine O.q rfl (Pu.not rfl rfl) (Zf (V.condNot rfl (fun c2 => ?_) (fun c2 => ?_)))
  ·exact Za (O.m rfl (Ze (Xr (X.ret1 rfl rfl (fun w hw => St.retP (boolF (fun h => c2 h.2)) hw)))))
  ·exact Vk (Xn (Za (O.m rfl (Ze (X.ret1 rfl rfl (fun w hw => St.retP (boolT ⟨c1, c2⟩) hw))))))
set_option maxRecDepth 100000 in
theorem l03Less_ok (xs ys : List Int) (A A2 : Option Addr) (c c2 : Nat) (w : World) (hx : Rd I64 w A xs) (hy : Rd I64 w A2 ys) (lx : xs.length ≤ 9223372036854775807) (ly : ys.length ≤ 9223372036854775807) : Does Try.prog 17 [.slice A xs.length c, .slice A2 ys.length c2] w [] (fun v => [.pur (v = .bool (decide (cmpL xs ys < 0)))]) := by
 refine Does.enter Try.func17 rfl rfl [(0, .slice A xs.length c), (1, .slice A2 ys.length c2)] rfl (Za (O.m rfl (Zc (O.m rfl (Zf ?_)))))
 refine Vb (V.loop2 (β := Nat) (fun k => [(5, .int .i64 (k : Int))]) _ (fun k => []) (fun k => k ≤ xs.length ∧ k ≤ ys.length ∧ cmpL (xs.drop k) (ys.drop k) = cmpL xs ys) (fun k => xs.length - k) 0 ⟨by omega, by omega, rfl⟩ (Ent.cons rfl (Ent.nil _)) (Ent.cons (t := 0) rfl (Ent.cons (t := 1) rfl (Ent.nil _))) (Sub.nil _) ?_)
 rintro k ⟨hk1, hk2, hk3⟩
 refine Zj (O.m rfl (O.m rfl (O.q rfl (Pu.len rfl ut40 rfl) (O.q rfl (Pu.lss rfl rfl rfl) (O.m rfl (O.splitD 10 rfl (fun c1 => ?_) (fun c1 => ?_)))))))
 ·refine O.gm rfl (O.gm rfl (O.gq rfl (Pu.len rfl ut40 rfl) (O.gq rfl (Pu.lss rfl rfl rfl) (O.m rfl (Zf (V.condD rfl (fun c2 => ?_) (fun c2 => ?_)))))))
  ·refine Vk (Xn (Vs (Vb (Vs (V.draw mo (by kernel_rfl) (fun hwf => D.m 0 rfl (D.m 1 rfl (D.q 2 rfl (Pu.indexAddr (k) rfl ut40 sz2 rfl rfl (by omega) (by omega) (hx.some (by omega))) ?_))))))))
   have e1 : k < xs.length := by omega
   refine D.q 3 rfl (Pu.load rfl pl2 rfl (Ld.rd (Ld.old hx) (k := k) e1 rfl rfl)) (D.m 4 rfl (D.m 5 rfl (D.q 6 rfl (Pu.indexAddr (k) rfl ut40 sz2 rfl rfl (by omega) (by omega) (hy.some (by omega))) ?_)))
   have e2 : k < ys.length := by omega
   refine D.q 7 rfl (Pu.load rfl pl2 rfl (Ld.rd (Ld.old hy) (k := k) e2 rfl rfl)) (D.q 8 rfl (Pu.neq rfl rfl rfl) (D.done hwf rfl (Xn (V.condNot rfl (fun c3 => ?_) (fun c3 => ?_)))))
   ·refine Vs (V.draw mo (by kernel_rfl) (fun hwf => D.m 0 rfl (D.m 1 rfl (D.q 2 rfl (Pu.indexAddr (k) rfl ut40 sz2 rfl rfl (by omega) (by omega) (hx.some (by omega))) (D.q 3 rfl (Pu.load rfl pl2 rfl (Ld.rd (Ld.old hx) (k := k) e1 rfl rfl)) (D.m 4 rfl (D.m 5 rfl (D.q 6 rfl (Pu.indexAddr (k) rfl ut40 sz2 rfl rfl (by omega) (by omega) (hy.some (by omega))) (D.q 7 rfl (Pu.load rfl pl2 rfl (Ld.rd (Ld.old hy) (k := k) e2 rfl rfl)) (D.q 8 rfl (Pu.lss rfl rfl rfl) (D.m 9 rfl ?_)))))))))))
    exact D.done hwf rfl (Xn (Vt (Xq (Xr (Xr (Xq (Xr (X.ret1 rfl rfl (fun w hw => St.retP (boolD (by have := cmpL_ne (by omega) (by omega) (fun h => c3 (cmpI_zero.1 h)); rw [← hk3, ← this]; unfold cmpI; repeat' split; all_goals omega)) hw)))))))))
   ·exact Zg (O.m rfl (O.q rfl (Pu.add64 (r := ((k + 1 : Nat) : Int)) rfl (by omega) rfl rfl rfl) (O.m rfl (On (X.back2 (k + 1) ⟨by omega, by omega, cmpL_step hk3 (by omega) (by omega) (cmpI_zero.2 c3)⟩ (by omega) (Ent.cons rfl (Ent.nil _)) (Ent.cons (t := 0) rfl (Ent.cons (t := 1) rfl (Ent.nil _))) (Sub.nil _))))))
  ·refine Zd (O.m rfl (O.q rfl (Pu.len rfl ut40 rfl) (O.m rfl (O.q rfl (Pu.len rfl ut40 rfl) (O.q rfl (Pu.lss rfl rfl rfl) ?_)))))
   exact O.m rfl (Ze (X.ret1 rfl rfl (fun w hw => St.retP (boolD (by rw [← hk3]; have h1 := @cmpL_less xs ys k; have h2 := @cmpL_more xs ys k; have h3 := @cmpL_end xs ys k; omega)) hw)))
 ·refine O.g rfl (O.g rfl (O.g rfl (O.g rfl (O.m rfl (Zf (V.condF rfl (Ve (Xe (Xe (Xh ?_))))))))))
  refine Xn (Za (O.m rfl (O.q rfl (Pu.len rfl ut40 rfl) (O.m rfl (O.q rfl (Pu.len rfl ut40 rfl) (O.q rfl (Pu.lss rfl rfl rfl) (O.m rfl (Ze ?_))))))))
  exact X.ret1 rfl rfl (fun w hw => St.retP (boolD (by rw [← hk3]; have h1 := @cmpL_less xs ys k; have h2 := @cmpL_more xs ys k; have h3 := @cmpL_end xs ys k; omega)) hw)
set_option maxRecDepth 100000 in
theorem l05Bits_ok (b : B3) (w : World) (hb : good 15 b) : Does Try.prog 46 [B3.v b] w [] (fun v => [.pur (v = .int .i64 ((bmask b : Nat) : Int))]) := by
 refine Does.enter Try.func46 rfl rfl [(0, B3.v b)] rfl (Vs ?_)
 have hb' := hb
 unfold good at hb'
 have q1 := Nat.two_pow_pos b.1.toNat
 have q2 := Nat.two_pow_pos b.2.1.toNat
 have q3 := Nat.two_pow_pos b.2.2.toNat
 have p1 : 2 ^ b.1.toNat ≤ 2 ^ 14 := Nat.pow_le_pow_right (by decide) (by omega)
 have p2 : 2 ^ b.2.1.toNat ≤ 2 ^ 14 := Nat.pow_le_pow_right (by decide) (by omega)
 have p3 : 2 ^ b.2.2.toNat ≤ 2 ^ 14 := Nat.pow_le_pow_right (by decide) (by omega)
 refine Vr (O.f rfl (Ef.box rfl rfl rfl) ?_)
 rintro _ _ ⟨b1, rfl, rfl⟩
 refine O.m rfl (Zb (O.q rfl (Pu.indexArr 0 0 rfl ut57 sz2 rfl rfl (by decide) (by decide) (by decide)) (O.q rfl (Pu.load rfl pl2 rfl (Ld.blk 0 rfl rfl)) (O.q rfl (Pu.convU' ((b.1).toNat) (by omega) ⟨_, ut2⟩ ut61 (by omega) rfl rfl) (O.q rfl (Pu.shl1 (p := (b.1).toNat) K64.i (by omega) rfl rfl rfl) (O.q rfl (Pu.indexArr 1 1 rfl ut57 sz2 rfl rfl (by decide) (by decide) (by decide)) (O.q rfl (Pu.load rfl pl2 rfl (Ld.blk 0 rfl rfl)) (O.q rfl (Pu.convU' ((b.2.1).toNat) (by omega) ⟨_, ut2⟩ ut61 (by omega) rfl rfl) ?_))))))))
 exact O.q rfl (Pu.shl1 (p := (b.2.1).toNat) K64.i (by omega) rfl rfl rfl) (O.q rfl (Pu.add64 (r := (((2 ^ ((b.1).toNat)) + (2 ^ ((b.2.1).toNat)) : Nat) : Int)) (by omega) (by omega) rfl rfl rfl) (O.q rfl (Pu.indexArr 2 2 rfl ut57 sz2 rfl rfl (by decide) (by decide) (by decide)) (O.q rfl (Pu.load rfl pl2 rfl (Ld.blk 0 rfl rfl)) (O.q rfl (Pu.convU' ((b.2.2).toNat) (by omega) ⟨_, ut2⟩ ut61 (by omega) rfl rfl) (O.q rfl (Pu.shl1 (p := (b.2.2).toNat) K64.i (by omega) rfl rfl rfl) (O.q rfl (Pu.add64 (r := (((2 ^ ((b.1).toNat)) + (2 ^ ((b.2.1).toNat)) + (2 ^ ((b.2.2).toNat)) : Nat) : Int)) (by omega) (by omega) rfl rfl rfl) (O.m rfl (Ze (X.ret1 rfl rfl (fun w hw => St.retP (rfl) hw))))))))))
set_option maxRecDepth 100000 in
theorem has_ok (b : B3) (p : Int) (w : World) : Does Try.prog 59 [B3.v b, .int .i64 p] w [] (fun v => [.pur (v = .bool (decide (has b p)))]) := by
 refine Does.enter Try.func59 rfl rfl [(0, B3.v b), (1, .int .i64 p)] rfl (Za (O.f rfl (Ef.box rfl rfl rfl) ?_))
 rintro _ _ ⟨b1, rfl, rfl⟩
 refine O.m rfl (Zb (O.q rfl (Pu.indexArr 0 0 rfl ut57 sz2 rfl rfl (by decide) (by decide) (by decide)) (O.q rfl (Pu.load rfl pl2 rfl (Ld.blk 0 rfl rfl)) (O.m rfl (O.q rfl (Pu.eql rfl rfl rfl) (O.m rfl (O.splitD 9 rfl (fun c1 => ?_) (fun c1 => ?_))))))))
 ·refine O.g rfl (O.g rfl (O.g rfl (O.g rfl (O.m rfl (O.m rfl (O.g rfl (O.g rfl (O.g rfl (O.g rfl (O.m rfl (O.m rfl ?_)))))))))))
  exact Ze (X.ret1 rfl rfl (fun w hw => St.retP (by first | exact boolT (.inl c1) | exact boolT (.inr (.inl c2)) | exact boolT (.inr (.inl c3)) | exact boolD (by unfold has; simp only [c1, c2, false_or])) hw))
 ·refine O.gq rfl (Pu.indexArr 1 1 rfl ut57 sz2 rfl rfl (by decide) (by decide) (by decide)) (O.gq rfl (Pu.load rfl pl2 rfl (Ld.blk 0 rfl rfl)) (O.gm rfl (O.gq rfl (Pu.eql rfl rfl rfl) (O.m rfl (O.m rfl (O.splitD 15 rfl (fun c2 => ?_) (fun c2 => ?_)))))))
  ·exact O.g rfl (O.g rfl (O.g rfl (O.g rfl (O.m rfl (O.m rfl (Ze (X.ret1 rfl rfl (fun w hw => St.retP (by first | exact boolT (.inl c1) | exact boolT (.inr (.inl c2)) | exact boolT (.inr (.inl c3)) | exact boolD (by unfold has; simp only [c1, c2, false_or])) hw))))))))
  ·exact O.gq rfl (Pu.indexArr 2 2 rfl ut57 sz2 rfl rfl (by decide) (by decide) (by decide)) (O.gq rfl (Pu.load rfl pl2 rfl (Ld.blk 0 rfl rfl)) (O.gm rfl (O.gq rfl (Pu.eql rfl rfl rfl) (O.m rfl (O.m rfl (Ze (X.ret1 rfl rfl (fun w hw => St.retP (by first | exact boolT (.inl c1) | exact boolT (.inr (.inl c2)) | exact boolT (.inr (.inl c3)) | exact boolD (by unfold has; simp only [c1, c2, false_or])) hw))))))))
set_option maxRecDepth 100000 in
theorem meets_ok (b d : B3) (w : World) : Does Try.prog 51 [B3.v b, B3.v d] w [] (fun v => [.pur (v = .bool (decide (meets b d)))]) := by
 refine Does.enter Try.func51 rfl rfl [(0, B3.v b), (1, B3.v d)] rfl (Za (O.f rfl (Ef.box rfl rfl rfl) ?_))
 rintro _ _ ⟨b1, rfl, rfl⟩
 refine O.f rfl (Ef.box rfl rfl rfl) ?_
 rintro _ _ ⟨b2, rfl, rfl⟩
 refine O.m rfl (Zb (O.q rfl (Pu.loadAgg rfl ag57 sz57 rfl rfl (Ld.whole 0 rfl)) (O.q rfl (Pu.indexArr 0 0 rfl ut57 sz2 rfl rfl (by decide) (by decide) (by decide)) (O.q rfl (Pu.load rfl pl2 rfl (Ld.blk 1 rfl rfl)) (O.f rfl (Ef.callP call59 rfl rfl (fun w hw => has_ok d _ w)) ?_)))))
 rintro _ _ ⟨rfl, rfl⟩
 refine O.m rfl (O.splitD 9 rfl (fun c1 => ?_) (fun c1 => ?_))
 ·refine O.g rfl (O.g rfl (O.g rfl (O.g rfl (O.m rfl (O.m rfl (O.g rfl (O.g rfl (O.g rfl (O.g rfl (O.m rfl (O.m rfl ?_)))))))))))
  exact Ze (X.ret1 rfl rfl (fun w hw => St.retP (by first | exact boolT (.inl c1) | exact boolT (.inr (.inl c2)) | exact boolT (.inr (.inl c3)) | exact boolD (by unfold meets; simp only [c1, c2, false_or])) hw))
 ·refine O.gq rfl (Pu.loadAgg rfl ag57 sz57 rfl rfl (Ld.whole 0 rfl)) (O.gq rfl (Pu.indexArr 1 1 rfl ut57 sz2 rfl rfl (by decide) (by decide) (by decide)) (O.gq rfl (Pu.load rfl pl2 rfl (Ld.blk 1 rfl rfl)) (O.gf rfl (Ef.callP call59 rfl rfl (fun w hw => has_ok d _ w)) ?_)))
  rintro _ _ ⟨rfl, rfl⟩
  refine O.m rfl (O.m rfl (O.splitD 15 rfl (fun c2 => ?_) (fun c2 => ?_)))
  ·exact O.g rfl (O.g rfl (O.g rfl (O.g rfl (O.m rfl (O.m rfl (Ze (X.ret1 rfl rfl (fun w hw => St.retP (by first | exact boolT (.inl c1) | exact boolT (.inr (.inl c2)) | exact boolT (.inr (.inl c3)) | exact boolD (by unfold meets; simp only [c1, c2, false_or])) hw))))))))
  ·refine O.gq rfl (Pu.loadAgg rfl ag57 sz57 rfl rfl (Ld.whole 0 rfl)) (O.gq rfl (Pu.indexArr 2 2 rfl ut57 sz2 rfl rfl (by decide) (by decide) (by decide)) (O.gq rfl (Pu.load rfl pl2 rfl (Ld.blk 1 rfl rfl)) (O.gf rfl (Ef.callP call59 rfl rfl (fun w hw => has_ok d _ w)) ?_)))
   rintro _ _ ⟨rfl, rfl⟩
   exact O.m rfl (O.m rfl (Ze (X.ret1 rfl rfl (fun w hw => St.retP (by first | exact boolT (.inl c1) | exact boolT (.inr (.inl c2)) | exact boolT (.inr (.inl c3)) | exact boolD (by unfold meets; simp only [c1, c2, false_or])) hw))))
set_option maxRecDepth 100000 in
theorem eqInt64S_ok (xs ys : List Int) (A A2 : Option Addr) (c c2 : Nat) (w : World) (hx : Rd I64 w A xs) (hy : Rd I64 w A2 ys) (lx : xs.length ≤ 9223372036854775807) (ly : ys.length ≤ 9223372036854775807) : Does Try.prog 29 [.slice A xs.length c, .slice A2 ys.length c2] w [] (fun v => [.pur (v = .bool (decide (xs = ys)))]) := by
 refine Does.enter Try.func29 rfl rfl [(0, .slice A xs.length c), (1, .slice A2 ys.length c2)] rfl (Za (O.m rfl (Zc (O.m rfl (O.q rfl (Pu.len rfl ut40 rfl) (O.m rfl ?_))))))
 refine O.q rfl (Pu.len rfl ut40 rfl) (O.q rfl (Pu.neq rfl rfl rfl) (Zf (V.condNot rfl (fun c1 => ?_) (fun c1 => ?_))))
 ·exact Za (O.m rfl (Ze (Xr (X.ret1 rfl rfl (fun w hw => St.retP (boolF (fun h => c1 (by rw [h]))) hw)))))
 ·refine Vk (Xn (Zj (O.m rfl (Zi (V.loop2 (β := Nat) (fun k => [(5, .int .i64 (k : Int))]) _ (fun k => []) (fun k => k ≤ xs.length ∧ ∀ j (h1 : j < xs.length) (h2 : j < ys.length), j < k → xs[j] = ys[j]) (fun k => xs.length - k) 0 ⟨by omega, fun j _ _ h => by omega⟩ (Ent.cons rfl (Ent.nil _)) (Ent.cons (t := 0) rfl (Ent.cons (t := 1) rfl (Ent.nil _))) (Sub.nil _) ?_)))))
  rintro k ⟨hk, he⟩
  refine Zj (O.m rfl (O.m rfl (O.q rfl (Pu.len rfl ut40 rfl) (O.q rfl (Pu.lss rfl rfl rfl) (Zf (V.condD rfl (fun c2 => ?_) (fun c2 => ?_)))))))
  ·refine Vk (Xn (Vs (Vb (Vs (V.draw mo (by kernel_rfl) (fun hwf => D.m 0 rfl (D.m 1 rfl (D.q 2 rfl (Pu.indexAddr (k) rfl ut40 sz2 rfl rfl (by omega) (by omega) (hx.some (by omega))) ?_))))))))
   have e1 : k < xs.length := by omega
   refine D.q 3 rfl (Pu.load rfl pl2 rfl (Ld.rd (Ld.old hx) (k := k) e1 rfl rfl)) (D.m 4 rfl (D.m 5 rfl (D.q 6 rfl (Pu.indexAddr (k) rfl ut40 sz2 rfl rfl (by omega) (by omega) (hy.some (by omega))) ?_)))
   have e2 : k < ys.length := by omega
   refine D.q 7 rfl (Pu.load rfl pl2 rfl (Ld.rd (Ld.old hy) (k := k) e2 rfl rfl)) (D.q 8 rfl (Pu.neq rfl rfl rfl) (D.done hwf rfl (Xn (V.condNot rfl (fun c3 => ?_) (fun c3 => ?_)))))
   ·exact Za (O.m rfl (Ze (Xq (Xr (Xr (Xq (Xr (X.ret1 rfl rfl (fun w hw => St.retP (boolF (fun h => c3 (by simp [h]))) hw)))))))))
   ·exact Zg (O.m rfl (O.q rfl (Pu.add64 (r := ((k + 1 : Nat) : Int)) rfl (by omega) rfl rfl rfl) (O.m rfl (On (X.back2 (k + 1) ⟨by omega, fun j h1 h2 hj => by by_cases e : j = k; (· subst e; exact c3); (· exact he j h1 h2 (by omega))⟩ (by omega) (Ent.cons rfl (Ent.nil _)) (Ent.cons (t := 0) rfl (Ent.cons (t := 1) rfl (Ent.nil _))) (Sub.nil _))))))
  ·exact Zd (O.m rfl (Ze (X.ret1 rfl rfl (fun w hw => St.retP (boolT (List.ext_getElem (by omega) (fun j h1 h2 => he j h1 h2 (by omega)))) hw))))
set_option maxRecDepth 100000 in
theorem eqInt64SS_ok (ps qs : List (Sl × List Int)) (A A2 : Option Addr) (c c2 : Nat) (w : World) (hx : RdL I64 w A ps) (hy : RdL I64 w A2 qs) (lx : ps.length ≤ 4611686018427387904) (ly : qs.length ≤ 4611686018427387904) : Does Try.prog 11 [.slice A (tops ps).length c, .slice A2 (tops qs).length c2] w [] (fun v => [.pur (v = .bool (decide (conts ps = conts qs)))]) := by
 refine Does.enter Try.func11 rfl rfl [(0, .slice A (tops ps).length c), (1, .slice A2 (tops qs).length c2)] rfl (Vs ?_)
 have htp := tops_len ps
 have htq := tops_len qs
 have hcp := conts_len ps
 have hcq := conts_len qs
 refine Vr (O.m rfl (Zc (O.m rfl (O.q rfl (Pu.len rfl ut25 rfl) (O.m rfl (O.q rfl (Pu.len rfl ut25 rfl) (O.q rfl (Pu.neq rfl rfl rfl) ?_)))))))
 refine Zf (V.condNot rfl (fun c1 => ?_) (fun c1 => ?_))
 ·exact Za (O.m rfl (Ze (Xr (X.ret1 rfl rfl (fun w hw => St.retP (boolF (fun h => c1 (by rw [← htp, ← htq] at *; have := congrArg List.length h; omega))) hw)))))
 ·refine Vk (Xn (Zj (O.m rfl (Zi (V.loop2 (β := Nat) (fun k => [(5, .int .i64 (k : Int))]) _ (fun k => []) (fun k => k ≤ (tops ps).length ∧ ∀ j (h1 : j < ps.length) (h2 : j < qs.length), j < k → (ps[j]).2 = (qs[j]).2) (fun k => (tops ps).length - k) 0 ⟨by omega, fun j _ _ h => by omega⟩ (Ent.cons rfl (Ent.nil _)) (Ent.cons (t := 0) rfl (Ent.cons (t := 1) rfl (Ent.nil _))) (Sub.nil _) ?_)))))
  rintro k ⟨hk, he⟩
  refine Zj (O.m rfl (O.m rfl (O.q rfl (Pu.len rfl ut25 rfl) (O.q rfl (Pu.lss rfl rfl rfl) (Zf (V.condD rfl (fun c2 => ?_) (fun c2 => ?_)))))))
  ·refine Vk (Xn (Vs (Vb (Vs (V.draw mo (by kernel_rfl) (fun hwf => D.m 0 rfl (D.m 1 rfl (D.q 2 rfl (Pu.indexAddr (k) rfl ut25 sz40 rfl rfl (by omega) (by omega) (hx.top.some (by omega))) ?_))))))))
   have e1 : k < ps.length := by have := tops_len ps; omega
   refine D.q 3 rfl (Pu.load rfl pl40 rfl (Ld.row (Ld.old hx.top) hx.len e1 rfl)) (D.m 4 rfl (D.m 5 rfl (D.q 6 rfl (Pu.indexAddr (k) rfl ut25 sz40 rfl rfl (by omega) (by omega) (hy.top.some (by omega))) ?_)))
   have e2 : k < qs.length := by have := tops_len qs; omega
   refine D.q 7 rfl (Pu.load rfl pl40 rfl (Ld.row (Ld.old hy.top) hy.len e2 rfl)) (D.f hwf 8 rfl (Ef.callP call29 rfl rfl (fun w hw => eqInt64S_ok (ps[k]'e1).2 (qs[k]'e2).2 _ _ _ _ w ((Ld.old (hx.row k e1)) w hw) ((Ld.old (hy.row k e2)) w hw) (hx.len.le e1) (hy.len.le e2))) ?_)
   rintro _ _ ⟨rfl, rfl⟩ hs
   refine ⟨fun w hw => hw, (D.q 9 rfl (Pu.not rfl rfl) (D.done hwf rfl (Xn (V.condNot rfl (fun c3 => ?_) (fun c3 => ?_)))))⟩
   ·exact Za (O.m rfl (Ze (Xq (Xr (Xr (Xq (Xr (X.ret1 rfl rfl (fun w hw => St.retP (boolF (fun h => c3 (by rw [← conts_get ps (by omega), ← conts_get qs (by omega)]; simp [h]))) hw)))))))))
   ·exact Zg (O.m rfl (O.q rfl (Pu.add64 (r := ((k + 1 : Nat) : Int)) rfl (by omega) rfl rfl rfl) (O.m rfl (On (X.back2 (k + 1) ⟨by omega, fun j h1 h2 hj => by by_cases e : j = k; (· subst e; exact c3); (· exact he j h1 h2 (by omega))⟩ (by omega) (Ent.cons rfl (Ent.nil _)) (Ent.cons (t := 0) rfl (Ent.cons (t := 1) rfl (Ent.nil _))) (Sub.nil _))))))
  ·exact Zd (O.m rfl (Ze (X.ret1 rfl rfl (fun w hw => St.retP (boolT (List.ext_getElem (by omega) (fun j h1 h2 => by rw [conts_get, conts_get]; exact he j (by omega) (by omega) (by omega)))) hw))))
set_option maxRecDepth 100000 in
set_option maxHeartbeats 1000000 in
theorem indexFuncS_ok (s : List (Sl × List Int)) (p : Sl × List Int → Prop) [DecidablePred p] (gf : Nat) (caps : Array Value) (sA : Option Addr) (sc : Nat) (w : World) (hs : RdL I64 w sA s) (ls : s.length ≤ 1099511627776) (hok : CallOk Try.prog gf) (hf : ∀ (k : Nat) (hk : k < s.length) w', Bel w.heap.size w w' → Does Try.prog gf ([.slice (s[k]).1.A (s[k]).2.length (s[k]).1.c] ++ caps.toList) w' [] (fun v => [.pur (v = .bool (decide (p s[k])))])) : Does Try.prog 37 [.slice sA (tops s).length sc, .func (.func gf) #[] caps] w [] (fun r => [.pur (r = .int .i64 (idxP p s))]) := by
 refine Does.enter Try.func37 rfl rfl [(0, .slice sA (tops s).length sc), (1, .func (.func gf) #[] caps)] rfl ?_
 have htl := tops_len s
 refine Za (O.m rfl (Zc (O.m rfl (O.q rfl (Pu.len rfl ut25 rfl) (O.m rfl (On ?_))))))
 refine Xn (Vb (V.loop2 (β := Nat) (fun i => [(8, .int .i64 (i : Int))]) _ (fun i => []) (fun i => i ≤ s.length ∧ ∀ j (hj : j < s.length), j < i → ¬ p s[j]) (fun i => s.length - i) 0 ⟨by omega, fun j hj h => by omega⟩ (Ent.cons rfl (Ent.nil _)) (Ent.cons (t := 0) rfl (Ent.cons (t := 1) rfl (Ent.cons (t := 7) rfl (Ent.nil _)))) (Sub.nil _) ?_))
 rintro i ⟨hi, hn⟩
 refine Za (O.q rfl (Pu.lss rfl rfl rfl) (Zf (Vs (V.condD rfl (fun c1 => ?_) (fun c1 => ?_)))))
 ·refine Zh (O.m rfl (O.m rfl (Zb ?_)))
  refine O.m rfl (O.m rfl (O.m rfl (O.q rfl (Pu.indexAddr (i) rfl ut25 sz40 rfl rfl (by omega) (by omega) (hs.top.some (by omega))) ?_)))
  have e1 : i < s.length := by have := tops_len s; omega
  refine O.q rfl (Pu.load rfl pl40 rfl (Ld.row (Ld.old hs.top) hs.len e1 rfl)) (O.f rfl (Ef.callPV hok rfl rfl rfl (fun w' hw => hf i (by have := tops_len s; omega) w' hw.below)) ?_)
  rintro _ _ ⟨rfl, rfl⟩
  refine Zf (V.condD rfl (fun c2 => ?_) (fun c2 => ?_))
  ·refine Za (O.m rfl (O.m rfl (Ze (Xq (Xr (Xr (Xq (Xr ?_))))))))
   exact X.ret1 rfl rfl (fun w hw => St.retP (iv ((idxP_found (by omega) c2 hn).symm)) hw)
  ·exact Zg (O.q rfl (Pu.add64 (r := ((i + 1 : Nat) : Int)) rfl (by omega) rfl rfl rfl) (O.m rfl (On (X.back2 (i + 1) ⟨by omega, fun j hj h => by by_cases e : j = i; (· subst e; exact c2); (· exact hn j hj (by omega))⟩ (by first | omega | (dsimp only; omega)) (Ent.cons rfl (Ent.nil _)) (Ent.cons (t := 0) rfl (Ent.cons (t := 1) rfl (Ent.cons (t := 7) rfl (Ent.nil _)))) (Sub.nil _)))))
 ·exact Zd (O.m rfl (Ze (X.ret1 rfl rfl (fun w hw => St.retP (iv ((idxP_none (fun j hj => hn j hj (by omega))).symm)) hw))))
def layI_ren : Go.Shelf.Ren := ⟨fun | 5 => 54 | 8 => 62 | 7 => 61 | 19 => 72 | 20 => 73 | 10 => 63 | 11 => 64 | 12 => 65 | 13 => 66 | 14 => 67 | 15 => 68 | 16 => 69 | 17 => 70 | 18 => 71 | 30 => 74 | 31 => 75 | 32 => 76 | 33 => 77 | 34 => 78 | 35 => 52 | 40 => 79 | n => n, fun | 23 => 40 | 25 => 2 | 3 => 3 | 32 => 86 | 22 => 40 | 0 => 0 | 44 => 100 | 46 => 61 | 4 => 4 | 36 => 92 | 35 => 91 | 41 => 97 | 5 => 5 | 9 => 9 | 53 => 102 | 57 => 106 | 63 => 108 | 64 => 109 | n => n, fun | n => n⟩
theorem layI : SlLaysM.n5 Try.prog layI_ren where
  mixed := by kernel_rfl
  f5 := ⟨Try.f54.name, by decide, Try.func54.trans (congrArg some (by kernel_rfl))⟩
  f7 := ⟨Try.f61.name, by decide, Try.func61.trans (congrArg some (by kernel_rfl))⟩
  f8 := Try.func62.trans (congrArg some (by kernel_rfl))
  f10 := ⟨Try.f63.name, by decide, Try.func63.trans (congrArg some (by kernel_rfl))⟩
  f11 := ⟨Try.f64.name, by decide, Try.func64.trans (congrArg some (by kernel_rfl))⟩
  f12 := ⟨Try.f65.name, by decide, Try.func65.trans (congrArg some (by kernel_rfl))⟩
  f13 := ⟨Try.f66.name, by decide, Try.func66.trans (congrArg some (by kernel_rfl))⟩
  f14 := ⟨Try.f67.name, by decide, Try.func67.trans (congrArg some (by kernel_rfl))⟩
  f15 := ⟨Try.f68.name, by decide, Try.func68.trans (congrArg some (by kernel_rfl))⟩
  f16 := ⟨Try.f69.name, by decide, Try.func69.trans (congrArg some (by kernel_rfl))⟩
  f17 := ⟨Try.f70.name, by decide, Try.func70.trans (congrArg some (by kernel_rfl))⟩
  f18 := ⟨Try.f71.name, by decide, Try.func71.trans (congrArg some (by kernel_rfl))⟩
  f19 := Try.func72.trans (congrArg some (by kernel_rfl))
  f20 := Try.func73.trans (congrArg some (by kernel_rfl))
  f30 := ⟨Try.f74.name, by decide, Try.func74.trans (congrArg some (by kernel_rfl))⟩
  f31 := Try.func75.trans (congrArg some (by kernel_rfl))
  f32 := Try.func76.trans (congrArg some (by kernel_rfl))
  f33 := ⟨Try.f77.name, by decide, Try.func77.trans (congrArg some (by kernel_rfl))⟩
  f34 := ⟨Try.f78.name, by decide, Try.func78.trans (congrArg some (by kernel_rfl))⟩
  f35 := ⟨Try.f52.name, by decide, Try.func52.trans (congrArg some (by kernel_rfl))⟩
  f40 := ⟨Try.f79.name, by decide, Try.func79.trans (congrArg some (by kernel_rfl))⟩
  t0 := ut0
  a0 := Try.isAgg0
  z0 := Try.sizeOf0
  v0 := Try.zeroValue0
  t3 := ut3
  a3 := Try.isAgg3
  z3 := Try.sizeOf3
  v3 := Try.zeroValue3
  t4 := ut4
  a4 := Try.isAgg4
  z4 := Try.sizeOf4
  v4 := Try.zeroValue4
  t5 := ut5
  a5 := Try.isAgg5
  z5 := Try.sizeOf5
  v5 := Try.zeroValue5
  t9 := ut9
  a9 := Try.isAgg9
  z9 := Try.sizeOf9
  v9 := Try.zeroValue9
  t22 := ut40
  a22 := Try.isAgg40
  z22 := Try.sizeOf40
  v22 := Try.zeroValue40
  t23 := ut40
  a23 := Try.isAgg40
  z23 := Try.sizeOf40
  v23 := Try.zeroValue40
  t25 := ut2
  a25 := Try.isAgg2
  z25 := Try.sizeOf2
  v25 := Try.zeroValue2
  t32 := ut86
  a32 := Try.isAgg86
  z32 := Try.sizeOf86
  v32 := Try.zeroValue86
  t35 := ut91
  a35 := Try.isAgg91
  z35 := Try.sizeOf91
  v35 := Try.zeroValue91
  t36 := ut92
  a36 := Try.isAgg92
  z36 := Try.sizeOf92
  v36 := Try.zeroValue92
  t41 := ut97
  a41 := Try.isAgg97
  z41 := Try.sizeOf97
  v41 := Try.zeroValue97
  t44 := ut100
  a44 := Try.isAgg100
  z44 := Try.sizeOf100
  v44 := Try.zeroValue100
  t46 := ut61
  a46 := Try.isAgg61
  z46 := Try.sizeOf61
  v46 := Try.zeroValue61
  t53 := ut102
  a53 := Try.isAgg102
  z53 := Try.sizeOf102
  v53 := Try.zeroValue102
  t57 := ut106
  a57 := Try.isAgg106
  z57 := Try.sizeOf106
  v57 := Try.zeroValue106
  t63 := ut108
  a63 := Try.isAgg108
  z63 := Try.sizeOf108
  v63 := Try.zeroValue108
  t64 := ut109
  a64 := Try.isAgg109
  z64 := Try.sizeOf109
  v64 := Try.zeroValue109
theorem sortInt_ok (xs : List Int) (xsA : Option Addr) (xsc : Nat) (w0 : World) (H : List Assn) (lxs : xs.length ≤ 1099511627776) : Does Try.prog 54 [.slice xsA xs.length xsc] w0 (Own 2 I64 xsA xsc xs :: H) (fun v => [.sep (.pur (v = .tuple #[])) (Own 2 I64 xsA xsc (sortI xs))] ++ H) :=
  sortI_does layI (by omega)
set_option maxRecDepth 100000 in
set_option maxHeartbeats 1000000 in
theorem areNumbers_ok (v : Int) (bs : List B3) (list : List Int) (A : Option Addr) (c : Nat) (listA : Option Addr) (listc : Nat) (w : World) (hx : Rd B3C w A bs) (hlist : Rd I64 w listA list) (lx : bs.length ≤ 4611686018427387904) (llist : list.length ≤ 1099511627776) (lb : bs.length ≤ 1000000) : Does Try.prog 23 [.agg #[.int .i64 v, .slice A bs.length c], .slice listA list.length listc] w [] (fun r => [.pur (r = .bool (decide (rises (bs.length : Int) list)))]) := by
 refine Does.enter Try.func23 rfl rfl [(0, .agg #[.int .i64 v, .slice A bs.length c]), (1, .slice listA list.length listc)] rfl (Za (O.f rfl (Ef.box rfl rfl rfl) ?_))
 rintro _ _ ⟨b1, rfl, rfl⟩
 refine O.m rfl (Zb (O.m rfl (O.q rfl (Pu.fieldAddr 1 rfl ut32 rfl sz30 rfl rfl) (O.q rfl (Pu.load rfl pl30 rfl (Ld.blk 0 rfl rfl)) (O.q rfl (Pu.len rfl ut30 rfl) (O.f rfl (Ef.callP call38 rfl rfl (fun w hw => rises_ok _ _ _ _ w ((Ld.old hlist) w hw) (by omega) (by omega))) ?_))))))
 rintro _ _ ⟨rfl, rfl⟩
 exact O.m rfl (Ze (X.ret1 rfl rfl (fun w hw => St.retP (boolD (Iff.rfl)) hw)))
end Go.Proofs.Ytgfpljeppfaolaa
