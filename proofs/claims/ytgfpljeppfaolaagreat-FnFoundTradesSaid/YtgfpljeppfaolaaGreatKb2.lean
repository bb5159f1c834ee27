/-
  Contracts, part 2.
-/
import Derived.Test.YtgfpljeppfaolaaGreatKb1
set_option linter.unusedVariables false
set_option linter.unusedSimpArgs false
namespace Go.Proofs.YtgfpljeppfaolaaGreat
open Go Go.RowKit Go.Vc Go.Proofs
set_option maxRecDepth 100000 in
theorem within_ok (n lo hi : Int) (w : World) : Does Tryz.prog 105 [.int .i64 n, .int .i64 lo, .int .i64 hi] w [] (fun v => [.pur (v = .bool (decide (lo ≤ n ∧ n ≤ hi)))]) := by
 refine Does.enter Tryz.func105 rfl rfl [(0, .int .i64 n), (1, .int .i64 lo), (2, .int .i64 hi)] rfl (Za (O.m rfl (Zb (O.m rfl (O.m rfl (O.q rfl (Pu.geq rfl rfl rfl) (O.m rfl (O.splitD 10 rfl (fun c1 => ?_) (fun c1 => ?_)))))))))
 ·exact O.gm rfl (O.gm rfl (O.gq rfl (Pu.leq rfl rfl rfl) (O.m rfl (O.m rfl (Ze (X.ret1 rfl rfl (fun w hw => St.retP (boolD ⟨fun h => ⟨c1, h⟩, fun h => h.2⟩) hw)))))))
 ·exact O.g rfl (O.g rfl (O.g rfl (O.m rfl (O.m rfl (Ze (X.ret1 rfl rfl (fun w hw => St.retP (boolF (fun h => c1 h.1)) hw)))))))
set_option maxRecDepth 100000 in
theorem l01In_ok (n lo hi : Int) (w : World) : Does Tryz.prog 120 [.int .i64 n, .int .i64 lo, .int .i64 hi] w [] (fun v => [.pur (v = .bool (decide (lo ≤ n ∧ n ≤ hi)))]) := by
 refine Does.enter Tryz.func120 rfl rfl [(0, .int .i64 n), (1, .int .i64 lo), (2, .int .i64 hi)] rfl (Za (O.m rfl (Zb (O.m rfl (O.m rfl (O.q rfl (Pu.geq rfl rfl rfl) (O.m rfl (O.splitD 10 rfl (fun c1 => ?_) (fun c1 => ?_)))))))))
 ·exact O.gm rfl (O.gm rfl (O.gq rfl (Pu.leq rfl rfl rfl) (O.m rfl (O.m rfl (Ze (X.ret1 rfl rfl (fun w hw => St.retP (boolD ⟨fun h => ⟨c1, h⟩, fun h => h.2⟩) hw)))))))
 ·exact O.g rfl (O.g rfl (O.g rfl (O.m rfl (O.m rfl (Ze (X.ret1 rfl rfl (fun w hw => St.retP (boolF (fun h => c1 h.1)) hw)))))))
set_option maxRecDepth 100000 in
theorem isNaN_ok (n : Int) (w : World) : Does Tryz.prog 204 [.int .i64 n] w [] (fun v => [.pur (v = .bool false)]) := by
 refine Does.enter Tryz.func204 rfl rfl [(0, .int .i64 n)] rfl (Za (O.m rfl (Zb (O.m rfl (O.m rfl (O.q rfl (Pu.neq rfl rfl rfl) (O.m rfl ?_)))))))
 exact Ze (X.ret1 rfl rfl (fun w hw => St.retP (by simp) hw))
set_option maxRecDepth 100000 in
theorem cmpCompare_ok (x y : Int) (w : World) : Does Tryz.prog 179 [.int .i64 x, .int .i64 y] w [] (fun v => [.pur (v = .int .i64 (cmpI x y))]) := by
 refine Does.enter Tryz.func179 rfl rfl [(0, .int .i64 x), (1, .int .i64 y)] rfl (Za (O.m rfl (Zb (O.m rfl (O.f rfl (Ef.callP call204 rfl rfl (fun w hw => isNaN_ok _ _)) ?_)))))
 rintro _ _ ⟨rfl, rfl⟩
 refine O.m rfl (Zb (O.m rfl (O.f rfl (Ef.callP call204 rfl rfl (fun w hw => isNaN_ok _ _)) ?_)))
 rintro _ _ ⟨rfl, rfl⟩
 refine O.m rfl (Zc (O.m rfl (Zf (V.condF rfl (Vk (Xn ?_))))))
 refine Zj (O.m rfl (Zf (V.condF rfl (Vk (Xn (Zj ?_))))))
 refine O.m rfl (O.m rfl (O.q rfl (Pu.lss rfl rfl rfl) (Zf (V.condD rfl (fun c1 => ?_) (fun c1 => ?_)))))
 ·exact Za (O.m rfl (Ze (Xr (X.ret1 rfl rfl (fun w hw => St.retP (by simp [cmpI, c1]) hw)))))
 ·refine Vk (Xn (Zj (O.m rfl (O.m rfl (O.q rfl (Pu.gtr rfl rfl rfl) (Zf (V.condD rfl (fun c2 => ?_) (fun c2 => ?_))))))))
  ·exact Za (O.m rfl (Ze (Xr (X.ret1 rfl rfl (fun w hw => St.retP (by simp [cmpI, c1, c2]) hw)))))
  ·exact Vk (Xn (Za (O.m rfl (Ze (X.ret1 rfl rfl (fun w hw => St.retP (by simp [cmpI, c1, c2]) hw))))))
set_option maxRecDepth 100000 in
theorem slicesCompare_ok (xs ys : List Int) (A A2 : Option Addr) (c c2 : Nat) (w : World) (hx : Rd I64 w A xs) (hy : Rd I64 w A2 ys) (lx : xs.length ≤ 4611686018427387904) (ly : ys.length ≤ 4611686018427387904) : Does Tryz.prog 128 [.slice A xs.length c, .slice A2 ys.length c2] w [] (fun v => [.pur (v = .int .i64 (cmpL xs ys))]) := by
 refine Does.enter Tryz.func128 rfl rfl [(0, .slice A xs.length c), (1, .slice A2 ys.length c2)] rfl (Za (O.m rfl (Zc (O.m rfl (O.q rfl (Pu.len rfl ut49 rfl) (O.m rfl ?_))))))
 refine Zi (V.loop2 (β := Nat) (fun k => [(11, .int .i64 (k : Int))]) _ (fun k => []) (fun k => k ≤ xs.length ∧ k ≤ ys.length ∧ cmpL (xs.drop k) (ys.drop k) = cmpL xs ys) (fun k => xs.length - k) 0 ⟨by omega, by omega, rfl⟩ (Ent.cons rfl (Ent.nil _)) (Ent.cons (t := 0) rfl (Ent.cons (t := 1) rfl (Ent.cons (t := 9) rfl (Ent.cons (t := 10) rfl (Ent.nil _))))) (Sub.nil _) ?_)
 rintro k ⟨hk1, hk2, hk3⟩
 refine Za (O.q rfl (Pu.lss rfl rfl rfl) (Zf (Vs (V.condD rfl (fun c1 => ?_) (fun c1 => ?_)))))
 ·refine Zh (O.m rfl (O.q rfl (Pu.indexAddr (k) rfl ut49 sz2 rfl rfl (by omega) (by omega) (hx.some (by omega))) ?_))
  have e1 : k < xs.length := by omega
  refine O.q rfl (Pu.load rfl pl2 rfl (Ld.rd (Ld.old hx) (k := k) e1 rfl rfl)) (O.m rfl (O.m rfl (Zc (O.m rfl (O.m rfl (O.q rfl (Pu.len rfl ut49 rfl) (O.q rfl (Pu.geq rfl rfl rfl) ?_)))))))
  refine Zf (V.condD rfl (fun c2 => ?_) (fun c2 => ?_))
  ·refine Za (O.m rfl (Ze (Xr (Xq (Xr (Xr (Xq (Xr ?_))))))))
   exact X.ret1 rfl rfl (fun w hw => St.retP (iv (by rw [← hk3]; exact cmpL_more (by omega) (by omega))) hw)
  ·refine Vk (Xn (Za (O.m rfl (O.m rfl (O.q rfl (Pu.indexAddr (k) rfl ut49 sz2 rfl rfl (by omega) (by omega) (hy.some (by omega))) ?_)))))
   have e2 : k < ys.length := by omega
   refine O.q rfl (Pu.load rfl pl2 rfl (Ld.rd (Ld.old hy) (k := k) e2 rfl rfl)) (O.m rfl (Zb (O.m rfl (O.m rfl (O.f rfl (Ef.callP call179 rfl rfl (fun w hw => cmpCompare_ok _ _ _)) ?_)))))
   rintro _ _ ⟨rfl, rfl⟩
   refine O.m rfl (Zb (O.m rfl (O.q rfl (Pu.neq rfl rfl rfl) (Zf (V.condNot rfl (fun c3 => ?_) (fun c3 => ?_))))))
   ·refine Za (O.m rfl (O.m rfl (Ze (Xq (Xr (Xr (Xq (Xr ?_))))))))
    exact X.ret1 rfl rfl (fun w hw => St.retP (iv (by rw [← hk3]; exact cmpL_ne (by omega) (by omega) c3)) hw)
   ·exact Zg (O.q rfl (Pu.add64 (r := ((k + 1 : Nat) : Int)) rfl (by omega) rfl rfl rfl) (O.m rfl (On (X.back2 (k + 1) ⟨by omega, by omega, cmpL_step hk3 (by omega) (by omega) c3⟩ (by omega) (Ent.cons rfl (Ent.nil _)) (Ent.cons (t := 0) rfl (Ent.cons (t := 1) rfl (Ent.cons (t := 9) rfl (Ent.cons (t := 10) rfl (Ent.nil _))))) (Sub.nil _)))))
 ·refine Ve (Xe (Xe (Xh (Xn (Zj (O.m rfl (O.q rfl (Pu.len rfl ut49 rfl) (O.m rfl (O.q rfl (Pu.len rfl ut49 rfl) ?_)))))))))
  refine O.q rfl (Pu.lss rfl rfl rfl) (Zf (V.condD rfl (fun c4 => ?_) (fun c4 => ?_)))
  ·exact Za (O.m rfl (Ze (Xr (X.ret1 rfl rfl (fun w hw => St.retP (iv (by rw [← hk3]; exact cmpL_less (by omega) (by omega))) hw)))))
  ·exact Vk (Xn (Za (O.m rfl (Ze (X.ret1 rfl rfl (fun w hw => St.retP (iv (by rw [← hk3]; exact cmpL_end (by omega) (by omega))) hw))))))
set_option maxRecDepth 100000 in
theorem rises_ok (xs : List Int) (n : Int) (A : Option Addr) (c : Nat) (w : World) (hx : Rd I64 w A xs) (lx : xs.length ≤ 4611686018427387904) (hn : 0 ≤ n ∧ n ≤ 4611686018427387904) : Does Tryz.prog 171 [.slice A xs.length c, .int .i64 n] w [] (fun v => [.pur (v = .bool (decide (Go.Vc.rises n xs)))]) := by
 refine Does.enter Tryz.func171 rfl rfl [(0, .slice A xs.length c), (1, .int .i64 n)] rfl (Za (O.m rfl (Zc (O.m rfl (O.q rfl (Pu.len rfl ut49 rfl) (O.m rfl ?_))))))
 refine Zi (V.loop2 (β := Nat) (fun k => [(9, .int .i64 (k : Int))]) _ (fun k => []) (fun k => k ≤ xs.length ∧ risesAt n xs k) (fun k => xs.length - k) 0 ⟨by omega, fun i _ h => by omega⟩ (Ent.cons rfl (Ent.nil _)) (Ent.cons (t := 0) rfl (Ent.cons (t := 1) rfl (Ent.cons (t := 7) rfl (Ent.cons (t := 8) rfl (Ent.nil _))))) (Sub.nil _) ?_)
 rintro k ⟨hk, hr⟩
 refine Za (O.q rfl (Pu.lss rfl rfl rfl) (Zf (Vs (V.condD rfl (fun c1 => ?_) (fun c1 => ?_)))))
 ·refine Zh (O.m rfl (O.q rfl (Pu.indexAddr (k) rfl ut49 sz2 rfl rfl (by omega) (by omega) (hx.some (by omega))) ?_))
  have e1 : k < xs.length := by omega
  refine O.q rfl (Pu.load rfl pl2 rfl (Ld.rd (Ld.old hx) (k := k) e1 rfl rfl)) (O.m rfl (O.m rfl (Zb (O.m rfl (O.m rfl (O.q rfl (Pu.sub64 rfl (by omega) rfl rfl rfl) (O.f rfl (Ef.callP call105 rfl rfl (fun w hw => within_ok _ _ _ _)) ?_)))))))
  rintro _ _ ⟨rfl, rfl⟩
  refine O.q rfl (Pu.not rfl rfl) (O.m rfl (O.splitN 19 rfl (fun c2 => ?_) (fun c2 => ?_)))
  ·refine O.g rfl (O.g rfl (O.g rfl (O.g rfl (O.g rfl (O.g rfl (O.g rfl (O.g rfl (O.g rfl (O.g rfl (O.g rfl (O.m rfl ?_)))))))))))
   refine Zf (V.condT rfl (Za (O.m rfl (Ze (Xq (Xr (Xr ?_)))))))
   exact Xq (Xr (X.ret1 rfl rfl (fun w hw => St.retP (boolF (fun h => c2 (by have := (((rises_iff n xs).1 h) k (by omega) (by omega)).1; omega))) hw)))
  ·refine O.gm rfl (O.gq rfl (Pu.gtr rfl rfl rfl) (O.gm rfl (O.splitD 22 rfl (fun c3 => ?_) (fun c3 => ?_))))
   ·refine O.gm rfl (O.gm rfl (O.gq rfl (Pu.sub64 (r := ((k - 1 : Nat) : Int)) (by omega) (by omega) rfl rfl rfl) (O.gq rfl (Pu.indexAddr (k - 1) rfl ut49 sz2 rfl rfl (by omega) (by omega) (hx.some (by omega))) ?_)))
    have e2 : k - 1 < xs.length := by omega
    refine O.gq rfl (Pu.load rfl pl2 rfl (Ld.rd (Ld.old hx) (k := k - 1) e2 rfl rfl)) (O.gm rfl (O.gq rfl (Pu.geq rfl rfl rfl) (O.gm rfl (O.m rfl (Zf (V.condD rfl (fun c4 => ?_) (fun c4 => ?_)))))))
    ·exact Za (O.m rfl (Ze (Xq (Xr (Xr (Xq (Xr (X.ret1 rfl rfl (fun w hw => St.retP (boolF (fun h => by have := (((rises_iff n xs).1 h) k (by omega) (by omega)).2 (k - 1) (by omega) (by omega); omega)) hw)))))))))
    ·exact Zg (O.q rfl (Pu.add64 (r := ((k + 1 : Nat) : Int)) rfl (by omega) rfl rfl rfl) (O.m rfl (On (X.back2 (k + 1) ⟨by omega, risesAt_succ (by omega) hr (by omega) (fun j hj e => by subst e; simp only [Nat.add_sub_cancel] at c4; omega)⟩ (by omega) (Ent.cons rfl (Ent.nil _)) (Ent.cons (t := 0) rfl (Ent.cons (t := 1) rfl (Ent.cons (t := 7) rfl (Ent.cons (t := 8) rfl (Ent.nil _))))) (Sub.nil _)))))
   ·refine O.g rfl (O.g rfl (O.g rfl (O.g rfl (O.g rfl (O.g rfl (O.g rfl (O.gm rfl (O.m rfl (Zf (V.condF rfl ?_))))))))))
    exact Zg (O.q rfl (Pu.add64 (r := ((k + 1 : Nat) : Int)) rfl (by omega) rfl rfl rfl) (O.m rfl (On (X.back2 (k + 1) ⟨by omega, risesAt_succ (by omega) hr (by omega) (fun j hj e => by omega)⟩ (by omega) (Ent.cons rfl (Ent.nil _)) (Ent.cons (t := 0) rfl (Ent.cons (t := 1) rfl (Ent.cons (t := 7) rfl (Ent.cons (t := 8) rfl (Ent.nil _))))) (Sub.nil _)))))
 ·exact Zd (O.m rfl (Ze (X.ret1 rfl rfl (fun w hw => St.retP (boolT ((rises_iff n xs).2 (fun i hi h => hr i hi (by omega)))) hw))))
set_option maxRecDepth 100000 in
theorem isBlock_ok (b : B3) (n : Int) (w : World) (hn : 0 ≤ n ∧ n ≤ 4611686018427387904) : Does Tryz.prog 161 [B3.v b, .int .i64 n] w [] (fun v => [.pur (v = .bool (decide (good n b)))]) := by
 refine Does.enter Tryz.func161 rfl rfl [(0, B3.v b), (1, .int .i64 n)] rfl (Za (O.f rfl (Ef.box rfl rfl rfl) ?_))
 rintro _ _ ⟨b1, rfl, rfl⟩
 refine O.m rfl (Zb (O.q rfl (Pu.slicePtr rfl ut81 sz2 rfl) (O.m rfl (O.f rfl (Ef.callP call171 rfl rfl (fun w hw => rises_ok (bl b) n _ 3 w (Ld.arr 0 rfl rfl w hw) (by simp [bl]) hn)) ?_))))
 rintro _ _ ⟨rfl, rfl⟩
 exact O.m rfl (Ze (X.ret1 rfl rfl (fun w hw => St.retP (boolD (rises_bl b)) hw)))
set_option maxRecDepth 100000 in
theorem compare_ok (a b : B3) (w : World) : Does Tryz.prog 162 [B3.v a, B3.v b] w [] (fun v => [.pur (v = .int .i64 (cmpL (bl a) (bl b)))]) := by
 refine Does.enter Tryz.func162 rfl rfl [(0, B3.v a), (1, B3.v b)] rfl (Za (O.f rfl (Ef.box rfl rfl rfl) ?_))
 rintro _ _ ⟨b1, rfl, rfl⟩
 refine O.f rfl (Ef.box rfl rfl rfl) ?_
 rintro _ _ ⟨b2, rfl, rfl⟩
 refine O.m rfl (Zf (Vs (V.ent (Ent.cons (t := 2) rfl (Ent.cons (t := 3) rfl (Ent.nil _))) (V.draw mo (by kernel_rfl) (fun hwf => D.q 0 rfl (Pu.slicePtr rfl ut81 sz2 rfl) (D.q 1 rfl (Pu.slicePtr rfl ut81 sz2 rfl) (D.f hwf 2 rfl (Ef.callP call128 rfl rfl (fun w hw => slicesCompare_ok (bl a) (bl b) _ _ 3 3 w (Ld.arr 1 rfl rfl w hw) (Ld.arr 0 rfl rfl w hw) (by simp [bl]) (by simp [bl]))) ?_)))))))
 rintro _ _ ⟨rfl, rfl⟩ hs
 exact ⟨fun w hw => hw, (D.m 3 rfl (D.done hwf rfl (Xn (Vt (X.ret1 rfl rfl (fun w hw => St.retP (rfl) hw))))))⟩
set_option maxRecDepth 100000 in
theorem l01Good_ok (b : B3) (n : Int) (w : World) : Does Tryz.prog 138 [.int .i64 n, B3.v b] w [] (fun v => [.pur (v = .bool (decide (good n b)))]) := by
 refine Does.enter Tryz.func138 rfl rfl [(0, .int .i64 n), (1, B3.v b)] rfl (Za (O.f rfl (Ef.box rfl rfl rfl) ?_))
 rintro _ _ ⟨b1, rfl, rfl⟩
 refine O.m rfl (Zb (O.q rfl (Pu.indexArr 0 0 rfl ut81 sz2 rfl rfl (by decide) (by decide) (by decide)) (O.q rfl (Pu.load rfl pl2 rfl (Ld.blk 0 rfl rfl)) (O.q rfl (Pu.geq rfl rfl rfl) (O.m rfl (O.splitD 8 rfl (fun c1 => ?_) (fun c1 => ?_)))))))
 ·refine O.gq rfl (Pu.indexArr 0 0 rfl ut81 sz2 rfl rfl (by decide) (by decide) (by decide)) (O.gq rfl (Pu.load rfl pl2 rfl (Ld.blk 0 rfl rfl)) (O.gq rfl (Pu.indexArr 1 1 rfl ut81 sz2 rfl rfl (by decide) (by decide) (by decide)) (O.gq rfl (Pu.load rfl pl2 rfl (Ld.blk 0 rfl rfl)) (O.gq rfl (Pu.lss rfl rfl rfl) (O.m rfl (O.m rfl (O.splitD 15 rfl (fun c2 => ?_) (fun c2 => ?_))))))))
  ·refine O.gq rfl (Pu.indexArr 1 1 rfl ut81 sz2 rfl rfl (by decide) (by decide) (by decide)) (O.gq rfl (Pu.load rfl pl2 rfl (Ld.blk 0 rfl rfl)) (O.gq rfl (Pu.indexArr 2 2 rfl ut81 sz2 rfl rfl (by decide) (by decide) (by decide)) (O.gq rfl (Pu.load rfl pl2 rfl (Ld.blk 0 rfl rfl)) (O.gq rfl (Pu.lss rfl rfl rfl) (O.m rfl (O.m rfl (O.splitD 22 rfl (fun c3 => ?_) (fun c3 => ?_))))))))
   ·exact O.gq rfl (Pu.indexArr 2 2 rfl ut81 sz2 rfl rfl (by decide) (by decide) (by decide)) (O.gq rfl (Pu.load rfl pl2 rfl (Ld.blk 0 rfl rfl)) (O.gm rfl (O.gq rfl (Pu.lss rfl rfl rfl) (O.m rfl (O.m rfl (Ze (X.ret1 rfl rfl (fun w hw => St.retP (boolD ⟨fun h => ⟨c1, c2, c3, h⟩, fun h => h.2.2.2⟩) hw))))))))
   ·exact O.g rfl (O.g rfl (O.g rfl (O.g rfl (O.m rfl (O.m rfl (Ze (X.ret1 rfl rfl (fun w hw => St.retP (boolF (fun h => c3 h.2.2.1)) hw))))))))
  ·refine O.g rfl (O.g rfl (O.g rfl (O.g rfl (O.g rfl (O.m rfl (O.m rfl (O.g rfl (O.g rfl (O.g rfl (O.g rfl (O.m rfl ?_)))))))))))
   exact O.m rfl (Ze (X.ret1 rfl rfl (fun w hw => St.retP (boolF (fun h => c2 h.2.1)) hw)))
 ·refine O.g rfl (O.g rfl (O.g rfl (O.g rfl (O.g rfl (O.m rfl (O.m rfl (O.g rfl (O.g rfl (O.g rfl (O.g rfl (O.g rfl ?_)))))))))))
  exact O.m rfl (O.m rfl (O.g rfl (O.g rfl (O.g rfl (O.g rfl (O.m rfl (O.m rfl (Ze (X.ret1 rfl rfl (fun w hw => St.retP (boolF (fun h => c1 h.1)) hw))))))))))
set_option maxRecDepth 100000 in
theorem l01Before_ok (a b : B3) (w : World) : Does Tryz.prog 139 [B3.v a, B3.v b] w [] (fun v => [.pur (v = .bool (decide (B3.lt a b)))]) := by
 refine Does.enter Tryz.func139 rfl rfl [(0, B3.v a), (1, B3.v b)] rfl (Za (O.f rfl (Ef.box rfl rfl rfl) ?_))
 rintro _ _ ⟨b1, rfl, rfl⟩
 refine O.f rfl (Ef.box rfl rfl rfl) ?_
 rintro _ _ ⟨b2, rfl, rfl⟩
 refine O.m rfl (Zc (O.m rfl (Zi (V.unroll 3 (Vs ?_)))))
 refine Za (O.m rfl (O.q rfl (Pu.isT (by decide) (Pu.lss rfl rfl rfl)) (Zf (V.condT rfl (Vk (Xn (Vs (Vb (Vs ?_)))))))))
 refine V.draw mo (by kernel_rfl) (fun hwf => D.m 0 rfl (D.q 1 rfl (Pu.indexArr 0 0 rfl ut81 sz2 rfl rfl (by decide) (by decide) (by decide)) (D.q 2 rfl (Pu.load rfl pl2 rfl (Ld.blk 1 rfl rfl)) (D.m 3 rfl (D.q 4 rfl (Pu.indexArr 0 0 rfl ut81 sz2 rfl rfl (by decide) (by decide) (by decide)) (D.q 5 rfl (Pu.load rfl pl2 rfl (Ld.blk 0 rfl rfl)) (D.q 6 rfl (Pu.neq rfl rfl rfl) (D.done hwf rfl (Xn (V.condNot rfl (fun c1 => ?_) (fun c1 => ?_)))))))))))
 ·refine Vs (V.ent (Ent.cons (t := 2) rfl (Ent.cons (t := 3) rfl (Ent.cons (t := 5) rfl (Ent.nil _)))) (V.draw mo (by kernel_rfl) (fun hwf => D.m 0 rfl (D.q 1 rfl (Pu.indexArr 0 0 rfl ut81 sz2 rfl rfl (by decide) (by decide) (by decide)) (D.q 2 rfl (Pu.load rfl pl2 rfl (Ld.blk 1 rfl rfl)) (D.m 3 rfl (D.q 4 rfl (Pu.indexArr 0 0 rfl ut81 sz2 rfl rfl (by decide) (by decide) (by decide)) (D.q 5 rfl (Pu.load rfl pl2 rfl (Ld.blk 0 rfl rfl)) (D.q 6 rfl (Pu.lss rfl rfl rfl) (D.m 7 rfl (D.done hwf rfl ?_)))))))))))
  exact Xn (Vt (Xq (Xr (Xr (Xq (Xr (X.ret1 rfl rfl (fun w hw => St.retP (boolD (by unfold B3.lt; omega)) hw))))))))
 ·refine Zg (O.m rfl (O.q rfl (Pu.add64 (r := 1) (by decide) (by decide) rfl rfl rfl) (O.m rfl (On (X.again 2 (Zj ?_))))))
  refine O.m rfl (O.q rfl (Pu.isT (by decide) (Pu.lss rfl rfl rfl)) (Zf (V.condT rfl (Vk (Xn (Vs (Vb (Vs (V.ent (Ent.cons (t := 2) rfl (Ent.cons (t := 3) rfl (Ent.cons (t := 4) rfl (Ent.cons (t := 5) rfl (Ent.nil _))))) (V.draw mo (by kernel_rfl) (fun hwf => ?_)))))))))))
  refine D.m 0 rfl (D.q 1 rfl (Pu.indexArr 1 1 rfl ut81 sz2 rfl rfl (by decide) (by decide) (by decide)) (D.q 2 rfl (Pu.load rfl pl2 rfl (Ld.blk 1 rfl rfl)) (D.m 3 rfl (D.q 4 rfl (Pu.indexArr 1 1 rfl ut81 sz2 rfl rfl (by decide) (by decide) (by decide)) (D.q 5 rfl (Pu.load rfl pl2 rfl (Ld.blk 0 rfl rfl)) (D.q 6 rfl (Pu.neq rfl rfl rfl) (D.done hwf rfl (Xn (V.condNot rfl (fun c2 => ?_) (fun c2 => ?_))))))))))
  ·refine Vs (V.ent (Ent.cons (t := 2) rfl (Ent.cons (t := 3) rfl (Ent.cons (t := 5) rfl (Ent.nil _)))) (V.draw mo (by kernel_rfl) (fun hwf => D.m 0 rfl (D.q 1 rfl (Pu.indexArr 1 1 rfl ut81 sz2 rfl rfl (by decide) (by decide) (by decide)) (D.q 2 rfl (Pu.load rfl pl2 rfl (Ld.blk 1 rfl rfl)) (D.m 3 rfl (D.q 4 rfl (Pu.indexArr 1 1 rfl ut81 sz2 rfl rfl (by decide) (by decide) (by decide)) (D.q 5 rfl (Pu.load rfl pl2 rfl (Ld.blk 0 rfl rfl)) (D.q 6 rfl (Pu.lss rfl rfl rfl) (D.m 7 rfl (D.done hwf rfl ?_)))))))))))
   exact Xn (Vt (Xq (Xr (Xr (Xq (Xr (X.ret1 rfl rfl (fun w hw => St.retP (boolD (by unfold B3.lt; omega)) hw))))))))
  ·refine Zg (O.m rfl (O.q rfl (Pu.add64 (r := 2) (by decide) (by decide) rfl rfl rfl) (O.m rfl (On (X.again 1 (Zj ?_))))))
   refine O.m rfl (O.q rfl (Pu.isT (by decide) (Pu.lss rfl rfl rfl)) (Zf (V.condT rfl (Vk (Xn (Vs (Vb (Vs (V.ent (Ent.cons (t := 2) rfl (Ent.cons (t := 3) rfl (Ent.cons (t := 4) rfl (Ent.cons (t := 5) rfl (Ent.nil _))))) (V.draw mo (by kernel_rfl) (fun hwf => ?_)))))))))))
   refine D.m 0 rfl (D.q 1 rfl (Pu.indexArr 2 2 rfl ut81 sz2 rfl rfl (by decide) (by decide) (by decide)) (D.q 2 rfl (Pu.load rfl pl2 rfl (Ld.blk 1 rfl rfl)) (D.m 3 rfl (D.q 4 rfl (Pu.indexArr 2 2 rfl ut81 sz2 rfl rfl (by decide) (by decide) (by decide)) (D.q 5 rfl (Pu.load rfl pl2 rfl (Ld.blk 0 rfl rfl)) (D.q 6 rfl (Pu.neq rfl rfl rfl) (D.done hwf rfl (Xn (V.condNot rfl (fun c3 => ?_) (fun c3 => ?_))))))))))
   ·refine Vs (V.ent (Ent.cons (t := 2) rfl (Ent.cons (t := 3) rfl (Ent.cons (t := 5) rfl (Ent.nil _)))) (V.draw mo (by kernel_rfl) (fun hwf => D.m 0 rfl (D.q 1 rfl (Pu.indexArr 2 2 rfl ut81 sz2 rfl rfl (by decide) (by decide) (by decide)) (D.q 2 rfl (Pu.load rfl pl2 rfl (Ld.blk 1 rfl rfl)) (D.m 3 rfl (D.q 4 rfl (Pu.indexArr 2 2 rfl ut81 sz2 rfl rfl (by decide) (by decide) (by decide)) (D.q 5 rfl (Pu.load rfl pl2 rfl (Ld.blk 0 rfl rfl)) (D.q 6 rfl (Pu.lss rfl rfl rfl) (D.m 7 rfl (D.done hwf rfl ?_)))))))))))
    exact Xn (Vt (Xq (Xr (Xr (Xq (Xr (X.ret1 rfl rfl (fun w hw => St.retP (boolD (by unfold B3.lt; omega)) hw))))))))
   ·refine Zg (O.m rfl (O.q rfl (Pu.add64 (r := 3) (by decide) (by decide) rfl rfl rfl) (O.m rfl (On (X.again 0 (Zj ?_))))))
    refine O.m rfl (O.q rfl (Pu.isF (by decide) (Pu.lss rfl rfl rfl)) (Zf (V.condF rfl (Zd ?_))))
    exact O.m rfl (Ze (X.ret1 rfl rfl (fun w hw => St.retP (boolF (by unfold B3.lt; omega)) hw)))
set_option maxRecDepth 100000 in
theorem l01Common_ok (a b : B3) (w : World) : Does Tryz.prog 65 [B3.v a, B3.v b] w [] (fun v => [.pur (v = .int .i64 (common a b))]) := by
 refine Does.enter Tryz.func65 rfl rfl [(0, B3.v a), (1, B3.v b)] rfl (Za (O.f rfl (Ef.box rfl rfl rfl) ?_))
 rintro _ _ ⟨b1, rfl, rfl⟩
 refine O.f rfl (Ef.box rfl rfl rfl) ?_
 rintro _ _ ⟨b2, rfl, rfl⟩
 refine O.m rfl (Zb (O.m rfl (Zc (O.m rfl ?_))))
 refine Zi (V.unroll 3 (Zj (O.m rfl (O.q rfl (Pu.isT (by decide) (Pu.lss rfl rfl rfl)) (Zf (V.condT rfl ?_))))))
 refine Zh (O.m rfl (Zi (V.unroll 3 (Vs ?_))))
 refine Za (O.m rfl (O.q rfl (Pu.isT (by decide) (Pu.lss rfl rfl rfl)) (Zf (V.condT rfl (Vk (Xn (Vs (Vb (Vs ?_)))))))))
 refine V.draw mo (by kernel_rfl) (fun hwf => D.m 0 rfl (D.q 1 rfl (Pu.indexArr 0 0 rfl ut81 sz2 rfl rfl (by decide) (by decide) (by decide)) (D.q 2 rfl (Pu.load rfl pl2 rfl (Ld.blk 1 rfl rfl)) (D.m 3 rfl (D.q 4 rfl (Pu.indexArr 0 0 rfl ut81 sz2 rfl rfl (by decide) (by decide) (by decide)) (D.q 5 rfl (Pu.load rfl pl2 rfl (Ld.blk 0 rfl rfl)) (D.q 6 rfl (Pu.eql rfl rfl rfl) (D.done hwf rfl (Xn (V.cut2 [(5, .int .i64 ((0 : Int) + if a.1 = b.1 then 1 else 0))] (Ent.cons (t := 2) rfl (Ent.cons (t := 3) rfl (Ent.cons (t := 4) rfl (Ent.cons (t := 6) rfl (Ent.cons (t := 7) rfl (Ent.nil _)))))) (Sub.s [0,0] rfl) ?_ ?_))))))))))
 ·refine V.condD rfl (fun c1 => ?_) (fun c1 => ?_)
  ·exact Vr (O.m rfl (O.q rfl (Pu.add64 (r := 1) (by decide) (by decide) rfl rfl rfl) (O.m rfl (On (X.cut (Ent.cons' rfl (iv (by rw [if_pos c1]; try omega)) (Ent.nil _)) (Ent.cons (t := 2) rfl (Ent.cons (t := 3) rfl (Ent.cons (t := 4) rfl (Ent.cons (t := 6) rfl (Ent.cons (t := 7) rfl (Ent.nil _)))))) (Sub.s [0,0] rfl))))))
  ·exact Vk (X.cut (Ent.cons' rfl (iv (by rw [if_neg c1]; try omega)) (Ent.nil _)) (Ent.cons (t := 2) rfl (Ent.cons (t := 3) rfl (Ent.cons (t := 4) rfl (Ent.cons (t := 6) rfl (Ent.cons (t := 7) rfl (Ent.nil _)))))) (Sub.s [0,0] rfl))
 ·generalize hn1 : ((0 : Int) + if a.1 = b.1 then 1 else 0) = n1
  have bn1 : 0 ≤ n1 ∧ n1 ≤ 9 := by rw [← hn1]; split <;> omega
  refine Xb (Xn (Vr (O.m rfl (O.q rfl (Pu.add64 (r := 1) (by decide) (by decide) rfl rfl rfl) (O.m rfl (On (X.again 2 (Zj (O.m rfl ?_)))))))))
  refine O.q rfl (Pu.isT (by decide) (Pu.lss rfl rfl rfl)) (Zf (V.condT rfl (Vk (Xn (Vs (Vb (Vs (V.draw mo (by kernel_rfl) (fun hwf => D.m 0 rfl (D.q 1 rfl (Pu.indexArr 0 0 rfl ut81 sz2 rfl rfl (by decide) (by decide) (by decide)) ?_))))))))))
  refine D.q 2 rfl (Pu.load rfl pl2 rfl (Ld.blk 1 rfl rfl)) (D.m 3 rfl (D.q 4 rfl (Pu.indexArr 1 1 rfl ut81 sz2 rfl rfl (by decide) (by decide) (by decide)) (D.q 5 rfl (Pu.load rfl pl2 rfl (Ld.blk 0 rfl rfl)) (D.q 6 rfl (Pu.eql rfl rfl rfl) (D.done hwf rfl (Xn (V.cut2 [(5, .int .i64 (n1 + if a.1 = b.2.1 then 1 else 0))] (Ent.cons (t := 2) rfl (Ent.cons (t := 3) rfl (Ent.cons (t := 4) rfl (Ent.cons (t := 6) rfl (Ent.cons (t := 7) rfl (Ent.nil _)))))) (Sub.s [0,0] rfl) ?_ ?_)))))))
  ·refine V.condD rfl (fun c2 => ?_) (fun c2 => ?_)
   ·exact Vr (O.m rfl (O.q rfl (Pu.add64 rfl (by omega) rfl rfl rfl) (O.m rfl (On (X.cut (Ent.cons' rfl (iv (by rw [if_pos c2]; try omega)) (Ent.nil _)) (Ent.cons (t := 2) rfl (Ent.cons (t := 3) rfl (Ent.cons (t := 4) rfl (Ent.cons (t := 6) rfl (Ent.cons (t := 7) rfl (Ent.nil _)))))) (Sub.s [0,0] rfl))))))
   ·exact Vk (X.cut (Ent.cons' rfl (iv (by rw [if_neg c2]; try omega)) (Ent.nil _)) (Ent.cons (t := 2) rfl (Ent.cons (t := 3) rfl (Ent.cons (t := 4) rfl (Ent.cons (t := 6) rfl (Ent.cons (t := 7) rfl (Ent.nil _)))))) (Sub.s [0,0] rfl))
  ·generalize hn2 : (n1 + if a.1 = b.2.1 then 1 else 0) = n2
   have bn2 : 0 ≤ n2 ∧ n2 ≤ 9 := by rw [← hn2]; split <;> omega
   refine Xb (Xn (Vr (O.m rfl (O.q rfl (Pu.add64 (r := 2) (by decide) (by decide) rfl rfl rfl) (O.m rfl (On (X.again 1 (Zj (O.m rfl ?_)))))))))
   refine O.q rfl (Pu.isT (by decide) (Pu.lss rfl rfl rfl)) (Zf (V.condT rfl (Vk (Xn (Vs (Vb (Vs (V.draw mo (by kernel_rfl) (fun hwf => D.m 0 rfl (D.q 1 rfl (Pu.indexArr 0 0 rfl ut81 sz2 rfl rfl (by decide) (by decide) (by decide)) ?_))))))))))
   refine D.q 2 rfl (Pu.load rfl pl2 rfl (Ld.blk 1 rfl rfl)) (D.m 3 rfl (D.q 4 rfl (Pu.indexArr 2 2 rfl ut81 sz2 rfl rfl (by decide) (by decide) (by decide)) (D.q 5 rfl (Pu.load rfl pl2 rfl (Ld.blk 0 rfl rfl)) (D.q 6 rfl (Pu.eql rfl rfl rfl) (D.done hwf rfl (Xn (V.cut2 [(5, .int .i64 (n2 + if a.1 = b.2.2 then 1 else 0))] (Ent.cons (t := 2) rfl (Ent.cons (t := 3) rfl (Ent.cons (t := 4) rfl (Ent.cons (t := 6) rfl (Ent.cons (t := 7) rfl (Ent.nil _)))))) (Sub.s [0,0] rfl) ?_ ?_)))))))
   ·refine V.condD rfl (fun c3 => ?_) (fun c3 => ?_)
    ·exact Vr (O.m rfl (O.q rfl (Pu.add64 rfl (by omega) rfl rfl rfl) (O.m rfl (On (X.cut (Ent.cons' rfl (iv (by rw [if_pos c3]; try omega)) (Ent.nil _)) (Ent.cons (t := 2) rfl (Ent.cons (t := 3) rfl (Ent.cons (t := 4) rfl (Ent.cons (t := 6) rfl (Ent.cons (t := 7) rfl (Ent.nil _)))))) (Sub.s [0,0] rfl))))))
    ·exact Vk (X.cut (Ent.cons' rfl (iv (by rw [if_neg c3]; try omega)) (Ent.nil _)) (Ent.cons (t := 2) rfl (Ent.cons (t := 3) rfl (Ent.cons (t := 4) rfl (Ent.cons (t := 6) rfl (Ent.cons (t := 7) rfl (Ent.nil _)))))) (Sub.s [0,0] rfl))
   ·generalize hn3 : (n2 + if a.1 = b.2.2 then 1 else 0) = n3
    have bn3 : 0 ≤ n3 ∧ n3 ≤ 9 := by rw [← hn3]; split <;> omega
    refine Xb (Xn (Vr (O.m rfl (O.q rfl (Pu.add64 (r := 3) (by decide) (by decide) rfl rfl rfl) (O.m rfl (On (X.again 0 (Zj (O.m rfl ?_)))))))))
    refine O.q rfl (Pu.isF (by decide) (Pu.lss rfl rfl rfl)) (Zf (V.condF rfl (Ve (Xe (Xe (Xh (Xb (Xn (Vr (O.m rfl ?_))))))))))
    refine O.q rfl (Pu.add64 (r := 1) (by decide) (by decide) rfl rfl rfl) (O.m rfl (On (X.again 2 (Zj (O.m rfl (O.q rfl (Pu.isT (by decide) (Pu.lss rfl rfl rfl)) (Zf (V.condT rfl ?_))))))))
    refine Zh (O.m rfl (Zi (V.unroll 3 (Vs ?_))))
    refine Za (O.m rfl (O.q rfl (Pu.isT (by decide) (Pu.lss rfl rfl rfl)) (Zf (V.condT rfl (Vk (Xn (Vs (Vb (Vs ?_)))))))))
    refine V.draw mo (by kernel_rfl) (fun hwf => D.m 0 rfl (D.q 1 rfl (Pu.indexArr 1 1 rfl ut81 sz2 rfl rfl (by decide) (by decide) (by decide)) (D.q 2 rfl (Pu.load rfl pl2 rfl (Ld.blk 1 rfl rfl)) (D.m 3 rfl (D.q 4 rfl (Pu.indexArr 0 0 rfl ut81 sz2 rfl rfl (by decide) (by decide) (by decide)) (D.q 5 rfl (Pu.load rfl pl2 rfl (Ld.blk 0 rfl rfl)) (D.q 6 rfl (Pu.eql rfl rfl rfl) (D.done hwf rfl (Xn (V.cut2 [(5, .int .i64 (n3 + if a.2.1 = b.1 then 1 else 0))] (Ent.cons (t := 2) rfl (Ent.cons (t := 3) rfl (Ent.cons (t := 4) rfl (Ent.cons (t := 6) rfl (Ent.cons (t := 7) rfl (Ent.nil _)))))) (Sub.s [0,0] rfl) ?_ ?_))))))))))
    ·refine V.condD rfl (fun c4 => ?_) (fun c4 => ?_)
     ·exact Vr (O.m rfl (O.q rfl (Pu.add64 rfl (by omega) rfl rfl rfl) (O.m rfl (On (X.cut (Ent.cons' rfl (iv (by rw [if_pos c4]; try omega)) (Ent.nil _)) (Ent.cons (t := 2) rfl (Ent.cons (t := 3) rfl (Ent.cons (t := 4) rfl (Ent.cons (t := 6) rfl (Ent.cons (t := 7) rfl (Ent.nil _)))))) (Sub.s [0,0] rfl))))))
     ·exact Vk (X.cut (Ent.cons' rfl (iv (by rw [if_neg c4]; try omega)) (Ent.nil _)) (Ent.cons (t := 2) rfl (Ent.cons (t := 3) rfl (Ent.cons (t := 4) rfl (Ent.cons (t := 6) rfl (Ent.cons (t := 7) rfl (Ent.nil _)))))) (Sub.s [0,0] rfl))
    ·generalize hn4 : (n3 + if a.2.1 = b.1 then 1 else 0) = n4
     have bn4 : 0 ≤ n4 ∧ n4 ≤ 9 := by rw [← hn4]; split <;> omega
     refine Xb (Xn (Vr (O.m rfl (O.q rfl (Pu.add64 (r := 1) (by decide) (by decide) rfl rfl rfl) (O.m rfl (On (X.again 2 (Zj (O.m rfl ?_)))))))))
     refine O.q rfl (Pu.isT (by decide) (Pu.lss rfl rfl rfl)) (Zf (V.condT rfl (Vk (Xn (Vs (Vb (Vs (V.draw mo (by kernel_rfl) (fun hwf => D.m 0 rfl (D.q 1 rfl (Pu.indexArr 1 1 rfl ut81 sz2 rfl rfl (by decide) (by decide) (by decide)) ?_))))))))))
     refine D.q 2 rfl (Pu.load rfl pl2 rfl (Ld.blk 1 rfl rfl)) (D.m 3 rfl (D.q 4 rfl (Pu.indexArr 1 1 rfl ut81 sz2 rfl rfl (by decide) (by decide) (by decide)) (D.q 5 rfl (Pu.load rfl pl2 rfl (Ld.blk 0 rfl rfl)) (D.q 6 rfl (Pu.eql rfl rfl rfl) (D.done hwf rfl (Xn (V.cut2 [(5, .int .i64 (n4 + if a.2.1 = b.2.1 then 1 else 0))] (Ent.cons (t := 2) rfl (Ent.cons (t := 3) rfl (Ent.cons (t := 4) rfl (Ent.cons (t := 6) rfl (Ent.cons (t := 7) rfl (Ent.nil _)))))) (Sub.s [0,0] rfl) ?_ ?_)))))))
     ·refine V.condD rfl (fun c5 => ?_) (fun c5 => ?_)
      ·exact Vr (O.m rfl (O.q rfl (Pu.add64 rfl (by omega) rfl rfl rfl) (O.m rfl (On (X.cut (Ent.cons' rfl (iv (by rw [if_pos c5]; try omega)) (Ent.nil _)) (Ent.cons (t := 2) rfl (Ent.cons (t := 3) rfl (Ent.cons (t := 4) rfl (Ent.cons (t := 6) rfl (Ent.cons (t := 7) rfl (Ent.nil _)))))) (Sub.s [0,0] rfl))))))
      ·exact Vk (X.cut (Ent.cons' rfl (iv (by rw [if_neg c5]; try omega)) (Ent.nil _)) (Ent.cons (t := 2) rfl (Ent.cons (t := 3) rfl (Ent.cons (t := 4) rfl (Ent.cons (t := 6) rfl (Ent.cons (t := 7) rfl (Ent.nil _)))))) (Sub.s [0,0] rfl))
     ·generalize hn5 : (n4 + if a.2.1 = b.2.1 then 1 else 0) = n5
      have bn5 : 0 ≤ n5 ∧ n5 ≤ 9 := by rw [← hn5]; split <;> omega
      refine Xb (Xn (Vr (O.m rfl (O.q rfl (Pu.add64 (r := 2) (by decide) (by decide) rfl rfl rfl) (O.m rfl (On (X.again 1 (Zj (O.m rfl ?_)))))))))
      refine O.q rfl (Pu.isT (by decide) (Pu.lss rfl rfl rfl)) (Zf (V.condT rfl (Vk (Xn (Vs (Vb (Vs (V.draw mo (by kernel_rfl) (fun hwf => D.m 0 rfl (D.q 1 rfl (Pu.indexArr 1 1 rfl ut81 sz2 rfl rfl (by decide) (by decide) (by decide)) ?_))))))))))
      refine D.q 2 rfl (Pu.load rfl pl2 rfl (Ld.blk 1 rfl rfl)) (D.m 3 rfl (D.q 4 rfl (Pu.indexArr 2 2 rfl ut81 sz2 rfl rfl (by decide) (by decide) (by decide)) (D.q 5 rfl (Pu.load rfl pl2 rfl (Ld.blk 0 rfl rfl)) (D.q 6 rfl (Pu.eql rfl rfl rfl) (D.done hwf rfl (Xn (V.cut2 [(5, .int .i64 (n5 + if a.2.1 = b.2.2 then 1 else 0))] (Ent.cons (t := 2) rfl (Ent.cons (t := 3) rfl (Ent.cons (t := 4) rfl (Ent.cons (t := 6) rfl (Ent.cons (t := 7) rfl (Ent.nil _)))))) (Sub.s [0,0] rfl) ?_ ?_)))))))
      ·refine V.condD rfl (fun c6 => ?_) (fun c6 => ?_)
       ·exact Vr (O.m rfl (O.q rfl (Pu.add64 rfl (by omega) rfl rfl rfl) (O.m rfl (On (X.cut (Ent.cons' rfl (iv (by rw [if_pos c6]; try omega)) (Ent.nil _)) (Ent.cons (t := 2) rfl (Ent.cons (t := 3) rfl (Ent.cons (t := 4) rfl (Ent.cons (t := 6) rfl (Ent.cons (t := 7) rfl (Ent.nil _)))))) (Sub.s [0,0] rfl))))))
       ·exact Vk (X.cut (Ent.cons' rfl (iv (by rw [if_neg c6]; try omega)) (Ent.nil _)) (Ent.cons (t := 2) rfl (Ent.cons (t := 3) rfl (Ent.cons (t := 4) rfl (Ent.cons (t := 6) rfl (Ent.cons (t := 7) rfl (Ent.nil _)))))) (Sub.s [0,0] rfl))
      ·generalize hn6 : (n5 + if a.2.1 = b.2.2 then 1 else 0) = n6
       have bn6 : 0 ≤ n6 ∧ n6 ≤ 9 := by rw [← hn6]; split <;> omega
       refine Xb (Xn (Vr (O.m rfl (O.q rfl (Pu.add64 (r := 3) (by decide) (by decide) rfl rfl rfl) (O.m rfl (On (X.again 0 (Zj (O.m rfl ?_)))))))))
       refine O.q rfl (Pu.isF (by decide) (Pu.lss rfl rfl rfl)) (Zf (V.condF rfl (Ve (Xe (Xe (Xh (Xb (Xn (Vr (O.m rfl ?_))))))))))
       refine O.q rfl (Pu.add64 (r := 2) (by decide) (by decide) rfl rfl rfl) (O.m rfl (On (X.again 1 (Zj (O.m rfl (O.q rfl (Pu.isT (by decide) (Pu.lss rfl rfl rfl)) (Zf (V.condT rfl ?_))))))))
       refine Zh (O.m rfl (Zi (V.unroll 3 (Vs ?_))))
       refine Za (O.m rfl (O.q rfl (Pu.isT (by decide) (Pu.lss rfl rfl rfl)) (Zf (V.condT rfl (Vk (Xn (Vs (Vb (Vs ?_)))))))))
       refine V.draw mo (by kernel_rfl) (fun hwf => D.m 0 rfl (D.q 1 rfl (Pu.indexArr 2 2 rfl ut81 sz2 rfl rfl (by decide) (by decide) (by decide)) (D.q 2 rfl (Pu.load rfl pl2 rfl (Ld.blk 1 rfl rfl)) (D.m 3 rfl (D.q 4 rfl (Pu.indexArr 0 0 rfl ut81 sz2 rfl rfl (by decide) (by decide) (by decide)) (D.q 5 rfl (Pu.load rfl pl2 rfl (Ld.blk 0 rfl rfl)) (D.q 6 rfl (Pu.eql rfl rfl rfl) (D.done hwf rfl (Xn (V.cut2 [(5, .int .i64 (n6 + if a.2.2 = b.1 then 1 else 0))] (Ent.cons (t := 2) rfl (Ent.cons (t := 3) rfl (Ent.cons (t := 4) rfl (Ent.cons (t := 6) rfl (Ent.cons (t := 7) rfl (Ent.nil _)))))) (Sub.s [0,0] rfl) ?_ ?_))))))))))
       ·refine V.condD rfl (fun c7 => ?_) (fun c7 => ?_)
        ·exact Vr (O.m rfl (O.q rfl (Pu.add64 rfl (by omega) rfl rfl rfl) (O.m rfl (On (X.cut (Ent.cons' rfl (iv (by rw [if_pos c7]; try omega)) (Ent.nil _)) (Ent.cons (t := 2) rfl (Ent.cons (t := 3) rfl (Ent.cons (t := 4) rfl (Ent.cons (t := 6) rfl (Ent.cons (t := 7) rfl (Ent.nil _)))))) (Sub.s [0,0] rfl))))))
        ·exact Vk (X.cut (Ent.cons' rfl (iv (by rw [if_neg c7]; try omega)) (Ent.nil _)) (Ent.cons (t := 2) rfl (Ent.cons (t := 3) rfl (Ent.cons (t := 4) rfl (Ent.cons (t := 6) rfl (Ent.cons (t := 7) rfl (Ent.nil _)))))) (Sub.s [0,0] rfl))
       ·generalize hn7 : (n6 + if a.2.2 = b.1 then 1 else 0) = n7
        have bn7 : 0 ≤ n7 ∧ n7 ≤ 9 := by rw [← hn7]; split <;> omega
        refine Xb (Xn (Vr (O.m rfl (O.q rfl (Pu.add64 (r := 1) (by decide) (by decide) rfl rfl rfl) (O.m rfl (On (X.again 2 (Zj (O.m rfl ?_)))))))))
        refine O.q rfl (Pu.isT (by decide) (Pu.lss rfl rfl rfl)) (Zf (V.condT rfl (Vk (Xn (Vs (Vb (Vs (V.draw mo (by kernel_rfl) (fun hwf => D.m 0 rfl (D.q 1 rfl (Pu.indexArr 2 2 rfl ut81 sz2 rfl rfl (by decide) (by decide) (by decide)) ?_))))))))))
        refine D.q 2 rfl (Pu.load rfl pl2 rfl (Ld.blk 1 rfl rfl)) (D.m 3 rfl (D.q 4 rfl (Pu.indexArr 1 1 rfl ut81 sz2 rfl rfl (by decide) (by decide) (by decide)) (D.q 5 rfl (Pu.load rfl pl2 rfl (Ld.blk 0 rfl rfl)) (D.q 6 rfl (Pu.eql rfl rfl rfl) (D.done hwf rfl (Xn (V.cut2 [(5, .int .i64 (n7 + if a.2.2 = b.2.1 then 1 else 0))] (Ent.cons (t := 2) rfl (Ent.cons (t := 3) rfl (Ent.cons (t := 4) rfl (Ent.cons (t := 6) rfl (Ent.cons (t := 7) rfl (Ent.nil _)))))) (Sub.s [0,0] rfl) ?_ ?_)))))))
        ·refine V.condD rfl (fun c8 => ?_) (fun c8 => ?_)
         ·exact Vr (O.m rfl (O.q rfl (Pu.add64 rfl (by omega) rfl rfl rfl) (O.m rfl (On (X.cut (Ent.cons' rfl (iv (by rw [if_pos c8]; try omega)) (Ent.nil _)) (Ent.cons (t := 2) rfl (Ent.cons (t := 3) rfl (Ent.cons (t := 4) rfl (Ent.cons (t := 6) rfl (Ent.cons (t := 7) rfl (Ent.nil _)))))) (Sub.s [0,0] rfl))))))
         ·exact Vk (X.cut (Ent.cons' rfl (iv (by rw [if_neg c8]; try omega)) (Ent.nil _)) (Ent.cons (t := 2) rfl (Ent.cons (t := 3) rfl (Ent.cons (t := 4) rfl (Ent.cons (t := 6) rfl (Ent.cons (t := 7) rfl (Ent.nil _)))))) (Sub.s [0,0] rfl))
        ·generalize hn8 : (n7 + if a.2.2 = b.2.1 then 1 else 0) = n8
         have bn8 : 0 ≤ n8 ∧ n8 ≤ 9 := by rw [← hn8]; split <;> omega
         refine Xb (Xn (Vr (O.m rfl (O.q rfl (Pu.add64 (r := 2) (by decide) (by decide) rfl rfl rfl) (O.m rfl (On (X.again 1 (Zj (O.m rfl ?_)))))))))
         refine O.q rfl (Pu.isT (by decide) (Pu.lss rfl rfl rfl)) (Zf (V.condT rfl (Vk (Xn (Vs (Vb (Vs (V.draw mo (by kernel_rfl) (fun hwf => D.m 0 rfl (D.q 1 rfl (Pu.indexArr 2 2 rfl ut81 sz2 rfl rfl (by decide) (by decide) (by decide)) ?_))))))))))
         refine D.q 2 rfl (Pu.load rfl pl2 rfl (Ld.blk 1 rfl rfl)) (D.m 3 rfl (D.q 4 rfl (Pu.indexArr 2 2 rfl ut81 sz2 rfl rfl (by decide) (by decide) (by decide)) (D.q 5 rfl (Pu.load rfl pl2 rfl (Ld.blk 0 rfl rfl)) (D.q 6 rfl (Pu.eql rfl rfl rfl) (D.done hwf rfl (Xn (V.cut2 [(5, .int .i64 (n8 + if a.2.2 = b.2.2 then 1 else 0))] (Ent.cons (t := 2) rfl (Ent.cons (t := 3) rfl (Ent.cons (t := 4) rfl (Ent.cons (t := 6) rfl (Ent.cons (t := 7) rfl (Ent.nil _)))))) (Sub.s [0,0] rfl) ?_ ?_)))))))
         ·refine V.condD rfl (fun c9 => ?_) (fun c9 => ?_)
          ·exact Vr (O.m rfl (O.q rfl (Pu.add64 rfl (by omega) rfl rfl rfl) (O.m rfl (On (X.cut (Ent.cons' rfl (iv (by rw [if_pos c9]; try omega)) (Ent.nil _)) (Ent.cons (t := 2) rfl (Ent.cons (t := 3) rfl (Ent.cons (t := 4) rfl (Ent.cons (t := 6) rfl (Ent.cons (t := 7) rfl (Ent.nil _)))))) (Sub.s [0,0] rfl))))))
          ·exact Vk (X.cut (Ent.cons' rfl (iv (by rw [if_neg c9]; try omega)) (Ent.nil _)) (Ent.cons (t := 2) rfl (Ent.cons (t := 3) rfl (Ent.cons (t := 4) rfl (Ent.cons (t := 6) rfl (Ent.cons (t := 7) rfl (Ent.nil _)))))) (Sub.s [0,0] rfl))
         ·generalize hn9 : (n8 + if a.2.2 = b.2.2 then 1 else 0) = n9
          have bn9 : 0 ≤ n9 ∧ n9 ≤ 9 := by rw [← hn9]; split <;> omega
          refine Xb (Xn (Vr (O.m rfl (O.q rfl (Pu.add64 (r := 3) (by decide) (by decide) rfl rfl rfl) (O.m rfl (On (X.again 0 (Zj (O.m rfl ?_)))))))))
          refine O.q rfl (Pu.isF (by decide) (Pu.lss rfl rfl rfl)) (Zf (V.condF rfl (Ve (Xe (Xe (Xh (Xb (Xn (Vr (O.m rfl ?_))))))))))
          refine O.q rfl (Pu.add64 (r := 3) (by decide) (by decide) rfl rfl rfl) (O.m rfl (On (X.again 0 (Zj (O.m rfl (O.q rfl (Pu.isF (by decide) (Pu.lss rfl rfl rfl)) (Zf (V.condF rfl ?_))))))))
          refine Zd (O.m rfl (O.m rfl (Ze ?_)))
          exact X.ret1 rfl rfl (fun w hw => St.retP (iv (by subst_vars; rfl)) hw)
set_option maxRecDepth 100000 in
theorem l01Fits_ok (bs : List B3) (A : Option Addr) (c : Nat) (w : World) (hx : Rd B3C w A bs) (lx : bs.length ≤ 4611686018427387904) : Does Tryz.prog 140 [.slice A bs.length c] w [] (fun v => [.pur (v = .bool (decide (fitsAt bs bs.length)))]) := by
 refine Does.enter Tryz.func140 rfl rfl [(0, .slice A bs.length c)] rfl (Za (O.m rfl (Zc (O.m rfl (Zf ?_)))))
 refine Vb (V.loop2 (β := Nat) (fun i => [(3, .int .i64 (i : Int))]) _ (fun i => []) (fun i => i ≤ bs.length ∧ fitsAt bs i) (fun i => bs.length - i) 0 ⟨by omega, fitsAt_zero bs⟩ (Ent.cons rfl (Ent.nil _)) (Ent.cons (t := 0) rfl (Ent.nil _)) (Sub.nil _) ?_)
 rintro i ⟨hi, hf⟩
 refine Zj (O.m rfl (O.m rfl (O.q rfl (Pu.len rfl ut24 rfl) (O.q rfl (Pu.lss rfl rfl rfl) (Zf (V.condD rfl (fun c1 => ?_) (fun c1 => ?_)))))))
 ·refine Zh (O.m rfl (Zi (V.loop2 (β := Nat) (fun k => [(4, .int .i64 (k : Int))]) _ (fun k => []) (fun k => k ≤ i ∧ ∀ j (hj : j < bs.length), j < k → common (bs[i]'(by omega)) bs[j] ≤ 1) (fun k => i - k) 0 ⟨by omega, fun j _ h => by omega⟩ (Ent.cons rfl (Ent.nil _)) (Ent.cons (t := 0) rfl (Ent.cons (t := 3) rfl (Ent.nil _))) (Sub.nil _) ?_)))
  rintro k ⟨hk, hg⟩
  refine Zj (O.m rfl (O.m rfl (O.q rfl (Pu.lss rfl rfl rfl) (Zf (V.condD rfl (fun c2 => ?_) (fun c2 => ?_))))))
  ·refine Vk (Xn (Vs (Vb (Vs (V.draw mo (by kernel_rfl) (fun hwf => D.m 0 rfl (D.m 1 rfl (D.q 2 rfl (Pu.indexAddr (i) rfl ut24 sz81 rfl rfl (by omega) (by omega) (hx.some (by omega))) ?_))))))))
   have e1 : i < bs.length := by omega
   refine D.q 3 rfl (Pu.loadAgg' (v := B3.v (bs[i]'e1)) rfl rfl ag81 sz81 rfl rfl (Ld.rds (Ld.old hx) (k := i) e1 rfl)) (D.m 4 rfl (D.m 5 rfl (D.q 6 rfl (Pu.indexAddr (k) rfl ut24 sz81 rfl rfl (by omega) (by omega) (hx.some (by omega))) ?_)))
   have e2 : k < bs.length := by omega
   refine D.q 7 rfl (Pu.loadAgg' (v := B3.v (bs[k]'e2)) rfl rfl ag81 sz81 rfl rfl (Ld.rds (Ld.old hx) (k := k) e2 rfl)) (D.f hwf 8 rfl (Ef.callP call65 rfl rfl (fun w hw => l01Common_ok _ _ _)) ?_)
   rintro _ _ ⟨rfl, rfl⟩ hs
   refine ⟨fun w hw => hw, (D.q 9 rfl (Pu.gtr rfl rfl rfl) (D.done hwf rfl (Xn (V.condD rfl (fun c3 => ?_) (fun c3 => ?_)))))⟩
   ·refine Za (O.m rfl (Ze (Xq (Xr (Xr (Xq (Xq (Xr ?_))))))))
    exact Xr (Xq (Xr (X.ret1 rfl rfl (fun w hw => St.retP (boolF (fun h => by have := h i (by omega) (by omega) k (by omega) (by omega); omega)) hw))))
   ·exact Zg (O.m rfl (O.q rfl (Pu.add64 (r := ((k + 1 : Nat) : Int)) rfl (by omega) rfl rfl rfl) (O.m rfl (On (X.back2 (k + 1) ⟨by omega, fun j hj e => by by_cases h : j = k; (· subst h; omega); (· exact hg j hj (by omega))⟩ (by omega) (Ent.cons rfl (Ent.nil _)) (Ent.cons (t := 0) rfl (Ent.cons (t := 3) rfl (Ent.nil _))) (Sub.nil _))))))
  ·exact Ve (Xe (Xe (Xh (Xb (Xn (Vr (O.m rfl (O.q rfl (Pu.add64 (r := ((i + 1 : Nat) : Int)) rfl (by omega) rfl rfl rfl) (O.m rfl (On (X.back2 (i + 1) ⟨by omega, fitsAt_succ (by omega) hf (fun j hj e => hg j hj (by omega))⟩ (by omega) (Ent.cons rfl (Ent.nil _)) (Ent.cons (t := 0) rfl (Ent.nil _)) (Sub.nil _))))))))))))
 ·exact Zd (O.m rfl (Ze (X.ret1 rfl rfl (fun w hw => St.retP (boolT (fitsAt_len (by omega) hf)) hw))))
set_option maxRecDepth 100000 in
theorem l01Is_ok (v : Int) (bs : List B3) (A : Option Addr) (c : Nat) (w : World) (hx : Rd B3C w A bs) (lx : bs.length ≤ 4611686018427387904) : Does Tryz.prog 64 [.agg #[.int .i64 v, .slice A bs.length c]] w [] (fun r => [.pur (r = .bool (decide (STS v bs)))]) := by
 refine Does.enter Tryz.func64 rfl rfl [(0, .agg #[.int .i64 v, .slice A bs.length c])] rfl (Za (O.f rfl (Ef.box rfl rfl rfl) ?_))
 rintro _ _ ⟨b1, rfl, rfl⟩
 refine O.m rfl (Zc (O.q rfl (Pu.fieldAddr 0 rfl ut26 rfl sz2 rfl rfl) (O.q rfl (Pu.load rfl pl2 rfl (Ld.blk 0 rfl rfl)) (O.f rfl (Ef.callP call120 rfl rfl (fun w hw => l01In_ok _ _ _ _)) ?_))))
 rintro _ _ ⟨rfl, rfl⟩
 refine O.q rfl (Pu.not rfl rfl) (O.m rfl (O.splitN 8 rfl (fun c1 => ?_) (fun c1 => ?_)))
 ·refine O.g rfl (O.g rfl (O.g rfl (O.g rfl (O.m rfl (Zf (V.condT rfl (Za (O.m rfl (On ?_)))))))))
  exact Xn (Vt (Xr (X.ret1 rfl rfl (fun w hw => St.retP (boolF (fun h => c1 ⟨h.lo, h.hi⟩)) hw))))
 ·refine O.gq rfl (Pu.fieldAddr 1 rfl ut26 rfl sz24 rfl rfl) (O.gq rfl (Pu.load rfl pl24 rfl (Ld.blk 0 rfl rfl)) (O.gq rfl (Pu.len rfl ut24 rfl) (O.gq rfl (Pu.gtr rfl rfl rfl) (O.m rfl (Zf (V.condD rfl (fun c2 => ?_) (fun c2 => ?_)))))))
  ·exact Za (O.m rfl (Ze (Xr (X.ret1 rfl rfl (fun w hw => St.retP (boolF (fun h => by have := h.few; omega)) hw)))))
  ·refine Vk (Xn (Zj (O.m rfl (Zi (V.loop3 (β := Nat) (fun i => [(3, .int .i64 (i : Int))]) _ (fun i => []) _ (fun i => i ≤ bs.length ∧ ordAt v bs i) (fun i => bs.length - i) 0 ⟨by omega, ordAt_zero v bs⟩ (Ent.cons rfl (Ent.nil _)) (Ent.cons (t := 1) rfl (Ent.nil _)) (Sub.s [0] rfl) ?_)))))
   rintro i ⟨hi, hf⟩
   refine Zj (O.m rfl (O.q rfl (Pu.fieldAddr 1 rfl ut26 rfl sz24 rfl rfl) (O.q rfl (Pu.load rfl pl24 rfl (Ld.blk 0 rfl rfl)) (O.q rfl (Pu.len rfl ut24 rfl) (O.q rfl (Pu.lss rfl rfl rfl) (Zf (V.condD rfl (fun c3 => ?_) (fun c3 => ?_))))))))
   ·refine Vk (Xn (Vs (Vb (Vs (V.draw mo (by kernel_rfl) (fun hwf => D.q 0 rfl (Pu.fieldAddr 0 rfl ut26 rfl sz2 rfl rfl) (D.q 1 rfl (Pu.load rfl pl2 rfl (Ld.blk 0 rfl rfl)) (D.q 2 rfl (Pu.fieldAddr 1 rfl ut26 rfl sz24 rfl rfl) (D.q 3 rfl (Pu.load rfl pl24 rfl (Ld.blk 0 rfl rfl)) (D.m 4 rfl (D.q 5 rfl (Pu.indexAddr (i) rfl ut24 sz81 rfl rfl (by omega) (by omega) (hx.some (by omega))) ?_)))))))))))
    have e1 : i < bs.length := by omega
    refine D.q 6 rfl (Pu.loadAgg' (v := B3.v (bs[i]'e1)) rfl rfl ag81 sz81 rfl rfl (Ld.rds (Ld.old hx) (k := i) e1 rfl)) (D.f hwf 7 rfl (Ef.callP call138 rfl rfl (fun w hw => l01Good_ok _ _ _)) ?_)
    rintro _ _ ⟨rfl, rfl⟩ hs
    refine ⟨fun w hw => hw, (D.q 8 rfl (Pu.not rfl rfl) (D.m 9 rfl (D.splitN 30 rfl (fun c4 => ?_) (fun c4 => ?_))))⟩
    ·refine D.g 10 rfl (D.g 11 rfl (D.g 12 rfl (D.g 13 rfl (D.g 14 rfl (D.g 15 rfl (D.g 16 rfl (D.g 17 rfl (D.g 18 rfl (D.g 19 rfl (D.g 20 rfl (D.g 21 rfl ?_)))))))))))
     refine D.g 22 rfl (D.g 23 rfl (D.g 24 rfl (D.g 25 rfl (D.g 26 rfl (D.m 27 rfl (D.done hwf rfl (Xn (V.condT rfl (Za (O.m rfl ?_))))))))))
     exact Ze (Xq (Xr (Xr (Xq (Xr (X.ret1 rfl rfl (fun w hw => St.retP (boolF (fun h => c4 (h.ord i (by omega) (by omega)).1)) hw)))))))
    ·refine D.gm 10 rfl (D.gq 11 rfl (Pu.gtr rfl rfl rfl) (D.gm 12 rfl (D.splitD 33 rfl (fun c5 => ?_) (fun c5 => ?_))))
     ·refine D.gq 13 rfl (Pu.fieldAddr 1 rfl ut26 rfl sz24 rfl rfl) (D.gq 14 rfl (Pu.load rfl pl24 rfl (Ld.blk 0 rfl rfl)) (D.gm 15 rfl (D.gq 16 rfl (Pu.sub64 (r := ((i - 1 : Nat) : Int)) (by omega) (by omega) rfl rfl rfl) (D.gq 17 rfl (Pu.indexAddr (i - 1) rfl ut24 sz81 rfl rfl (by omega) (by omega) (hx.some (by omega))) ?_))))
      have e2 : i - 1 < bs.length := by omega
      refine D.gq 18 rfl (Pu.loadAgg' (v := B3.v (bs[i - 1]'e2)) rfl rfl ag81 sz81 rfl rfl (Ld.rds (Ld.old hx) (k := i - 1) e2 rfl)) (D.gq 19 rfl (Pu.fieldAddr 1 rfl ut26 rfl sz24 rfl rfl) (D.gq 20 rfl (Pu.load rfl pl24 rfl (Ld.blk 0 rfl rfl)) (D.gm 21 rfl (D.gq 22 rfl (Pu.indexAddr (i) rfl ut24 sz81 rfl rfl (by omega) (by omega) (hx.some (by omega))) (D.gq 23 rfl (Pu.loadAgg' (v := B3.v (bs[i]'e1)) rfl rfl ag81 sz81 rfl rfl (Ld.rds (Ld.old hx) (k := i) e1 rfl)) (D.geff hwf (e := 24) rfl rfl rfl rfl rfl rfl (Ef.callP call139 rfl rfl (fun w hw => l01Before_ok _ _ _)) rfl rfl rfl ?_))))))
      rintro _ _ ⟨rfl, rfl⟩ hs
      refine ⟨fun w hw => hw, (D.gq 25 rfl (Pu.not rfl rfl) (D.gm 26 rfl (D.m 27 rfl (D.done hwf rfl (Xn (V.condNot rfl (fun c6 => ?_) (fun c6 => ?_)))))))⟩
      ·exact Za (O.m rfl (Ze (Xq (Xr (Xr (Xq (Xr (X.ret1 rfl rfl (fun w hw => St.retP (boolF (fun h => c6 ((h.ord i (by omega) (by omega)).2 (i - 1) (by omega) (by omega)))) hw)))))))))
      ·exact Zg (O.m rfl (O.q rfl (Pu.add64 (r := ((i + 1 : Nat) : Int)) rfl (by omega) rfl rfl rfl) (O.m rfl (On (X.back3 (i + 1) ⟨by omega, ordAt_succ (by omega) hf (by assumption) (fun j hj e => by subst e; assumption)⟩ (by omega) (Ent.cons rfl (Ent.nil _)) (Ent.cons (t := 1) rfl (Ent.nil _)) (Sub.s [0] rfl))))))
     ·refine D.g 13 rfl (D.g 14 rfl (D.g 15 rfl (D.g 16 rfl (D.g 17 rfl (D.g 18 rfl (D.g 19 rfl (D.g 20 rfl (D.g 21 rfl (D.g 22 rfl (D.g 23 rfl (D.g 24 rfl ?_)))))))))))
      refine D.g 25 rfl (D.gm 26 rfl (D.m 27 rfl (D.done hwf rfl (Xn (V.condF rfl (Zg (O.m rfl (O.q rfl (Pu.add64 (r := ((i + 1 : Nat) : Int)) rfl (by omega) rfl rfl rfl) ?_))))))))
      exact O.m rfl (On (X.back3 (i + 1) ⟨by omega, ordAt_succ (by omega) hf (by assumption) (fun j hj e => by omega)⟩ (by omega) (Ent.cons rfl (Ent.nil _)) (Ent.cons (t := 1) rfl (Ent.nil _)) (Sub.s [0] rfl)))
   ·refine Zd (O.q rfl (Pu.fieldAddr 1 rfl ut26 rfl sz24 rfl rfl) (O.q rfl (Pu.load rfl pl24 rfl (Ld.blk 0 rfl rfl)) (O.f rfl (Ef.callP call140 rfl rfl (fun w hw => l01Fits_ok bs _ _ w ((Ld.old hx) w hw) (by omega))) ?_)))
    rintro _ _ ⟨rfl, rfl⟩
    exact O.m rfl (Ze (X.ret1 rfl rfl (fun w hw => St.retP (boolD ⟨fun h => ⟨c1.1, c1.2, by omega, ordAt_len (by omega) hf, h⟩, fun h => h.fits⟩) hw)))
set_option maxRecDepth 100000 in
theorem newGrid_ok (w : World) : Does Tryz.prog 188 [] w [] (fun v => [.exi fun g => .sep (.pur (v = .pointer (some ⟨g, 0, none⟩))) (Grid g (fun _ _ => -1) 198)]) := by
 refine Does.enter Tryz.func188 rfl rfl [] rfl (Za (O.m rfl (Zb (O.f rfl (Ef.allocGrid rfl zr198) ?_))))
 rintro _ _ ⟨b1, rfl, rfl⟩
 refine Zc (O.m rfl (Zi (V.loop2 (β := Nat) (fun i => [(4, .int .i64 (i : Int))]) _ (fun i => [Grid b1 (ngrid i 0) 198]) (fun i => i ≤ 15) (fun i => 15 - i) 0 (by omega) (Ent.cons rfl (Ent.nil _)) (Ent.cons (t := 0) rfl (Ent.cons (t := 1) rfl (Ent.nil _))) (Sub.cons 0 rfl ngrid_start (Sub.nil _)) ?_)))
 rintro i hi
 refine Za (O.q rfl (Pu.lss rfl rfl rfl) (Zf (Vs (V.condD rfl (fun c1 => ?_) (fun c1 => ?_)))))
 ·refine Zh (O.m rfl (O.m rfl (Zb ?_)))
  refine O.m rfl (Zi (V.loop2 (β := Nat) (fun k => [(7, .int .i64 (k : Int))]) _ (fun k => [Grid b1 (ngrid i k) 198]) (fun k => k ≤ 15) (fun k => 15 - k) 0 (by omega) (Ent.cons rfl (Ent.nil _)) (Ent.cons (t := 0) rfl (Ent.cons (t := 1) rfl (Ent.cons (t := 2) rfl (Ent.cons (t := 4) rfl (Ent.nil _))))) (Sub.s [0] rfl) ?_))
  rintro k hk
  refine Za (O.q rfl (Pu.lss rfl rfl rfl) (Zf (Vs (V.condD rfl (fun c2 => ?_) (fun c2 => ?_)))))
  ·refine Zh (O.m rfl (O.m rfl (Zf (Vr (O.m rfl ?_)))))
   refine O.m rfl (O.q rfl (Pu.indexArr (i) (0 + i * 15) rfl ut198 sz89 rfl rfl (by omega) (by omega) rfl) (O.q rfl (Pu.indexArr (k) (0 + i * 15 + k * 1) rfl ut89 sz2 rfl rfl (by omega) (by omega) rfl) (O.s rfl rfl (Ef.storeGrid 0 ((↑i : Int)) ((↑k : Int)) rfl sz2 rfl rfl rfl (by omega) (by omega) (by omega)) ?_)))
   rintro _ _ rfl
   exact Zk (O.q rfl (Pu.add64 (r := ((k + 1 : Nat) : Int)) rfl (by omega) rfl rfl rfl) (O.m rfl (On (X.back2 (k + 1) (by omega) (by omega) (Ent.cons rfl (Ent.nil _)) (Ent.cons (t := 0) rfl (Ent.cons (t := 1) rfl (Ent.cons (t := 2) rfl (Ent.cons (t := 4) rfl (Ent.nil _))))) (Sub.cons 0 rfl (ngrid_set) (Sub.nil _))))))
  ·exact Ve (Xe (Xe (Xh (Xb (Xn (Vr (O.q rfl (Pu.add64 (r := ((i + 1 : Nat) : Int)) rfl (by omega) rfl rfl rfl) (O.m rfl (On (X.back2 (i + 1) (by omega) (by omega) (Ent.cons rfl (Ent.nil _)) (Ent.cons (t := 0) rfl (Ent.cons (t := 1) rfl (Ent.nil _))) (Sub.cons 0 rfl (ngrid_row (by omega)) (Sub.nil _))))))))))))
 ·exact Zd (O.m rfl (Ze (X.ret1 rfl rfl (fun w hw => St.retX b1 rfl (hw.sub (Sub.cons 0 rfl (ngrid_end (by omega)) (Sub.nil _)))))))
set_option maxRecDepth 100000 in
theorem isLeft_ok (g : Nat) (G : Int → Int → Int) (b : B3) (w : World) (hG : GridAt w g G 198) (hb : (0 ≤ b.1 ∧ b.1 < 15) ∧ (0 ≤ b.2.1 ∧ b.2.1 < 15) ∧ (0 ≤ b.2.2 ∧ b.2.2 < 15)) : Does Tryz.prog 189 [.pointer (some ⟨g, 0, none⟩), B3.v b] w [] (fun v => [.pur (v = .bool (decide (isLeft G b)))]) := by
 refine Does.enter Tryz.func189 rfl rfl [(0, .pointer (some ⟨g, 0, none⟩)), (1, B3.v b)] rfl (Za (O.f rfl (Ef.box rfl rfl rfl) ?_))
 rintro _ _ ⟨b1, rfl, rfl⟩
 refine O.m rfl (Zf (Vs (V.ent (Ent.cons (t := 0) rfl (Ent.cons (t := 3) rfl (Ent.nil _))) (V.draw mo (by kernel_rfl) (fun hwf => D.m 0 rfl (D.q 1 rfl (Pu.indexArr 0 0 rfl ut81 sz2 rfl rfl (by decide) (by decide) (by decide)) (D.q 2 rfl (Pu.load rfl pl2 rfl (Ld.blk 0 rfl rfl)) (D.q 3 rfl (Pu.indexArr 1 1 rfl ut81 sz2 rfl rfl (by decide) (by decide) (by decide)) (D.q 4 rfl (Pu.load rfl pl2 rfl (Ld.blk 0 rfl rfl)) (D.m 5 rfl ?_))))))))))
 refine D.q 6 rfl (Pu.indexArr ((b.1).toNat) (0 + (b.1).toNat * 15) rfl ut198 sz89 rfl rfl (by omega) (by omega) rfl) (D.q 7 rfl (Pu.indexArr ((b.2.1).toNat) (0 + (b.1).toNat * 15 + (b.2.1).toNat * 1) rfl ut89 sz2 rfl rfl (by omega) (by omega) rfl) (D.q 8 rfl (Pu.load rfl pl2 rfl (Ld.gridOld (x := b.1) (y := b.2.1) hG (by omega) (by omega) (by omega))) (D.q 9 rfl (Pu.eql rfl rfl rfl) (D.m 10 rfl (D.splitD 15 rfl (fun c1 => ?_) (fun c1 => ?_))))))
 ·refine D.gm 11 rfl (D.gq 12 rfl (Pu.indexArr 0 0 rfl ut81 sz2 rfl rfl (by decide) (by decide) (by decide)) (D.gq 13 rfl (Pu.load rfl pl2 rfl (Ld.blk 0 rfl rfl)) (D.gq 14 rfl (Pu.indexArr 2 2 rfl ut81 sz2 rfl rfl (by decide) (by decide) (by decide)) (D.gq 15 rfl (Pu.load rfl pl2 rfl (Ld.blk 0 rfl rfl)) (D.gm 16 rfl (D.gq 17 rfl (Pu.indexArr ((b.1).toNat) (0 + (b.1).toNat * 15) rfl ut198 sz89 rfl rfl (by omega) (by omega) rfl) (D.gq 18 rfl (Pu.indexArr ((b.2.2).toNat) (0 + (b.1).toNat * 15 + (b.2.2).toNat * 1) rfl ut89 sz2 rfl rfl (by omega) (by omega) rfl) (D.gq 19 rfl (Pu.load rfl pl2 rfl (Ld.gridOld (x := b.1) (y := b.2.2) hG (by omega) (by omega) (by omega))) (D.gq 20 rfl (Pu.eql rfl rfl rfl) (D.m 21 rfl (D.m 22 rfl (D.splitD 27 rfl (fun c2 => ?_) (fun c2 => ?_)))))))))))))
  ·refine D.gm 23 rfl (D.gq 24 rfl (Pu.indexArr 1 1 rfl ut81 sz2 rfl rfl (by decide) (by decide) (by decide)) (D.gq 25 rfl (Pu.load rfl pl2 rfl (Ld.blk 0 rfl rfl)) (D.gq 26 rfl (Pu.indexArr 2 2 rfl ut81 sz2 rfl rfl (by decide) (by decide) (by decide)) (D.gq 27 rfl (Pu.load rfl pl2 rfl (Ld.blk 0 rfl rfl)) (D.gm 28 rfl (D.gq 29 rfl (Pu.indexArr ((b.2.1).toNat) (0 + (b.2.1).toNat * 15) rfl ut198 sz89 rfl rfl (by omega) (by omega) rfl) (D.gq 30 rfl (Pu.indexArr ((b.2.2).toNat) (0 + (b.2.1).toNat * 15 + (b.2.2).toNat * 1) rfl ut89 sz2 rfl rfl (by omega) (by omega) rfl) (D.gq 31 rfl (Pu.load rfl pl2 rfl (Ld.gridOld (x := b.2.1) (y := b.2.2) hG (by omega) (by omega) (by omega))) (D.gq 32 rfl (Pu.eql rfl rfl rfl) (D.m 33 rfl (D.m 34 rfl ?_)))))))))))
   exact D.done hwf rfl (Xn (Vt (X.ret1 rfl rfl (fun w hw => St.retP (boolD ⟨fun h => ⟨c1, c2, h⟩, fun h => h.2.2⟩) hw))))
  ·refine D.g 23 rfl (D.g 24 rfl (D.g 25 rfl (D.g 26 rfl (D.g 27 rfl (D.g 28 rfl (D.g 29 rfl (D.g 30 rfl (D.g 31 rfl (D.g 32 rfl (D.m 33 rfl (D.m 34 rfl ?_)))))))))))
   exact D.done hwf rfl (Xn (Vt (X.ret1 rfl rfl (fun w hw => St.retP (boolF (fun h => c2 h.2.1)) hw))))
 ·refine D.g 11 rfl (D.g 12 rfl (D.g 13 rfl (D.g 14 rfl (D.g 15 rfl (D.g 16 rfl (D.g 17 rfl (D.g 18 rfl (D.g 19 rfl (D.g 20 rfl (D.m 21 rfl (D.m 22 rfl ?_)))))))))))
  refine D.g 23 rfl (D.g 24 rfl (D.g 25 rfl (D.g 26 rfl (D.g 27 rfl (D.g 28 rfl (D.g 29 rfl (D.g 30 rfl (D.g 31 rfl (D.g 32 rfl (D.m 33 rfl (D.m 34 rfl ?_)))))))))))
  exact D.done hwf rfl (Xn (Vt (X.ret1 rfl rfl (fun w hw => St.retP (boolF (fun h => c1 h.1)) hw))))
set_option maxRecDepth 100000 in
theorem put_true (g : Nat) (G : Int → Int → Int) (b : B3) (w0 : World) (H : List Assn) (hb : (0 ≤ b.1 ∧ b.1 < 15) ∧ (0 ≤ b.2.1 ∧ b.2.1 < 15) ∧ (0 ≤ b.2.2 ∧ b.2.2 < 15)) : Does Tryz.prog 190 [.pointer (some ⟨g, 0, none⟩), B3.v b, .bool true] w0 (Grid g G 198 :: H) (fun v => .pur (v = .tuple #[]) :: Grid g (tabPut G b) 198 :: H) := by
 refine Does.enter Tryz.func190 rfl rfl [(0, .pointer (some ⟨g, 0, none⟩)), (1, B3.v b), (2, .bool true)] rfl (Za (O.f rfl (Ef.box rfl rfl rfl) ?_))
 rintro _ _ ⟨b1, rfl, rfl⟩
 refine Zb (O.q rfl (Pu.loadAgg rfl ag81 sz81 rfl rfl (Ld.whole 0 rfl)) (O.m rfl (Zi (V.unroll 3 (Za ?_)))))
 refine O.q rfl (Pu.isT (by decide) (Pu.lss rfl rfl rfl)) (Zf (Vs (V.condT rfl (Zh (O.m rfl ?_)))))
 refine O.q rfl (Pu.indexAgg 0 rfl ut81 sz2 pl2 rfl rfl (by decide) (by decide) rfl) (O.m rfl (O.m rfl (Zf (Vs (V.draw mo (by kernel_rfl) (fun hwf => D.m 0 rfl (D.q 1 rfl (Pu.add64 (r := 1) (by decide) (by decide) rfl rfl rfl) (D.q 2 rfl (Pu.rem64' (r := 1) (by decide) (by decide) (by decide) rfl rfl rfl) (D.q 3 rfl (Pu.indexArr 1 1 rfl ut81 sz2 rfl rfl (by decide) (by decide) (by decide)) (D.q 4 rfl (Pu.load rfl pl2 rfl (Ld.blk 0 rfl rfl)) ?_))))))))))
 refine D.m 5 rfl (D.q 6 rfl (Pu.add64 (r := 2) (by decide) (by decide) rfl rfl rfl) (D.q 7 rfl (Pu.rem64' (r := 2) (by decide) (by decide) (by decide) rfl rfl rfl) (D.q 8 rfl (Pu.indexArr 2 2 rfl ut81 sz2 rfl rfl (by decide) (by decide) (by decide)) (D.q 9 rfl (Pu.load rfl pl2 rfl (Ld.blk 0 rfl rfl)) (D.m 10 rfl (D.m 11 rfl (D.done hwf rfl (Xn (Zj ?_)))))))))
 refine O.m rfl (O.q rfl (Pu.notT rfl rfl) (Zf (V.condF rfl (Vk (Xn (V.drawS mo (by kernel_rfl) (Sub.s [0] rfl) (fun hwf => D.m 0 rfl (D.m 1 rfl (D.m 2 rfl (D.m 3 rfl ?_))))))))))
 refine D.m 4 rfl (D.m 5 rfl (D.m 6 rfl (D.m 7 rfl (D.m 8 rfl (D.q 9 rfl (Pu.indexArr ((b.1).toNat) (0 + (b.1).toNat * 15) rfl ut198 sz89 rfl rfl (by omega) (by omega) rfl) (D.q 10 rfl (Pu.indexArr ((b.2.1).toNat) (0 + (b.1).toNat * 15 + (b.2.1).toNat * 1) rfl ut89 sz2 rfl rfl (by omega) (by omega) rfl) (D.m 12 rfl (D.q 13 rfl (Pu.indexArr ((b.2.1).toNat) (0 + (b.2.1).toNat * 15) rfl ut198 sz89 rfl rfl (by omega) (by omega) rfl) (D.q 14 rfl (Pu.indexArr ((b.1).toNat) (0 + (b.2.1).toNat * 15 + (b.1).toNat * 1) rfl ut89 sz2 rfl rfl (by omega) (by omega) rfl) (D.f hwf 11 rfl (Ef.storeGrid 1 (b.1) (b.2.1) rfl sz2 rfl rfl rfl (by omega) (by omega) (by omega)) ?_))))))))))
 rintro _ _ rfl hs
 refine ⟨fun w hw => hw.sub (Sub.s [0] rfl), (D.f hwf 15 rfl (Ef.storeGrid 1 (b.2.1) (b.1) rfl sz2 rfl rfl rfl (by omega) (by omega) (by omega)) ?_)⟩
 rintro _ _ rfl hs
 refine ⟨fun w hw => hw.sub (Sub.s [0] rfl), (D.done hwf rfl (Xb (Xn (Vr (O.q rfl (Pu.add64 (r := 1) (by decide) (by decide) rfl rfl rfl) (O.m rfl (On (X.again 2 (Za (O.q rfl (Pu.isT (by decide) (Pu.lss rfl rfl rfl)) ?_))))))))))⟩
 refine Zf (Vs (V.condT rfl (Zh (O.m rfl (O.q rfl (Pu.indexAgg 1 rfl ut81 sz2 pl2 rfl rfl (by decide) (by decide) rfl) ?_)))))
 refine O.m rfl (O.m rfl (Zf (Vs (V.ent (Ent.cons (t := 0) rfl (Ent.cons (t := 2) rfl (Ent.cons (t := 4) rfl (Ent.cons (t := 6) rfl (Ent.cons (t := 7) rfl (Ent.cons (t := 10) rfl (Ent.cons (t := 11) rfl (Ent.nil _)))))))) (V.draw mo (by kernel_rfl) (fun hwf => D.m 0 rfl (D.q 1 rfl (Pu.add64 (r := 2) (by decide) (by decide) rfl rfl rfl) (D.q 2 rfl (Pu.rem64' (r := 2) (by decide) (by decide) (by decide) rfl rfl rfl) (D.q 3 rfl (Pu.indexArr 2 2 rfl ut81 sz2 rfl rfl (by decide) (by decide) (by decide)) (D.q 4 rfl (Pu.load rfl pl2 rfl (Ld.blk 0 rfl rfl)) ?_))))))))))
 refine D.m 5 rfl (D.q 6 rfl (Pu.add64 (r := 3) (by decide) (by decide) rfl rfl rfl) (D.q 7 rfl (Pu.rem64' (r := 0) (by decide) (by decide) (by decide) rfl rfl rfl) (D.q 8 rfl (Pu.indexArr 0 0 rfl ut81 sz2 rfl rfl (by decide) (by decide) (by decide)) (D.q 9 rfl (Pu.load rfl pl2 rfl (Ld.blk 0 rfl rfl)) (D.m 10 rfl (D.m 11 rfl (D.done hwf rfl (Xn (Zj ?_)))))))))
 refine O.m rfl (O.q rfl (Pu.notT rfl rfl) (Zf (V.condF rfl (Vk (Xn (V.drawS mo (by kernel_rfl) (Sub.s [0] rfl) (fun hwf => D.m 0 rfl (D.m 1 rfl (D.m 2 rfl (D.m 3 rfl ?_))))))))))
 refine D.m 4 rfl (D.m 5 rfl (D.m 6 rfl (D.m 7 rfl (D.m 8 rfl (D.q 9 rfl (Pu.indexArr ((b.2.1).toNat) (0 + (b.2.1).toNat * 15) rfl ut198 sz89 rfl rfl (by omega) (by omega) rfl) (D.q 10 rfl (Pu.indexArr ((b.2.2).toNat) (0 + (b.2.1).toNat * 15 + (b.2.2).toNat * 1) rfl ut89 sz2 rfl rfl (by omega) (by omega) rfl) (D.m 12 rfl (D.q 13 rfl (Pu.indexArr ((b.2.2).toNat) (0 + (b.2.2).toNat * 15) rfl ut198 sz89 rfl rfl (by omega) (by omega) rfl) (D.q 14 rfl (Pu.indexArr ((b.2.1).toNat) (0 + (b.2.2).toNat * 15 + (b.2.1).toNat * 1) rfl ut89 sz2 rfl rfl (by omega) (by omega) rfl) (D.f hwf 11 rfl (Ef.storeGrid 1 (b.2.1) (b.2.2) rfl sz2 rfl rfl rfl (by omega) (by omega) (by omega)) ?_))))))))))
 rintro _ _ rfl hs
 refine ⟨fun w hw => hw.sub (Sub.s [0] rfl), (D.f hwf 15 rfl (Ef.storeGrid 1 (b.2.2) (b.2.1) rfl sz2 rfl rfl rfl (by omega) (by omega) (by omega)) ?_)⟩
 rintro _ _ rfl hs
 refine ⟨fun w hw => hw.sub (Sub.s [0] rfl), (D.done hwf rfl (Xb (Xn (Vr (O.q rfl (Pu.add64 (r := 2) (by decide) (by decide) rfl rfl rfl) (O.m rfl (On (X.again 1 (Za (O.q rfl (Pu.isT (by decide) (Pu.lss rfl rfl rfl)) ?_))))))))))⟩
 refine Zf (Vs (V.condT rfl (Zh (O.m rfl (O.q rfl (Pu.indexAgg 2 rfl ut81 sz2 pl2 rfl rfl (by decide) (by decide) rfl) ?_)))))
 refine O.m rfl (O.m rfl (Zf (Vs (V.ent (Ent.cons (t := 0) rfl (Ent.cons (t := 2) rfl (Ent.cons (t := 4) rfl (Ent.cons (t := 6) rfl (Ent.cons (t := 7) rfl (Ent.cons (t := 10) rfl (Ent.cons (t := 11) rfl (Ent.nil _)))))))) (V.draw mo (by kernel_rfl) (fun hwf => D.m 0 rfl (D.q 1 rfl (Pu.add64 (r := 3) (by decide) (by decide) rfl rfl rfl) (D.q 2 rfl (Pu.rem64' (r := 0) (by decide) (by decide) (by decide) rfl rfl rfl) (D.q 3 rfl (Pu.indexArr 0 0 rfl ut81 sz2 rfl rfl (by decide) (by decide) (by decide)) (D.q 4 rfl (Pu.load rfl pl2 rfl (Ld.blk 0 rfl rfl)) ?_))))))))))
 refine D.m 5 rfl (D.q 6 rfl (Pu.add64 (r := 4) (by decide) (by decide) rfl rfl rfl) (D.q 7 rfl (Pu.rem64' (r := 1) (by decide) (by decide) (by decide) rfl rfl rfl) (D.q 8 rfl (Pu.indexArr 1 1 rfl ut81 sz2 rfl rfl (by decide) (by decide) (by decide)) (D.q 9 rfl (Pu.load rfl pl2 rfl (Ld.blk 0 rfl rfl)) (D.m 10 rfl (D.m 11 rfl (D.done hwf rfl (Xn (Zj ?_)))))))))
 refine O.m rfl (O.q rfl (Pu.notT rfl rfl) (Zf (V.condF rfl (Vk (Xn (V.drawS mo (by kernel_rfl) (Sub.s [0] rfl) (fun hwf => D.m 0 rfl (D.m 1 rfl (D.m 2 rfl (D.m 3 rfl ?_))))))))))
 refine D.m 4 rfl (D.m 5 rfl (D.m 6 rfl (D.m 7 rfl (D.m 8 rfl (D.q 9 rfl (Pu.indexArr ((b.2.2).toNat) (0 + (b.2.2).toNat * 15) rfl ut198 sz89 rfl rfl (by omega) (by omega) rfl) (D.q 10 rfl (Pu.indexArr ((b.1).toNat) (0 + (b.2.2).toNat * 15 + (b.1).toNat * 1) rfl ut89 sz2 rfl rfl (by omega) (by omega) rfl) (D.m 12 rfl (D.q 13 rfl (Pu.indexArr ((b.1).toNat) (0 + (b.1).toNat * 15) rfl ut198 sz89 rfl rfl (by omega) (by omega) rfl) (D.q 14 rfl (Pu.indexArr ((b.2.2).toNat) (0 + (b.1).toNat * 15 + (b.2.2).toNat * 1) rfl ut89 sz2 rfl rfl (by omega) (by omega) rfl) (D.f hwf 11 rfl (Ef.storeGrid 1 (b.2.2) (b.1) rfl sz2 rfl rfl rfl (by omega) (by omega) (by omega)) ?_))))))))))
 rintro _ _ rfl hs
 refine ⟨fun w hw => hw.sub (Sub.s [0] rfl), (D.f hwf 15 rfl (Ef.storeGrid 1 (b.1) (b.2.2) rfl sz2 rfl rfl rfl (by omega) (by omega) (by omega)) ?_)⟩
 rintro _ _ rfl hs
 refine ⟨fun w hw => hw.sub (Sub.s [0] rfl), (D.done hwf rfl (Xb (Xn (Vr (O.q rfl (Pu.add64 (r := 3) (by decide) (by decide) rfl rfl rfl) (O.m rfl (On (X.again 0 (Za (O.q rfl (Pu.isF (by decide) (Pu.lss rfl rfl rfl)) ?_))))))))))⟩
 exact Zf (Vs (V.condF rfl (Ve (Xe (Xe (Xh (X.endBody (X.ret0 rfl (fun w hw => St.addPur rfl (hw.sub (Sub.t [1] 1 rfl)))))))))))
set_option maxRecDepth 100000 in
theorem gridOf_ok (bs : List B3) (A : Option Addr) (c : Nat) (w : World) (hx : Rd B3C w A bs) (lx : bs.length ≤ 4611686018427387904) (hb : ∀ b ∈ bs, good 15 b) : Does Tryz.prog 146 [.slice A bs.length c] w [] (fun v => [.exi fun g : Option Nat => match g with | none => .pur (v = .tuple #[.pointer none, .bool false] ∧ ¬ fitsAt bs bs.length) | some g => .sep (.pur (v = .tuple #[.pointer (some ⟨g, 0, none⟩), .bool true] ∧ fitsAt bs bs.length)) (Grid g (tab bs) 198)]) := by
 refine Does.enter Tryz.func146 rfl rfl [(0, .slice A bs.length c)] rfl (Za (O.m rfl (O.m rfl (Zb (O.f rfl (Ef.call1 call188 rfl rfl (fun w hw => newGrid_ok _)) ?_)))))
 rintro _ _ rfl
 refine O.exi (fun g1 => O.sep (O.pur ?_))
 rintro rfl
 refine O.m rfl (Zc (O.m rfl (O.q rfl (Pu.len rfl ut24 rfl) (O.m rfl (Zi ?_)))))
 refine V.loop2 (β := Nat) (fun k => [(10, .int .i64 (k : Int))]) _ (fun k => [Grid g1 (tab (bs.take k)) 198]) (fun k => k ≤ bs.length ∧ fitsAt bs k) (fun k => bs.length - k) 0 ⟨by omega, fitsAt_zero bs⟩ (Ent.cons rfl (Ent.nil _)) (Ent.cons (t := 4) rfl (Ent.cons (t := 8) rfl (Ent.cons (t := 9) rfl (Ent.nil _)))) (Sub.s [0] rfl) ?_
 rintro k ⟨hk, hf⟩
 refine Za (O.q rfl (Pu.lss rfl rfl rfl) (Zf (Vs (V.condD rfl (fun c1 => ?_) (fun c1 => ?_)))))
 ·refine Zh (O.q rfl (Pu.indexAddr (k) rfl ut24 sz81 rfl rfl (by omega) (by omega) (hx.some (by omega))) ?_)
  have e1 : k < bs.length := by omega
  refine O.q rfl (Pu.loadAgg' (v := B3.v (bs[k]'e1)) rfl rfl ag81 sz81 rfl rfl (Ld.rds (Ld.old hx) (k := k) e1 rfl)) (O.f rfl (Ef.alloc rfl zr81 rfl) ?_)
  rintro _ _ ⟨b1, rfl, rfl⟩
  refine O.s rfl rfl (Ef.storeAll 0 rfl sz81 rfl rfl rfl rfl (by simp [Value.oneCell']) rfl) ?_
  rintro _ _ rfl
  refine Zc (O.m rfl (O.q rfl (Pu.loadAgg rfl ag81 sz81 rfl rfl (Ld.whole 0 rfl)) (O.f rfl (Ef.callP call189 rfl rfl (fun w hw => isLeft_ok _ _ (bs[k]'e1) w (GridAt.of (i := 1) hw (by exact rfl)) (hb _ (List.getElem_mem e1)).pts)) ?_)))
  rintro _ _ ⟨rfl, rfl⟩
  refine O.q rfl (Pu.not rfl rfl) (Zf (V.condNot rfl (fun c2 => ?_) (fun c2 => ?_)))
  ·refine Za (O.m rfl (O.m rfl (Ze (Xr (Xq (Xr (Xr (Xq ?_))))))))
   exact Xr (X.ret2 rfl rfl rfl (fun w hw => St.mkExi (none : Option Nat) (St.addPur ⟨rfl, fun h => c2 ((isLeft_fits (by omega) (fun b hb' => (hb b hb').three)).2 (fun j hj hjk => h k (by omega) (by omega) j hj hjk))⟩ (hw.sub (Sub.nil _)))))
  ·refine Vk (Xn (Vr (O.m rfl (O.q rfl (Pu.loadAgg rfl ag81 sz81 rfl rfl (Ld.whole 0 rfl)) (O.f rfl (Ef.callM 1 call190 rfl rfl rfl (fun H _ => put_true _ _ (bs[k]'e1) _ H (hb _ (List.getElem_mem e1)).pts)) ?_)))))
   rintro _ _ ⟨rfl, rfl⟩
   exact Zk (O.q rfl (Pu.add64 (r := ((k + 1 : Nat) : Int)) rfl (by omega) rfl rfl rfl) (O.m rfl (On (X.back2 (k + 1) ⟨by omega, fitsAt_succ (by omega) hf ((isLeft_fits (by omega) (fun b hb' => (hb b hb').three)).1 c2)⟩ (by omega) (Ent.cons rfl (Ent.nil _)) (Ent.cons (t := 4) rfl (Ent.cons (t := 8) rfl (Ent.cons (t := 9) rfl (Ent.nil _)))) (Sub.cons 1 rfl (fun w F h => by rw [tab_succ (by omega)]; exact h) (Sub.nil _))))))
 ·refine Zd (O.m rfl (O.m rfl (O.m rfl (Zf ?_))))
  exact Vt (X.ret2 rfl rfl rfl (fun w hw => St.mkExi (some g1) (St.unsep (St.addPur ⟨rfl, fitsAt_len (by omega) hf⟩ (hw.sub (Sub.cons 0 rfl (fun w F h => by rwa [List.take_of_length_le (by omega)] at h) (Sub.nil _)))))))
set_option maxRecDepth 100000 in
theorem areBlocks_ok (v : Int) (bs : List B3) (A : Option Addr) (c : Nat) (w : World) (hx : Rd B3C w A bs) (lx : bs.length ≤ 4611686018427387904) : Does Tryz.prog 92 [.int .i64 v, .slice A bs.length c] w [] (fun r => [.pur (r = .bool (decide (STS v bs)))]) := by
 refine Does.enter Tryz.func92 rfl rfl [(0, .int .i64 v), (1, .slice A bs.length c)] rfl (Za (O.m rfl (Zc (O.m rfl (O.f rfl (Ef.callP call105 rfl rfl (fun w hw => within_ok _ _ _ _)) ?_)))))
 rintro _ _ ⟨rfl, rfl⟩
 refine O.q rfl (Pu.not rfl rfl) (O.m rfl (O.splitN 12 rfl (fun c1 => ?_) (fun c1 => ?_)))
 ·refine O.g rfl (O.g rfl (O.g rfl (O.m rfl (Zf (V.condT rfl (Za (O.m rfl (Zf ?_))))))))
  exact Vt (Xr (X.ret1 rfl rfl (fun w hw => St.retP (boolF (fun h => c1 ⟨h.lo, h.hi⟩)) hw)))
 ·refine O.gm rfl (O.gq rfl (Pu.len rfl ut24 rfl) (O.gq rfl (Pu.gtr rfl rfl rfl) (O.m rfl (Zf (V.condD rfl (fun c2 => ?_) (fun c2 => ?_))))))
  ·exact Za (O.m rfl (Ze (Xr (X.ret1 rfl rfl (fun w hw => St.retP (boolF (fun h => by have := h.few; omega)) hw)))))
  ·refine Vk (Xn (Zj (O.m rfl (O.q rfl (Pu.len rfl ut24 rfl) (O.m rfl (Zi (V.loop2 (β := Nat) (fun i => [(19, .int .i64 (i : Int))]) _ (fun i => []) (fun i => i ≤ bs.length ∧ ordAt v bs i) (fun i => bs.length - i) 0 ⟨by omega, ordAt_zero v bs⟩ (Ent.cons rfl (Ent.nil _)) (Ent.cons (t := 0) rfl (Ent.cons (t := 1) rfl (Ent.cons (t := 17) rfl (Ent.cons (t := 18) rfl (Ent.nil _))))) (Sub.nil _) ?_)))))))
   rintro i ⟨hi, hf⟩
   refine Za (O.q rfl (Pu.lss rfl rfl rfl) (Zf (Vs (V.condD rfl (fun c3 => ?_) (fun c3 => ?_)))))
   ·refine Zh (O.m rfl (O.q rfl (Pu.indexAddr (i) rfl ut24 sz81 rfl rfl (by omega) (by omega) (hx.some (by omega))) ?_))
    have e1 : i < bs.length := by omega
    refine O.q rfl (Pu.loadAgg' (v := B3.v (bs[i]'e1)) rfl rfl ag81 sz81 rfl rfl (Ld.rds (Ld.old hx) (k := i) e1 rfl)) (O.f rfl (Ef.alloc rfl zr81 rfl) ?_)
    rintro _ _ ⟨b1, rfl, rfl⟩
    refine O.m rfl (O.s rfl rfl (Ef.storeAll 0 rfl sz81 rfl rfl rfl rfl (by simp [Value.oneCell']) rfl) ?_)
    rintro _ _ rfl
    refine Zf (Vs (V.draw mo (by kernel_rfl) (fun hwf => D.q 0 rfl (Pu.loadAgg rfl ag81 sz81 rfl rfl (Ld.whole 0 rfl)) (D.m 1 rfl (D.f hwf 2 rfl (Ef.callP call161 rfl rfl (fun w hw => isBlock_ok _ _ _ (by omega))) ?_)))))
    rintro _ _ ⟨rfl, rfl⟩ hs
    refine ⟨fun w hw => hw, (D.q 3 rfl (Pu.not rfl rfl) (D.m 4 rfl (D.splitN 28 rfl (fun c4 => ?_) (fun c4 => ?_))))⟩
    ·refine D.g 5 rfl (D.g 6 rfl (D.g 7 rfl (D.g 8 rfl (D.g 9 rfl (D.g 10 rfl (D.g 11 rfl (D.g 12 rfl (D.g 13 rfl (D.g 14 rfl (D.g 15 rfl (D.g 16 rfl ?_)))))))))))
     refine D.m 17 rfl (D.done hwf rfl (Xn (V.condT rfl (Za (O.m rfl (Ze (Xq (Xr ?_))))))))
     exact Xr (Xq (Xr (X.ret1 rfl rfl (fun w hw => St.retP (boolF (fun h => c4 (h.ord i (by omega) (by omega)).1)) hw))))
    ·refine D.gm 5 rfl (D.gq 6 rfl (Pu.gtr rfl rfl rfl) (D.gm 7 rfl (D.splitD 31 rfl (fun c5 => ?_) (fun c5 => ?_))))
     ·refine D.gm 8 rfl (D.gm 9 rfl (D.gq 10 rfl (Pu.sub64 (r := ((i - 1 : Nat) : Int)) (by omega) (by omega) rfl rfl rfl) (D.gq 11 rfl (Pu.indexAddr (i - 1) rfl ut24 sz81 rfl rfl (by omega) (by omega) (hx.some (by omega))) ?_)))
      have e2 : i - 1 < bs.length := by omega
      refine D.gq 12 rfl (Pu.loadAgg' (v := B3.v (bs[i - 1]'e2)) rfl rfl ag81 sz81 rfl rfl (Ld.rds (Ld.old hx) (k := i - 1) e2 rfl)) (D.gq 13 rfl (Pu.loadAgg rfl ag81 sz81 rfl rfl (Ld.whole 0 rfl)) (D.geff hwf (e := 14) rfl rfl rfl rfl rfl rfl (Ef.callP call162 rfl rfl (fun w hw => compare_ok _ _ _)) rfl rfl rfl ?_))
      rintro _ _ ⟨rfl, rfl⟩ hs
      refine ⟨fun w hw => hw, (D.gq 15 rfl (Pu.geq rfl rfl rfl) (D.gm 16 rfl (D.m 17 rfl (D.done hwf rfl (Xn (V.condD rfl (fun c6 => ?_) (fun c6 => ?_)))))))⟩
      ·exact Za (O.m rfl (Ze (Xq (Xr (Xr (Xq (Xr (X.ret1 rfl rfl (fun w hw => St.retP (boolF (fun h => by have := (cmpL_bl _ _).2 ((h.ord i (by omega) (by omega)).2 (i - 1) (by omega) (by omega)); omega)) hw)))))))))
      ·exact Zg (O.q rfl (Pu.add64 (r := ((i + 1 : Nat) : Int)) rfl (by omega) rfl rfl rfl) (O.m rfl (On (X.back2 (i + 1) ⟨by omega, ordAt_succ (by omega) hf (by assumption) (fun j hj e => by subst e; exact (cmpL_bl _ _).1 (by simp only [Nat.add_sub_cancel] at c6; omega))⟩ (by omega) (Ent.cons rfl (Ent.nil _)) (Ent.cons (t := 0) rfl (Ent.cons (t := 1) rfl (Ent.cons (t := 17) rfl (Ent.cons (t := 18) rfl (Ent.nil _))))) (Sub.nil _)))))
     ·refine D.g 8 rfl (D.g 9 rfl (D.g 10 rfl (D.g 11 rfl (D.g 12 rfl (D.g 13 rfl (D.g 14 rfl (D.g 15 rfl (D.gm 16 rfl (D.m 17 rfl (D.done hwf rfl (Xn ?_)))))))))))
      exact V.condF rfl (Zg (O.q rfl (Pu.add64 (r := ((i + 1 : Nat) : Int)) rfl (by omega) rfl rfl rfl) (O.m rfl (On (X.back2 (i + 1) ⟨by omega, ordAt_succ (by omega) hf (by assumption) (fun j hj e => by omega)⟩ (by omega) (Ent.cons rfl (Ent.nil _)) (Ent.cons (t := 0) rfl (Ent.cons (t := 1) rfl (Ent.cons (t := 17) rfl (Ent.cons (t := 18) rfl (Ent.nil _))))) (Sub.nil _))))))
   ·refine Zd (O.m rfl (O.f rfl (Ef.call1 call146 rfl rfl (fun w hw => gridOf_ok bs _ _ w ((Ld.old hx) w hw) (by omega) (fun b hb => ((ordAt.good (by omega) hf) b hb).mono (by omega)))) ?_))
    rintro v_ _ rfl; refine O.exi (fun g => ?_); rcases g with _ | g
    ·refine O.pur ?_
     rintro ⟨rfl, hfit⟩
     refine O.m rfl (O.m rfl (O.m rfl (O.m rfl (O.m rfl (Zb (O.m rfl (O.m rfl (On ?_))))))))
     exact Xn (Vt (X.ret1 rfl rfl (fun w hw => St.retP (boolF (fun h => hfit h.fits)) hw)))
    ·refine O.sep (O.pur ?_)
     rintro ⟨rfl, hfit⟩
     refine O.m rfl (O.m rfl (O.m rfl (O.m rfl (O.m rfl (Zb (O.m rfl (O.m rfl (On ?_))))))))
     exact Xn (Vt (X.ret1 rfl rfl (fun w hw => St.retP (boolT ⟨c1.1, c1.2, by omega, ordAt_len (by omega) hf, hfit⟩) hw)))
set_option maxRecDepth 100000 in
theorem IsSystem_ok (v : Int) (bs : List B3) (A : Option Addr) (c : Nat) (w : World) (hx : Rd B3C w A bs) (lx : bs.length ≤ 4611686018427387904) : Does Tryz.prog 62 [.agg #[.int .i64 v, .slice A bs.length c]] w [] (fun r => [.pur (r = .bool (decide (STS v bs)))]) := by
 refine Does.enter Tryz.func62 rfl rfl [(0, .agg #[.int .i64 v, .slice A bs.length c])] rfl (Za (O.f rfl (Ef.box rfl rfl rfl) ?_))
 rintro _ _ ⟨b1, rfl, rfl⟩
 refine O.m rfl (Zb (O.q rfl (Pu.fieldAddr 0 rfl ut26 rfl sz2 rfl rfl) (O.q rfl (Pu.load rfl pl2 rfl (Ld.blk 0 rfl rfl)) (O.q rfl (Pu.fieldAddr 1 rfl ut26 rfl sz24 rfl rfl) (O.q rfl (Pu.load rfl pl24 rfl (Ld.blk 0 rfl rfl)) (O.f rfl (Ef.callP call92 rfl rfl (fun w hw => areBlocks_ok _ bs _ _ w ((Ld.old hx) w hw) (by omega))) ?_))))))
 rintro _ _ ⟨rfl, rfl⟩
 exact O.m rfl (Ze (X.ret1 rfl rfl (fun w hw => St.retP (rfl) hw)))
set_option maxRecDepth 100000 in
theorem l01Own_ok (xs : List Int) (A : Option Addr) (c : Nat) (w : World) (hx : Rd I64 w A xs) (hA : A.isSome = true) (lx : xs.length ≤ 1099511627776) : Does Tryz.prog 125 [.slice A xs.length c] w [] (fun v => [.exi fun p : (Option Addr × Nat) × List Int => .sep (.pur (v = .slice p.1.1 p.2.length p.1.2 ∧ p.2 = xs)) (Own 2 I64 p.1.1 p.1.2 p.2)]) := by
 refine Does.enter Tryz.func125 rfl rfl [(0, .slice A xs.length c)] rfl (Za (O.m rfl (Zb (O.f rfl (Ef.build I64 ([] : List Int) rfl ut49 inf2 rfl rfl rfl (by first | decide | (simp; done)) (by kernel_rfl)) ?_))))
 rintro _ _ ⟨A1, hA1, rfl, rfl⟩
 refine O.m rfl (O.f rfl (Ef.append (xs := ([] : List Int)) (ys := xs) 0 rfl ut49 inf2 rfl rfl rfl rfl rfl rfl hA (Ld.old hx) (by simp only [List.length_append, List.length_cons, List.length_nil] at *; omega) (by decide)) ?_)
 rintro _ _ ⟨A2, k1, rfl, rfl, hA2⟩
 replace hA2 := hA2 (.inl hA1)
 exact O.m rfl (Ze (X.ret1 rfl rfl (fun w hw => St.retX ((A2, k1), [] ++ xs) ⟨rfl, rfl⟩ (hw.sub (Sub.s [0] rfl)))))
set_option maxRecDepth 100000 in
theorem l01With_ok (b : B3) (p : Int) (w : World) : Does Tryz.prog 141 [B3.v b, .int .i64 p] w [] (fun v => [.pur (v = .bool (decide (has b p)))]) := by
 refine Does.enter Tryz.func141 rfl rfl [(0, B3.v b), (1, .int .i64 p)] rfl (Za (O.f rfl (Ef.box rfl rfl rfl) ?_))
 rintro _ _ ⟨b1, rfl, rfl⟩
 refine O.m rfl (Zb (O.q rfl (Pu.indexArr 0 0 rfl ut81 sz2 rfl rfl (by decide) (by decide) (by decide)) (O.q rfl (Pu.load rfl pl2 rfl (Ld.blk 0 rfl rfl)) (O.m rfl (O.q rfl (Pu.eql rfl rfl rfl) (O.m rfl (O.splitD 9 rfl (fun c1 => ?_) (fun c1 => ?_))))))))
 ·refine O.g rfl (O.g rfl (O.g rfl (O.g rfl (O.m rfl (O.m rfl (O.g rfl (O.g rfl (O.g rfl (O.g rfl (O.m rfl (O.m rfl ?_)))))))))))
  exact Ze (X.ret1 rfl rfl (fun w hw => St.retP (by first | exact boolT (.inl c1) | exact boolT (.inr (.inl c2)) | exact boolT (.inr (.inl c3)) | exact boolD (by unfold has; simp only [c1, c2, false_or])) hw))
 ·refine O.gq rfl (Pu.indexArr 1 1 rfl ut81 sz2 rfl rfl (by decide) (by decide) (by decide)) (O.gq rfl (Pu.load rfl pl2 rfl (Ld.blk 0 rfl rfl)) (O.gm rfl (O.gq rfl (Pu.eql rfl rfl rfl) (O.m rfl (O.m rfl (O.splitD 15 rfl (fun c2 => ?_) (fun c2 => ?_)))))))
  ·exact O.g rfl (O.g rfl (O.g rfl (O.g rfl (O.m rfl (O.m rfl (Ze (X.ret1 rfl rfl (fun w hw => St.retP (by first | exact boolT (.inl c1) | exact boolT (.inr (.inl c2)) | exact boolT (.inr (.inl c3)) | exact boolD (by unfold has; simp only [c1, c2, false_or])) hw))))))))
  ·exact O.gq rfl (Pu.indexArr 2 2 rfl ut81 sz2 rfl rfl (by decide) (by decide) (by decide)) (O.gq rfl (Pu.load rfl pl2 rfl (Ld.blk 0 rfl rfl)) (O.gm rfl (O.gq rfl (Pu.eql rfl rfl rfl) (O.m rfl (O.m rfl (Ze (X.ret1 rfl rfl (fun w hw => St.retP (by first | exact boolT (.inl c1) | exact boolT (.inr (.inl c2)) | exact boolT (.inr (.inl c3)) | exact boolD (by unfold has; simp only [c1, c2, false_or])) hw))))))))
set_option maxRecDepth 100000 in
theorem has_ok (b : B3) (p : Int) (w : World) : Does Tryz.prog 75 [B3.v b, .int .i64 p] w [] (fun v => [.pur (v = .bool (decide (has b p)))]) := by
 refine Does.enter Tryz.func75 rfl rfl [(0, B3.v b), (1, .int .i64 p)] rfl (Za (O.f rfl (Ef.box rfl rfl rfl) ?_))
 rintro _ _ ⟨b1, rfl, rfl⟩
 refine O.m rfl (Zb (O.q rfl (Pu.indexArr 0 0 rfl ut81 sz2 rfl rfl (by decide) (by decide) (by decide)) (O.q rfl (Pu.load rfl pl2 rfl (Ld.blk 0 rfl rfl)) (O.m rfl (O.q rfl (Pu.eql rfl rfl rfl) (O.m rfl (O.splitD 9 rfl (fun c1 => ?_) (fun c1 => ?_))))))))
 ·refine O.g rfl (O.g rfl (O.g rfl (O.g rfl (O.m rfl (O.m rfl (O.g rfl (O.g rfl (O.g rfl (O.g rfl (O.m rfl (O.m rfl ?_)))))))))))
  exact Ze (X.ret1 rfl rfl (fun w hw => St.retP (by first | exact boolT (.inl c1) | exact boolT (.inr (.inl c2)) | exact boolT (.inr (.inl c3)) | exact boolD (by unfold has; simp only [c1, c2, false_or])) hw))
 ·refine O.gq rfl (Pu.indexArr 1 1 rfl ut81 sz2 rfl rfl (by decide) (by decide) (by decide)) (O.gq rfl (Pu.load rfl pl2 rfl (Ld.blk 0 rfl rfl)) (O.gm rfl (O.gq rfl (Pu.eql rfl rfl rfl) (O.m rfl (O.m rfl (O.splitD 15 rfl (fun c2 => ?_) (fun c2 => ?_)))))))
  ·exact O.g rfl (O.g rfl (O.g rfl (O.g rfl (O.m rfl (O.m rfl (Ze (X.ret1 rfl rfl (fun w hw => St.retP (by first | exact boolT (.inl c1) | exact boolT (.inr (.inl c2)) | exact boolT (.inr (.inl c3)) | exact boolD (by unfold has; simp only [c1, c2, false_or])) hw))))))))
  ·exact O.gq rfl (Pu.indexArr 2 2 rfl ut81 sz2 rfl rfl (by decide) (by decide) (by decide)) (O.gq rfl (Pu.load rfl pl2 rfl (Ld.blk 0 rfl rfl)) (O.gm rfl (O.gq rfl (Pu.eql rfl rfl rfl) (O.m rfl (O.m rfl (Ze (X.ret1 rfl rfl (fun w hw => St.retP (by first | exact boolT (.inl c1) | exact boolT (.inr (.inl c2)) | exact boolT (.inr (.inl c3)) | exact boolD (by unfold has; simp only [c1, c2, false_or])) hw))))))))
set_option maxRecDepth 100000 in
theorem meets_ok (b d : B3) (w : World) : Does Tryz.prog 134 [B3.v b, B3.v d] w [] (fun v => [.pur (v = .bool (decide (meets b d)))]) := by
 refine Does.enter Tryz.func134 rfl rfl [(0, B3.v b), (1, B3.v d)] rfl (Za (O.f rfl (Ef.box rfl rfl rfl) ?_))
 rintro _ _ ⟨b1, rfl, rfl⟩
 refine O.f rfl (Ef.box rfl rfl rfl) ?_
 rintro _ _ ⟨b2, rfl, rfl⟩
 refine O.m rfl (Zb (O.q rfl (Pu.loadAgg rfl ag81 sz81 rfl rfl (Ld.whole 0 rfl)) (O.q rfl (Pu.indexArr 0 0 rfl ut81 sz2 rfl rfl (by decide) (by decide) (by decide)) (O.q rfl (Pu.load rfl pl2 rfl (Ld.blk 1 rfl rfl)) (O.f rfl (Ef.callP call75 rfl rfl (fun w hw => has_ok d _ w)) ?_)))))
 rintro _ _ ⟨rfl, rfl⟩
 refine O.m rfl (O.splitD 9 rfl (fun c1 => ?_) (fun c1 => ?_))
 ·refine O.g rfl (O.g rfl (O.g rfl (O.g rfl (O.m rfl (O.m rfl (O.g rfl (O.g rfl (O.g rfl (O.g rfl (O.m rfl (O.m rfl ?_)))))))))))
  exact Ze (X.ret1 rfl rfl (fun w hw => St.retP (by first | exact boolT (.inl c1) | exact boolT (.inr (.inl c2)) | exact boolT (.inr (.inl c3)) | exact boolD (by unfold meets; simp only [c1, c2, false_or])) hw))
 ·refine O.gq rfl (Pu.loadAgg rfl ag81 sz81 rfl rfl (Ld.whole 0 rfl)) (O.gq rfl (Pu.indexArr 1 1 rfl ut81 sz2 rfl rfl (by decide) (by decide) (by decide)) (O.gq rfl (Pu.load rfl pl2 rfl (Ld.blk 1 rfl rfl)) (O.gf rfl (Ef.callP call75 rfl rfl (fun w hw => has_ok d _ w)) ?_)))
  rintro _ _ ⟨rfl, rfl⟩
  refine O.m rfl (O.m rfl (O.splitD 15 rfl (fun c2 => ?_) (fun c2 => ?_)))
  ·exact O.g rfl (O.g rfl (O.g rfl (O.g rfl (O.m rfl (O.m rfl (Ze (X.ret1 rfl rfl (fun w hw => St.retP (by first | exact boolT (.inl c1) | exact boolT (.inr (.inl c2)) | exact boolT (.inr (.inl c3)) | exact boolD (by unfold meets; simp only [c1, c2, false_or])) hw))))))))
  ·refine O.gq rfl (Pu.loadAgg rfl ag81 sz81 rfl rfl (Ld.whole 0 rfl)) (O.gq rfl (Pu.indexArr 2 2 rfl ut81 sz2 rfl rfl (by decide) (by decide) (by decide)) (O.gq rfl (Pu.load rfl pl2 rfl (Ld.blk 1 rfl rfl)) (O.gf rfl (Ef.callP call75 rfl rfl (fun w hw => has_ok d _ w)) ?_)))
   rintro _ _ ⟨rfl, rfl⟩
   exact O.m rfl (O.m rfl (Ze (X.ret1 rfl rfl (fun w hw => St.retP (by first | exact boolT (.inl c1) | exact boolT (.inr (.inl c2)) | exact boolT (.inr (.inl c3)) | exact boolD (by unfold meets; simp only [c1, c2, false_or])) hw))))
set_option maxRecDepth 100000 in
theorem indexFuncB_ok (p : B3 → Prop) [DecidablePred p] (g : Nat) (caps : Array Value) (xs : List B3) (A : Option Addr) (c : Nat) (w : World) (hok : CallOk Tryz.prog g) (hx : Rd B3C w A xs) (lx : xs.length ≤ 9223372036854775807) (hf : ∀ k (hk : k < xs.length) w', Bel w.heap.size w w' → Does Tryz.prog g ([B3.v xs[k]] ++ caps.toList) w' [] (fun v => [.pur (v = .bool (decide (p xs[k])))])) : Does Tryz.prog 163 [.slice A xs.length c, .func (.func g) #[] caps] w [] (fun v => [.pur (v = .int .i64 (idxP p xs))]) := by
 refine Does.enter Tryz.func163 rfl rfl [(0, .slice A xs.length c), (1, .func (.func g) #[] caps)] rfl (Za (O.m rfl (Zc (O.m rfl (O.q rfl (Pu.len rfl ut24 rfl) (O.m rfl ?_))))))
 refine Zi (V.loop2 (β := Nat) (fun k => [(8, .int .i64 (k : Int))]) _ (fun k => []) (fun k => k ≤ xs.length ∧ ∀ j (hj : j < xs.length), j < k → ¬ p xs[j]) (fun k => xs.length - k) 0 ⟨by omega, fun j hj h => by omega⟩ (Ent.cons rfl (Ent.nil _)) (Ent.cons (t := 0) rfl (Ent.cons (t := 1) rfl (Ent.cons (t := 7) rfl (Ent.nil _)))) (Sub.nil _) ?_)
 rintro k ⟨hk, hn⟩
 refine Za (O.q rfl (Pu.lss rfl rfl rfl) (Zf (Vs (V.condD rfl (fun c1 => ?_) (fun c1 => ?_)))))
 ·refine Zh (O.m rfl (O.m rfl (Zb ?_)))
  refine O.m rfl (O.m rfl (O.m rfl (O.q rfl (Pu.indexAddr (k) rfl ut24 sz81 rfl rfl (by omega) (by omega) (hx.some (by omega))) ?_)))
  have e1 : k < xs.length := by omega
  refine O.q rfl (Pu.loadAgg' (v := B3.v (xs[k]'e1)) rfl rfl ag81 sz81 rfl rfl (Ld.rds (Ld.old hx) (k := k) e1 rfl)) (O.f rfl (Ef.callPV hok rfl rfl rfl (fun w' hw => hf k e1 w' hw.below)) ?_)
  rintro _ _ ⟨rfl, rfl⟩
  refine Zf (V.condD rfl (fun c2 => ?_) (fun c2 => ?_))
  ·refine Za (O.m rfl (O.m rfl (Ze (Xq (Xr (Xr (Xq (Xr ?_))))))))
   exact X.ret1 rfl rfl (fun w hw => St.retP (iv (idxP_found e1 c2 hn).symm) hw)
  ·exact Zg (O.q rfl (Pu.add64 (r := ((k + 1 : Nat) : Int)) rfl (by omega) rfl rfl rfl) (O.m rfl (On (X.back2 (k + 1) ⟨by omega, fun j hj h => by by_cases e : j = k; (· subst e; exact c2); (· exact hn j hj (by omega))⟩ (by omega) (Ent.cons rfl (Ent.nil _)) (Ent.cons (t := 0) rfl (Ent.cons (t := 1) rfl (Ent.cons (t := 7) rfl (Ent.nil _)))) (Sub.nil _)))))
 ·exact Zd (O.m rfl (Ze (X.ret1 rfl rfl (fun w hw => St.retP (iv (idxP_none (fun j hj => hn j hj (by omega))).symm) hw))))
set_option maxRecDepth 100000 in
theorem containsFuncB_ok (p : B3 → Prop) [DecidablePred p] (g : Nat) (caps : Array Value) (xs : List B3) (A : Option Addr) (c : Nat) (w : World) (hok : CallOk Tryz.prog g) (hx : Rd B3C w A xs) (lx : xs.length ≤ 9223372036854775807) (hf : ∀ k (hk : k < xs.length) w', Bel w.heap.size w w' → Does Tryz.prog g ([B3.v xs[k]] ++ caps.toList) w' [] (fun v => [.pur (v = .bool (decide (p xs[k])))])) : Does Tryz.prog 94 [.slice A xs.length c, .func (.func g) #[] caps] w [] (fun v => [.pur (v = .bool (decide (∃ x ∈ xs, p x)))]) := by
 refine Does.enter Tryz.func94 rfl rfl [(0, .slice A xs.length c), (1, .func (.func g) #[] caps)] rfl (Za (O.m rfl (Zb (O.m rfl (O.m rfl (O.f rfl (Ef.callP call163 rfl rfl (fun w hw => indexFuncB_ok p g caps xs _ _ w hok (Ld.old hx w hw) lx (fun k hk w' hb => hf k hk w' (hw.grow hb).below))) ?_))))))
 rintro _ _ ⟨rfl, rfl⟩
 exact O.q rfl (Pu.geq rfl rfl rfl) (O.m rfl (Ze (X.ret1 rfl rfl (fun w hw => St.retP (boolD idxP_nonneg) hw))))
set_option maxRecDepth 100000 in
theorem indexFuncG_ok (p : Int → Prop) [DecidablePred p] (g : Nat) (caps : Array Value) (xs : List Int) (A : Option Addr) (c : Nat) (w : World) (hok : CallOk Tryz.prog g) (hx : Rd I64 w A xs) (lx : xs.length ≤ 9223372036854775807) (hf : ∀ k (hk : k < xs.length) w', Bel w.heap.size w w' → Does Tryz.prog g ([.int .i64 xs[k]] ++ caps.toList) w' [] (fun v => [.pur (v = .bool (decide (p xs[k])))])) : Does Tryz.prog 214 [.slice A xs.length c, .func (.func g) #[] caps] w [] (fun v => [.pur (v = .int .i64 (idxP p xs))]) := by
 refine Does.enter Tryz.func214 rfl rfl [(0, .slice A xs.length c), (1, .func (.func g) #[] caps)] rfl (Za (O.m rfl (Zc (O.m rfl (O.q rfl (Pu.len rfl ut195 rfl) (O.m rfl ?_))))))
 refine Zi (V.loop2 (β := Nat) (fun k => [(8, .int .i64 (k : Int))]) _ (fun k => []) (fun k => k ≤ xs.length ∧ ∀ j (hj : j < xs.length), j < k → ¬ p xs[j]) (fun k => xs.length - k) 0 ⟨by omega, fun j hj h => by omega⟩ (Ent.cons rfl (Ent.nil _)) (Ent.cons (t := 0) rfl (Ent.cons (t := 1) rfl (Ent.cons (t := 7) rfl (Ent.nil _)))) (Sub.nil _) ?_)
 rintro k ⟨hk, hn⟩
 refine Za (O.q rfl (Pu.lss rfl rfl rfl) (Zf (Vs (V.condD rfl (fun c1 => ?_) (fun c1 => ?_)))))
 ·refine Zh (O.m rfl (O.m rfl (Zb ?_)))
  refine O.m rfl (O.m rfl (O.m rfl (O.q rfl (Pu.indexAddr (k) rfl ut195 sz3 rfl rfl (by omega) (by omega) (hx.some (by omega))) ?_)))
  have e1 : k < xs.length := by omega
  refine O.q rfl (Pu.load rfl pl3 rfl (Ld.rd (Ld.old hx) (k := k) e1 rfl rfl)) (O.f rfl (Ef.callPV hok rfl rfl rfl (fun w' hw => hf k e1 w' hw.below)) ?_)
  rintro _ _ ⟨rfl, rfl⟩
  refine Zf (V.condD rfl (fun c2 => ?_) (fun c2 => ?_))
  ·refine Za (O.m rfl (O.m rfl (Ze (Xq (Xr (Xr (Xq (Xr ?_))))))))
   exact X.ret1 rfl rfl (fun w hw => St.retP (iv (idxP_found e1 c2 hn).symm) hw)
  ·exact Zg (O.q rfl (Pu.add64 (r := ((k + 1 : Nat) : Int)) rfl (by omega) rfl rfl rfl) (O.m rfl (On (X.back2 (k + 1) ⟨by omega, fun j hj h => by by_cases e : j = k; (· subst e; exact c2); (· exact hn j hj (by omega))⟩ (by omega) (Ent.cons rfl (Ent.nil _)) (Ent.cons (t := 0) rfl (Ent.cons (t := 1) rfl (Ent.cons (t := 7) rfl (Ent.nil _)))) (Sub.nil _)))))
 ·exact Zd (O.m rfl (Ze (X.ret1 rfl rfl (fun w hw => St.retP (iv (idxP_none (fun j hj => hn j hj (by omega))).symm) hw))))
set_option maxRecDepth 100000 in
theorem containsFuncG_ok (p : Int → Prop) [DecidablePred p] (g : Nat) (caps : Array Value) (xs : List Int) (A : Option Addr) (c : Nat) (w : World) (hok : CallOk Tryz.prog g) (hx : Rd I64 w A xs) (lx : xs.length ≤ 9223372036854775807) (hf : ∀ k (hk : k < xs.length) w', Bel w.heap.size w w' → Does Tryz.prog g ([.int .i64 xs[k]] ++ caps.toList) w' [] (fun v => [.pur (v = .bool (decide (p xs[k])))])) : Does Tryz.prog 207 [.slice A xs.length c, .func (.func g) #[] caps] w [] (fun v => [.pur (v = .bool (decide (∃ x ∈ xs, p x)))]) := by
 refine Does.enter Tryz.func207 rfl rfl [(0, .slice A xs.length c), (1, .func (.func g) #[] caps)] rfl (Za (O.m rfl (Zb (O.m rfl (O.m rfl (O.f rfl (Ef.callP call214 rfl rfl (fun w hw => indexFuncG_ok p g caps xs _ _ w hok (Ld.old hx w hw) lx (fun k hk w' hb => hf k hk w' (hw.grow hb).below))) ?_))))))
 rintro _ _ ⟨rfl, rfl⟩
 exact O.q rfl (Pu.geq rfl rfl rfl) (O.m rfl (Ze (X.ret1 rfl rfl (fun w hw => St.retP (boolD idxP_nonneg) hw))))
set_option maxRecDepth 100000 in
set_option maxHeartbeats 1000000 in
theorem isPasch1_ok (n : Int) (w : World) : Does Tryz.prog 208 [.int .i64 n] w [] (fun r => [.pur (r = .bool (decide (2 < n)))]) := by
 refine Does.enter Tryz.func208 rfl rfl [(0, .int .i64 n)] rfl (Za (O.m rfl (Zb (O.m rfl (O.q rfl (Pu.gtr rfl rfl rfl) (O.m rfl (On ?_)))))))
 exact Xn (Vt (X.ret1 rfl rfl (fun w hw => St.retP (boolD (Iff.rfl)) hw)))
set_option maxRecDepth 100000 in
set_option maxHeartbeats 1000000 in
theorem isPasch_ok (blocks : List B3) (blocksA : Option Addr) (blocksc : Nat) (w : World) (hblocks : Rd B3C w blocksA blocks) (lblocks : blocks.length ≤ 1099511627776) (hg : ∀ b ∈ blocks, good 15 b) (h4 : blocks.length = 4) : Does Tryz.prog 184 [.slice blocksA blocks.length blocksc] w [] (fun r => [.pur (r = .bool (decide (PasB blocks)))]) := by
 refine Does.enter Tryz.func184 rfl rfl [(0, .slice blocksA blocks.length blocksc)] rfl (Za (O.m rfl (Zb (O.f rfl (Ef.alloc rfl zr193 rfl) ?_))))
 rintro _ _ ⟨b1, rfl, rfl⟩
 refine Zb (O.m rfl (Zc (O.m rfl (O.q rfl (Pu.len rfl ut24 rfl) ?_))))
 refine O.m rfl (Zi (V.loop2 (β := Nat × Nat × (List Int)) (fun x => [(4, .int .i64 (x.1 : Int)), (11, .int .i64 (x.2.1 : Int))]) _ (fun x => [Blk b1 ((x.2.2).map (Value.int .i64)) 193]) (fun x => x.2.1 ≤ blocks.length ∧ x.2.2 = cntA ((blocks.take x.2.1).flatMap bl) ∧ x.1 = dist ((blocks.take x.2.1).flatMap bl)) (fun x => blocks.length - x.2.1) (0, 0, [0, 0, 0, 0, 0, 0, 0, 0, 0, 0, 0, 0, 0, 0, 0]) (by (try dsimp only); exact ⟨by omega, by simp [cntA, cN], by simp [dist, posL, cntA, cN]⟩) (Ent.cons rfl (Ent.cons rfl (Ent.nil _))) (Ent.cons (t := 3) rfl (Ent.cons (t := 9) rfl (Ent.cons (t := 10) rfl (Ent.nil _)))) (Sub.cons 0 rfl (fun w F h => h) (Sub.nil _)) ?_))
 rintro ⟨points, k, cs⟩ ⟨hk, hcs, hpo⟩
 dsimp only at hk hcs hpo ⊢
 subst hcs
 subst hpo
 have hdl0 := dist_le ((blocks.take k).flatMap bl)
 refine Za (O.q rfl (Pu.lss rfl rfl rfl) (Zf (Vs (V.condD rfl (fun c1 => ?_) (fun c1 => ?_)))))
 ·refine Zh (O.q rfl (Pu.indexAddr (k) rfl ut24 sz81 rfl rfl (by omega) (by omega) (hblocks.some (by omega))) ?_)
  have e1 : k < blocks.length := by omega
  refine O.q rfl (Pu.loadAgg' (v := B3.v (blocks[k]'e1)) rfl rfl ag81 sz81 rfl rfl (Ld.rds (Ld.old hblocks) (k := k) e1 rfl)) (O.f rfl (Ef.alloc rfl zr81 rfl) ?_)
  rintro _ _ ⟨b2, rfl, rfl⟩
  refine O.s rfl rfl (Ef.storeAll 0 rfl sz81 rfl rfl rfl rfl (by simp [Value.oneCell']) rfl) ?_
  rintro _ _ rfl
  refine Zf (Vs ?_)
  have hgk := hg _ (List.getElem_mem e1)
  unfold good at hgk
  have hfl := flat_len (blocks.take k)
  rw [List.length_take] at hfl
  refine Vr (O.q rfl (Pu.loadAgg' (v := B3.v (blocks[k]'e1)) rfl rfl ag81 sz81 rfl rfl (Ld.whole 0 rfl)) (O.m rfl (Zi (V.unroll 3 (Za (O.q rfl (Pu.isT (by decide) (Pu.lss rfl rfl rfl)) (Zf ?_)))))))
  refine Vs (V.condT rfl (Zh (O.q rfl (Pu.indexAgg 0 rfl ut81 sz2 pl2 rfl rfl (by decide) (by decide) rfl) (O.m rfl (Zf ?_)))))
  refine Vs ?_
  have hbd28 := cnt_bd (ps := ((blocks.take k).flatMap bl)) (by simp only [List.length_append, List.length_singleton, hfl]; omega) ((blocks[k]'e1).1).toNat
  refine Vr (O.m rfl (O.q rfl (Pu.indexArr (((blocks[k]'e1).1).toNat) (0 + ((blocks[k]'e1).1).toNat * 1) rfl ut193 sz3 rfl rfl (by omega) (by omega) rfl) (O.q rfl (Pu.load rfl pl3 rfl (Ld.arrK (n := 15) (k := ((blocks[k]'e1).1).toNat) 1 rfl rfl (by omega) (by rfl))) (O.q rfl (Pu.add64 rfl (by omega) rfl rfl rfl) (O.q rfl (Pu.indexArr (((blocks[k]'e1).1).toNat) (0 + ((blocks[k]'e1).1).toNat * 1) rfl ut193 sz3 rfl rfl (by omega) (by omega) rfl) (O.s rfl rfl (Ef.storeArr (n := 15) (xs := (cntA ((blocks.take k).flatMap bl))) 1 (((blocks[k]'e1).1).toNat) rfl sz3 rfl rfl rfl rfl (by omega) (by rfl)) ?_))))))
  rintro _ _ rfl
  refine O.map (fun w hw => hw.sub (Sub.k (Sub.cons 0 rfl (fun w F h => by rw [cntA_set ((blocks.take k).flatMap bl) (by omega) (by omega)] at h; exact h) (Sub.nil _)))) ?_
  have hdl := dist_le ((blocks.take k).flatMap bl)
  refine Zb (O.m rfl (O.q rfl (Pu.indexArr (((blocks[k]'e1).1).toNat) (0 + ((blocks[k]'e1).1).toNat * 1) rfl ut193 sz3 rfl rfl (by omega) (by omega) rfl) (O.q rfl (Pu.load rfl pl3 rfl (Ld.arrK (n := 15) (k := ((blocks[k]'e1).1).toNat) 1 rfl rfl (by omega) (by rfl))) (O.q rfl (Pu.eql rfl rfl rfl) (Zf (V.cut2 [(4, .int .i64 ((dist (((blocks.take k).flatMap bl) ++ [(blocks[k]'e1).1]) : Nat) : Int))] (Ent.cons (t := 3) rfl (Ent.cons (t := 9) rfl (Ent.cons (t := 10) rfl (Ent.cons (t := 11) rfl (Ent.cons (t := 15) rfl (Ent.cons (t := 16) rfl (Ent.nil _))))))) (Sub.s [0,0] rfl) ?_ ?_))))))
  ·refine V.condD rfl (fun c2 => ?_) (fun c2 => ?_)
   ·exact Vr (O.m rfl (O.q rfl (Pu.add64 (r := (((dist ((blocks.take k).flatMap bl)) + 1 : Nat) : Int)) rfl (by omega) rfl rfl rfl) (O.m rfl (On (X.cut (Ent.cons' rfl (iv (by rw [dist_snoc ((blocks.take k).flatMap bl) (by omega) (by omega), if_pos ((cnt_one ((blocks.take k).flatMap bl) (by omega) (by omega)).1 c2)])) (Ent.nil _)) (Ent.cons (t := 3) rfl (Ent.cons (t := 9) rfl (Ent.cons (t := 10) rfl (Ent.cons (t := 11) rfl (Ent.cons (t := 15) rfl (Ent.cons (t := 16) rfl (Ent.nil _))))))) (Sub.s [0,0] rfl))))))
   ·exact Vk (X.cut (Ent.cons' rfl (iv (by rw [dist_snoc ((blocks.take k).flatMap bl) (by omega) (by omega), if_neg (fun h => c2 ((cnt_one ((blocks.take k).flatMap bl) (by omega) (by omega)).2 h)), Nat.add_zero])) (Ent.nil _)) (Ent.cons (t := 3) rfl (Ent.cons (t := 9) rfl (Ent.cons (t := 10) rfl (Ent.cons (t := 11) rfl (Ent.cons (t := 15) rfl (Ent.cons (t := 16) rfl (Ent.nil _))))))) (Sub.s [0,0] rfl))
  ·refine Xb (Xn (Vr (O.q rfl (Pu.add64 (r := 1) (by decide) (by decide) rfl rfl rfl) (O.m rfl (On (X.again 2 (Za (O.q rfl (Pu.isT (by decide) (Pu.lss rfl rfl rfl)) (Zf ?_)))))))))
   refine Vs (V.condT rfl (Zh (O.q rfl (Pu.indexAgg 1 rfl ut81 sz2 pl2 rfl rfl (by decide) (by decide) rfl) (O.m rfl (Zf ?_)))))
   refine Vs ?_
   have hbd52 := cnt_bd (ps := (((blocks.take k).flatMap bl) ++ [(blocks[k]'e1).1])) (by simp only [List.length_append, List.length_singleton, hfl]; omega) ((blocks[k]'e1).2.1).toNat
   refine Vr (O.m rfl (O.q rfl (Pu.indexArr (((blocks[k]'e1).2.1).toNat) (0 + ((blocks[k]'e1).2.1).toNat * 1) rfl ut193 sz3 rfl rfl (by omega) (by omega) rfl) (O.q rfl (Pu.load rfl pl3 rfl (Ld.arrK (n := 15) (k := ((blocks[k]'e1).2.1).toNat) 1 rfl rfl (by omega) (by rfl))) (O.q rfl (Pu.add64 rfl (by omega) rfl rfl rfl) (O.q rfl (Pu.indexArr (((blocks[k]'e1).2.1).toNat) (0 + ((blocks[k]'e1).2.1).toNat * 1) rfl ut193 sz3 rfl rfl (by omega) (by omega) rfl) (O.s rfl rfl (Ef.storeArr (n := 15) (xs := (cntA (((blocks.take k).flatMap bl) ++ [(blocks[k]'e1).1]))) 1 (((blocks[k]'e1).2.1).toNat) rfl sz3 rfl rfl rfl rfl (by omega) (by rfl)) ?_))))))
   rintro _ _ rfl
   refine O.map (fun w hw => hw.sub (Sub.k (Sub.cons 0 rfl (fun w F h => by rw [cntA_set (((blocks.take k).flatMap bl) ++ [(blocks[k]'e1).1]) (by omega) (by omega)] at h; exact h) (Sub.nil _)))) ?_
   have hdl := dist_le (((blocks.take k).flatMap bl) ++ [(blocks[k]'e1).1])
   refine Zb (O.m rfl (O.q rfl (Pu.indexArr (((blocks[k]'e1).2.1).toNat) (0 + ((blocks[k]'e1).2.1).toNat * 1) rfl ut193 sz3 rfl rfl (by omega) (by omega) rfl) (O.q rfl (Pu.load rfl pl3 rfl (Ld.arrK (n := 15) (k := ((blocks[k]'e1).2.1).toNat) 1 rfl rfl (by omega) (by rfl))) (O.q rfl (Pu.eql rfl rfl rfl) (Zf (V.cut2 [(4, .int .i64 ((dist ((((blocks.take k).flatMap bl) ++ [(blocks[k]'e1).1]) ++ [(blocks[k]'e1).2.1]) : Nat) : Int))] (Ent.cons (t := 3) rfl (Ent.cons (t := 9) rfl (Ent.cons (t := 10) rfl (Ent.cons (t := 11) rfl (Ent.cons (t := 15) rfl (Ent.cons (t := 16) rfl (Ent.nil _))))))) (Sub.s [0,0] rfl) ?_ ?_))))))
   ·refine V.condD rfl (fun c3 => ?_) (fun c3 => ?_)
    ·exact Vr (O.m rfl (O.q rfl (Pu.add64 (r := (((dist (((blocks.take k).flatMap bl) ++ [(blocks[k]'e1).1])) + 1 : Nat) : Int)) rfl (by omega) rfl rfl rfl) (O.m rfl (On (X.cut (Ent.cons' rfl (iv (by rw [dist_snoc (((blocks.take k).flatMap bl) ++ [(blocks[k]'e1).1]) (by omega) (by omega), if_pos ((cnt_one (((blocks.take k).flatMap bl) ++ [(blocks[k]'e1).1]) (by omega) (by omega)).1 c3)])) (Ent.nil _)) (Ent.cons (t := 3) rfl (Ent.cons (t := 9) rfl (Ent.cons (t := 10) rfl (Ent.cons (t := 11) rfl (Ent.cons (t := 15) rfl (Ent.cons (t := 16) rfl (Ent.nil _))))))) (Sub.s [0,0] rfl))))))
    ·exact Vk (X.cut (Ent.cons' rfl (iv (by rw [dist_snoc (((blocks.take k).flatMap bl) ++ [(blocks[k]'e1).1]) (by omega) (by omega), if_neg (fun h => c3 ((cnt_one (((blocks.take k).flatMap bl) ++ [(blocks[k]'e1).1]) (by omega) (by omega)).2 h)), Nat.add_zero])) (Ent.nil _)) (Ent.cons (t := 3) rfl (Ent.cons (t := 9) rfl (Ent.cons (t := 10) rfl (Ent.cons (t := 11) rfl (Ent.cons (t := 15) rfl (Ent.cons (t := 16) rfl (Ent.nil _))))))) (Sub.s [0,0] rfl))
   ·refine Xb (Xn (Vr (O.q rfl (Pu.add64 (r := 2) (by decide) (by decide) rfl rfl rfl) (O.m rfl (On (X.again 1 (Za (O.q rfl (Pu.isT (by decide) (Pu.lss rfl rfl rfl)) (Zf ?_)))))))))
    refine Vs (V.condT rfl (Zh (O.q rfl (Pu.indexAgg 2 rfl ut81 sz2 pl2 rfl rfl (by decide) (by decide) rfl) (O.m rfl (Zf ?_)))))
    refine Vs ?_
    have hbd78 := cnt_bd (ps := ((((blocks.take k).flatMap bl) ++ [(blocks[k]'e1).1]) ++ [(blocks[k]'e1).2.1])) (by simp only [List.length_append, List.length_singleton, hfl]; omega) ((blocks[k]'e1).2.2).toNat
    refine Vr (O.m rfl (O.q rfl (Pu.indexArr (((blocks[k]'e1).2.2).toNat) (0 + ((blocks[k]'e1).2.2).toNat * 1) rfl ut193 sz3 rfl rfl (by omega) (by omega) rfl) (O.q rfl (Pu.load rfl pl3 rfl (Ld.arrK (n := 15) (k := ((blocks[k]'e1).2.2).toNat) 1 rfl rfl (by omega) (by rfl))) (O.q rfl (Pu.add64 rfl (by omega) rfl rfl rfl) (O.q rfl (Pu.indexArr (((blocks[k]'e1).2.2).toNat) (0 + ((blocks[k]'e1).2.2).toNat * 1) rfl ut193 sz3 rfl rfl (by omega) (by omega) rfl) (O.s rfl rfl (Ef.storeArr (n := 15) (xs := (cntA ((((blocks.take k).flatMap bl) ++ [(blocks[k]'e1).1]) ++ [(blocks[k]'e1).2.1]))) 1 (((blocks[k]'e1).2.2).toNat) rfl sz3 rfl rfl rfl rfl (by omega) (by rfl)) ?_))))))
    rintro _ _ rfl
    refine O.map (fun w hw => hw.sub (Sub.k (Sub.cons 0 rfl (fun w F h => by rw [cntA_set ((((blocks.take k).flatMap bl) ++ [(blocks[k]'e1).1]) ++ [(blocks[k]'e1).2.1]) (by omega) (by omega)] at h; exact h) (Sub.nil _)))) ?_
    have hdl := dist_le ((((blocks.take k).flatMap bl) ++ [(blocks[k]'e1).1]) ++ [(blocks[k]'e1).2.1])
    refine Zb (O.m rfl (O.q rfl (Pu.indexArr (((blocks[k]'e1).2.2).toNat) (0 + ((blocks[k]'e1).2.2).toNat * 1) rfl ut193 sz3 rfl rfl (by omega) (by omega) rfl) (O.q rfl (Pu.load rfl pl3 rfl (Ld.arrK (n := 15) (k := ((blocks[k]'e1).2.2).toNat) 1 rfl rfl (by omega) (by rfl))) (O.q rfl (Pu.eql rfl rfl rfl) (Zf (V.cut2 [(4, .int .i64 ((dist (((((blocks.take k).flatMap bl) ++ [(blocks[k]'e1).1]) ++ [(blocks[k]'e1).2.1]) ++ [(blocks[k]'e1).2.2]) : Nat) : Int))] (Ent.cons (t := 3) rfl (Ent.cons (t := 9) rfl (Ent.cons (t := 10) rfl (Ent.cons (t := 11) rfl (Ent.cons (t := 15) rfl (Ent.cons (t := 16) rfl (Ent.nil _))))))) (Sub.s [0,0] rfl) ?_ ?_))))))
    ·refine V.condD rfl (fun c4 => ?_) (fun c4 => ?_)
     ·exact Vr (O.m rfl (O.q rfl (Pu.add64 (r := (((dist ((((blocks.take k).flatMap bl) ++ [(blocks[k]'e1).1]) ++ [(blocks[k]'e1).2.1])) + 1 : Nat) : Int)) rfl (by omega) rfl rfl rfl) (O.m rfl (On (X.cut (Ent.cons' rfl (iv (by rw [dist_snoc ((((blocks.take k).flatMap bl) ++ [(blocks[k]'e1).1]) ++ [(blocks[k]'e1).2.1]) (by omega) (by omega), if_pos ((cnt_one ((((blocks.take k).flatMap bl) ++ [(blocks[k]'e1).1]) ++ [(blocks[k]'e1).2.1]) (by omega) (by omega)).1 c4)])) (Ent.nil _)) (Ent.cons (t := 3) rfl (Ent.cons (t := 9) rfl (Ent.cons (t := 10) rfl (Ent.cons (t := 11) rfl (Ent.cons (t := 15) rfl (Ent.cons (t := 16) rfl (Ent.nil _))))))) (Sub.s [0,0] rfl))))))
     ·exact Vk (X.cut (Ent.cons' rfl (iv (by rw [dist_snoc ((((blocks.take k).flatMap bl) ++ [(blocks[k]'e1).1]) ++ [(blocks[k]'e1).2.1]) (by omega) (by omega), if_neg (fun h => c4 ((cnt_one ((((blocks.take k).flatMap bl) ++ [(blocks[k]'e1).1]) ++ [(blocks[k]'e1).2.1]) (by omega) (by omega)).2 h)), Nat.add_zero])) (Ent.nil _)) (Ent.cons (t := 3) rfl (Ent.cons (t := 9) rfl (Ent.cons (t := 10) rfl (Ent.cons (t := 11) rfl (Ent.cons (t := 15) rfl (Ent.cons (t := 16) rfl (Ent.nil _))))))) (Sub.s [0,0] rfl))
    ·refine Xb (Xn (Vr (O.q rfl (Pu.add64 (r := 3) (by decide) (by decide) rfl rfl rfl) (O.m rfl (On (X.again 0 (Za (O.q rfl (Pu.isF (by decide) (Pu.lss rfl rfl rfl)) (Zf ?_)))))))))
     exact Vs (V.condF rfl (Ve (Xe (Xe (Xh (Xb (Xn (Vr (O.q rfl (Pu.add64 (r := ((k + 1 : Nat) : Int)) rfl (by omega) rfl rfl rfl) (O.m rfl (On (X.back2 ((dist (((((blocks.take k).flatMap bl) ++ [(blocks[k]'e1).1]) ++ [(blocks[k]'e1).2.1]) ++ [(blocks[k]'e1).2.2])), k + 1, (cntA (((((blocks.take k).flatMap bl) ++ [(blocks[k]'e1).1]) ++ [(blocks[k]'e1).2.1]) ++ [(blocks[k]'e1).2.2]))) (by (try dsimp only); exact ⟨by omega, by rw [flat_snoc _ e1], by rw [flat_snoc _ e1]⟩) (by first | omega | (dsimp only; omega)) (Ent.cons rfl (Ent.cons rfl (Ent.nil _))) (Ent.cons (t := 3) rfl (Ent.cons (t := 9) rfl (Ent.cons (t := 10) rfl (Ent.nil _)))) (Sub.s [1] rfl)))))))))))))
 ·refine Zd (O.m rfl (O.q rfl (Pu.eql rfl rfl rfl) (O.m rfl (O.splitD 34 rfl (fun c5 => ?_) (fun c5 => ?_)))))
  ·refine O.gq rfl (Pu.slicePtr rfl ut193 sz3 rfl) (O.gf rfl (Ef.callP call207 rfl rfl (fun w hw => containsFuncG_ok (fun n => 2 < n) 208 _ (cntA ((blocks.take k).flatMap bl)) _ _ w call208 ((Ld.arr 0 rfl rfl) w hw) (by rw [cntA_len]; omega) (fun k hk w' hb => isPasch1_ok _ w'))) ?_)
   rintro _ _ ⟨rfl, rfl⟩
   exact O.gq rfl (Pu.not rfl rfl) (O.m rfl (O.m rfl (Ze (X.ret1 rfl rfl (fun w hw => St.retP ((by rw [← decide_not]; try exact boolD (by have e : k = blocks.length := (by omega); subst e; simp only [List.take_length] at *; have h := six_iff (flat_pts hg) (by rw [flat_len]; omega); exact ⟨fun h2 => h.1 ⟨by omega, h2⟩, fun h2 => (h.2 h2).2⟩))) hw)))))
  ·exact O.g rfl (O.g rfl (O.g rfl (O.m rfl (O.m rfl (Ze (X.ret1 rfl rfl (fun w hw => St.retP (boolF (by have e : k = blocks.length := (by omega); subst e; simp only [List.take_length] at *; have h := six_iff (flat_pts hg) (by rw [flat_len]; omega); exact fun h2 => c5 (by have := (h.2 h2).1; omega))) hw)))))))
end Go.Proofs.YtgfpljeppfaolaaGreat
