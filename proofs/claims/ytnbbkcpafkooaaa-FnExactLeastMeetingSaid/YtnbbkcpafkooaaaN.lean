/-
  Sets of points.
-/
import Derived.Test.YtnbbkcpafkooaaaG
import Derived.Test.YtnbbkcpafkooaaaI
import Derived.Test.YtnbbkcpafkooaaaVcBits
import Derived.Test.YtnbbkcpafkooaaaPureSet
set_option linter.unusedVariables false
set_option linter.unusedSimpArgs false
namespace Go.Proofs.Ytnbbkcpafkooaaa
open Go Go.RowKit Go.Vc Go.Proofs
set_option maxRecDepth 100000 in
theorem l05Ones_ok (m : Nat) (w : World) (hm : m < 9223372036854775808) : Does Try.prog 39 [.int .i64 (m : Int)] w [] (fun v => [.pur (v = .int .i64 ((ones m : Nat) : Int))]) := by
  refine Does.enter Try.func39 rfl rfl [(0, .int .i64 (m : Int))] rfl ?_
  refine V.seq ?_
  refine V.region ?_
  refine O.p rfl rfl rfl (Pu.assign rfl rfl) ?_
  refine O.nil ?_
  refine X.next ?_
  refine V.seq ?_
  refine V.region ?_
  refine O.p rfl rfl rfl (Pu.assign rfl rfl) ?_
  refine O.nil ?_
  refine X.next ?_
  refine V.seq ?_
  refine V.block ?_
  refine V.loop2 (β := Nat × Nat) (fun x => [(0, .int .i64 (x.1 : Int)), (3, .int .i64 (x.2 : Int))]) _ (fun x => []) (fun x => x.2 + ones x.1 = ones m ∧ x.1 ≤ m) (fun x => x.1) (m, 0) ⟨by simp, by simp⟩ (Ent.cons rfl (Ent.cons rfl (Ent.nil _))) (Ent.cons (t := 2) rfl (Ent.nil _)) (Sub.nil _) ?_
  rintro ⟨q, n⟩ ⟨h1, h2⟩
  dsimp only at h1 h2
  have hle := ones_le m
  refine V.seq ?_
  refine V.seq ?_
  refine V.region ?_
  refine O.p rfl rfl rfl (Pu.move rfl rfl) ?_
  refine O.p rfl rfl rfl (Pu.gtr rfl rfl rfl) ?_
  refine O.nil ?_
  refine X.next ?_
  refine V.condD rfl (fun c1 => ?_) (fun c1 => ?_)
  · skip
    refine V.skip ?_
    refine X.next ?_
    refine V.seq ?_
    refine V.block ?_
    have hst := ones_step (m := q) (by omega)
    refine V.region ?_
    refine O.p rfl rfl rfl (Pu.move rfl rfl) ?_
    refine O.p rfl rfl rfl (Pu.move rfl rfl) ?_
    refine O.p rfl rfl rfl (Pu.rem64 (by omega) (by omega) rfl rfl rfl) ?_
    refine O.p rfl rfl rfl (Pu.add64 rfl (by omega) rfl rfl rfl) ?_
    refine O.p rfl rfl rfl (Pu.assign rfl rfl) ?_
    refine O.nil ?_
    refine X.blockNormal ?_
    refine X.next ?_
    refine V.region ?_
    refine O.p rfl rfl rfl (Pu.move rfl rfl) ?_
    refine O.p rfl rfl rfl (Pu.quo64 (by omega) (by omega) (by omega) rfl rfl rfl) ?_
    refine O.p rfl rfl rfl (Pu.assign rfl rfl) ?_
    refine O.nil ?_
    exact X.back2 (q / 2, n + q % 2) ⟨by simp only []; omega, by simp only []; omega⟩ (by omega) (Ent.cons' rfl (iv (by omega)) (Ent.cons' rfl (iv (by omega)) (Ent.nil _))) (Ent.cons (t := 2) rfl (Ent.nil _)) (Sub.nil _)
  · skip
    refine V.exit ?_
    refine X.thenExit ?_
    refine X.thenExit ?_
    refine X.blockHit ?_
    refine X.next ?_
    refine V.seq ?_
    refine V.region ?_
    refine O.p rfl rfl rfl (Pu.move rfl rfl) ?_
    refine O.p rfl rfl rfl (Pu.assign rfl rfl) ?_
    refine O.nil ?_
    refine X.next ?_
    refine V.ret ?_
    refine X.ret1 rfl rfl ?_
    exact fun w hw => St.retP (iv (by have : q = 0 := (by omega); subst this; rw [ones_zero] at h1; omega)) hw

set_option maxRecDepth 100000 in
theorem onesCount64_ok (m : Nat) (w : World) (hm : m < 32768) : Does Try.prog 101 [.int .u64 (m : Int)] w [] (fun v => [.pur (v = .int .i64 ((ones m : Nat) : Int))]) := by
  refine Does.enter Try.func101 rfl rfl [(0, .int .u64 (m : Int))] rfl ?_
  refine V.seq ?_
  have b1 := st1_le m
  have b2 := st2_le (st1 m)
  have b3 := st3_le (st2 (st1 m))
  have b4 := st4_le (st3 (st2 (st1 m)))
  have b5 := st5_le (st4 (st3 (st2 (st1 m))))
  have b6 := st6_le (st5 (st4 (st3 (st2 (st1 m)))))
  refine V.region ?_
  refine O.p rfl rfl rfl (Pu.assign rfl rfl) ?_
  refine O.nil ?_
  refine X.next ?_
  refine V.seq ?_
  refine V.region ?_
  refine O.p rfl rfl rfl (Pu.move rfl rfl) ?_
  refine O.p rfl rfl rfl (Pu.shr (m := m) (p := 1) K64.u (by omega) rfl rfl rfl) ?_
  refine O.p rfl rfl rfl (Pu.and (m := (m >>> 1)) (n := 6148914691236517205) K64.u (shr_lt (by omega)) (by omega) rfl rfl rfl) ?_
  refine O.p rfl rfl rfl (Pu.move rfl rfl) ?_
  refine O.p rfl rfl rfl (Pu.and (m := m) (n := 6148914691236517205) K64.u (by omega) (by omega) rfl rfl rfl) ?_
  refine O.p rfl rfl rfl (Pu.nat (b := (st1 m)) rfl (Pu.addN (m := ((m >>> 1) &&& 6148914691236517205)) (n := (m &&& 6148914691236517205)) K64.u (and_add_lt (by omega)) rfl rfl rfl)) ?_
  refine O.p rfl rfl rfl (Pu.assign rfl rfl) ?_
  refine O.nil ?_
  refine X.next ?_
  refine V.seq ?_
  refine V.region ?_
  refine O.p rfl rfl rfl (Pu.move rfl rfl) ?_
  refine O.p rfl rfl rfl (Pu.shr (m := (st1 m)) (p := 2) K64.u (by omega) rfl rfl rfl) ?_
  refine O.p rfl rfl rfl (Pu.and (m := ((st1 m) >>> 2)) (n := 3689348814741910323) K64.u (shr_lt (by omega)) (by omega) rfl rfl rfl) ?_
  refine O.p rfl rfl rfl (Pu.move rfl rfl) ?_
  refine O.p rfl rfl rfl (Pu.and (m := (st1 m)) (n := 3689348814741910323) K64.u (by omega) (by omega) rfl rfl rfl) ?_
  refine O.p rfl rfl rfl (Pu.nat (b := (st2 (st1 m))) rfl (Pu.addN (m := (((st1 m) >>> 2) &&& 3689348814741910323)) (n := ((st1 m) &&& 3689348814741910323)) K64.u (and_add_lt (by omega)) rfl rfl rfl)) ?_
  refine O.p rfl rfl rfl (Pu.assign rfl rfl) ?_
  refine O.nil ?_
  refine X.next ?_
  refine V.seq ?_
  refine V.region ?_
  refine O.p rfl rfl rfl (Pu.move rfl rfl) ?_
  refine O.p rfl rfl rfl (Pu.shr (m := (st2 (st1 m))) (p := 4) K64.u (by omega) rfl rfl rfl) ?_
  refine O.p rfl rfl rfl (Pu.move rfl rfl) ?_
  refine O.p rfl rfl rfl (Pu.addN (m := ((st2 (st1 m)) >>> 4)) (n := (st2 (st1 m))) K64.u (shr_add_lt (by omega)) rfl rfl rfl) ?_
  refine O.p rfl rfl rfl (Pu.nat (b := (st3 (st2 (st1 m)))) rfl (Pu.and (m := (((st2 (st1 m)) >>> 4) + (st2 (st1 m)))) (n := 1085102592571150095) K64.u (by omega) (by omega) rfl rfl rfl)) ?_
  refine O.p rfl rfl rfl (Pu.assign rfl rfl) ?_
  refine O.nil ?_
  refine X.next ?_
  refine V.seq ?_
  refine V.region ?_
  refine O.p rfl rfl rfl (Pu.move rfl rfl) ?_
  refine O.p rfl rfl rfl (Pu.move rfl rfl) ?_
  refine O.p rfl rfl rfl (Pu.shr (m := (st3 (st2 (st1 m)))) (p := 8) K64.u (by omega) rfl rfl rfl) ?_
  refine O.p rfl rfl rfl (Pu.nat (b := (st4 (st3 (st2 (st1 m))))) rfl (Pu.addN (m := (st3 (st2 (st1 m)))) (n := ((st3 (st2 (st1 m))) >>> 8)) K64.u (add_shr_lt (by omega)) rfl rfl rfl)) ?_
  refine O.p rfl rfl rfl (Pu.assign rfl rfl) ?_
  refine O.nil ?_
  refine X.next ?_
  refine V.seq ?_
  refine V.region ?_
  refine O.p rfl rfl rfl (Pu.move rfl rfl) ?_
  refine O.p rfl rfl rfl (Pu.move rfl rfl) ?_
  refine O.p rfl rfl rfl (Pu.shr (m := (st4 (st3 (st2 (st1 m))))) (p := 16) K64.u (by omega) rfl rfl rfl) ?_
  refine O.p rfl rfl rfl (Pu.nat (b := (st5 (st4 (st3 (st2 (st1 m)))))) rfl (Pu.addN (m := (st4 (st3 (st2 (st1 m))))) (n := ((st4 (st3 (st2 (st1 m)))) >>> 16)) K64.u (add_shr_lt (by omega)) rfl rfl rfl)) ?_
  refine O.p rfl rfl rfl (Pu.assign rfl rfl) ?_
  refine O.nil ?_
  refine X.next ?_
  refine V.seq ?_
  refine V.region ?_
  refine O.p rfl rfl rfl (Pu.move rfl rfl) ?_
  refine O.p rfl rfl rfl (Pu.move rfl rfl) ?_
  refine O.p rfl rfl rfl (Pu.shr (m := (st5 (st4 (st3 (st2 (st1 m)))))) (p := 32) K64.u (by omega) rfl rfl rfl) ?_
  refine O.p rfl rfl rfl (Pu.nat (b := (st6 (st5 (st4 (st3 (st2 (st1 m))))))) rfl (Pu.addN (m := (st5 (st4 (st3 (st2 (st1 m)))))) (n := ((st5 (st4 (st3 (st2 (st1 m))))) >>> 32)) K64.u (add_shr_lt (by omega)) rfl rfl rfl)) ?_
  refine O.p rfl rfl rfl (Pu.assign rfl rfl) ?_
  refine O.nil ?_
  refine X.next ?_
  refine V.seq ?_
  refine V.region ?_
  refine O.p rfl rfl rfl (Pu.move rfl rfl) ?_
  refine O.p rfl rfl rfl (Pu.conv64 ⟨_, Try.underlying75⟩ Try.underlying3 (by omega) rfl rfl) ?_
  refine O.p rfl rfl rfl (Pu.and (m := (st6 (st5 (st4 (st3 (st2 (st1 m))))))) (n := 127) K64.i (by omega) (by omega) rfl rfl rfl) ?_
  refine O.p rfl rfl rfl (Pu.assign rfl rfl) ?_
  refine O.nil ?_
  refine X.next ?_
  refine V.ret ?_
  refine X.ret1 rfl rfl ?_
  exact fun w hw => St.retP (iv (by rw [← c64_ones hm]; rfl)) hw

set_option maxRecDepth 100000 in
theorem onesCount_ok (m : Nat) (w : World) (hm : m < 32768) : Does Try.prog 89 [.int .u64 (m : Int)] w [] (fun v => [.pur (v = .int .i64 ((ones m : Nat) : Int))]) := by
  refine Does.enter Try.func89 rfl rfl [(0, .int .u64 (m : Int))] rfl ?_
  refine V.seq ?_
  refine V.region ?_
  refine O.p rfl rfl rfl (Pu.assign rfl rfl) ?_
  refine O.nil ?_
  refine X.next ?_
  refine V.seq ?_
  refine V.condF rfl ?_
  refine V.skip ?_
  refine X.next ?_
  refine V.seq ?_
  refine V.region ?_
  refine O.p rfl rfl rfl (Pu.move rfl rfl) ?_
  refine O.e rfl rfl rfl (Ef.callP call101 rfl rfl (fun w hw => onesCount64_ok m w (by omega))) ?_
  rintro _ _ ⟨rfl, rfl⟩
  refine O.p rfl rfl rfl (Pu.assign rfl rfl) ?_
  refine O.nil ?_
  refine X.next ?_
  refine V.ret ?_
  refine X.ret1 rfl rfl ?_
  exact fun w hw => St.retP (rfl) hw

set_option maxRecDepth 100000 in
theorem size_ok (m : Nat) (w : World) (hm : m < 32768) : Does Try.prog 63 [.int .u64 (m : Int)] w [] (fun v => [.pur (v = .int .i64 ((ones m : Nat) : Int))]) := by
  refine Does.enter Try.func63 rfl rfl [(0, .int .u64 (m : Int))] rfl ?_
  refine V.seq ?_
  refine V.region ?_
  refine O.p rfl rfl rfl (Pu.assign rfl rfl) ?_
  refine O.nil ?_
  refine X.next ?_
  refine V.seq ?_
  refine V.region ?_
  refine O.p rfl rfl rfl (Pu.move rfl rfl) ?_
  refine O.e rfl rfl rfl (Ef.callP call89 rfl rfl (fun w hw => onesCount_ok m w (by omega))) ?_
  rintro _ _ ⟨rfl, rfl⟩
  refine O.p rfl rfl rfl (Pu.assign rfl rfl) ?_
  refine O.nil ?_
  refine X.next ?_
  refine V.ret ?_
  refine X.ret1 rfl rfl ?_
  exact fun w hw => St.retP (rfl) hw

set_option maxRecDepth 100000 in
theorem setHas_ok (m p : Nat) (w : World) (hm : m < 32768) (hp : p ≤ 62) : Does Try.prog 90 [.int .u64 (m : Int), .int .i64 (p : Int)] w [] (fun v => [.pur (v = .bool (decide (m.testBit p = true)))]) := by
  refine Does.enter Try.func90 rfl rfl [(0, .int .u64 (m : Int)), (1, .int .i64 (p : Int))] rfl ?_
  refine V.seq ?_
  refine V.region ?_
  refine O.p rfl rfl rfl (Pu.assign rfl rfl) ?_
  refine O.nil ?_
  refine X.next ?_
  refine V.seq ?_
  refine V.region ?_
  refine O.p rfl rfl rfl (Pu.move rfl rfl) ?_
  refine O.p rfl rfl rfl (Pu.move rfl rfl) ?_
  refine O.p rfl rfl rfl (Pu.shr (m := m) (p := p) K64.u (by omega) rfl rfl rfl) ?_
  refine O.p rfl rfl rfl (Pu.and (m := (m >>> p)) (n := 1) K64.u (shr_lt (by omega)) (by omega) rfl rfl rfl) ?_
  refine O.p rfl rfl rfl (Pu.eql rfl rfl rfl) ?_
  refine O.p rfl rfl rfl (Pu.assign rfl rfl) ?_
  refine O.nil ?_
  refine X.next ?_
  refine V.ret ?_
  refine X.ret1 rfl rfl ?_
  exact fun w hw => St.retP (boolD (by rw [← bit_is]; omega)) hw

set_option maxRecDepth 100000 in
theorem list_ok (m : Nat) (w : World) (hm : m < 32768) : Does Try.prog 64 [.int .u64 (m : Int)] w [] (fun v => [.exi fun p : (Option Addr × Nat) × List Int => .sep (.pur (v = .slice p.1.1 p.2.length p.1.2 ∧ p.2 = pts m)) (Own 2 I64 p.1.1 p.1.2 p.2)]) := by
  refine Does.enter Try.func64 rfl rfl [(0, .int .u64 (m : Int))] rfl ?_
  refine V.seq ?_
  refine V.region ?_
  refine O.p rfl rfl rfl (Pu.assign rfl rfl) ?_
  refine O.nil ?_
  refine X.next ?_
  refine V.seq ?_
  refine V.region ?_
  refine O.p rfl rfl rfl (Pu.assign rfl rfl) ?_
  refine O.nil ?_
  refine X.next ?_
  refine V.seq ?_
  refine V.seq ?_
  refine V.region ?_
  refine O.p rfl rfl rfl (Pu.move rfl rfl) ?_
  refine O.nil ?_
  refine X.next ?_
  refine V.block ?_
  refine V.map (fun w hw => St.addNil (T := 2) (C := I64) hw) ?_
  refine V.loop2 (β := Nat × Option Addr × Nat) (fun x => [(5, .int .i64 (x.1 : Int)), (3, .slice x.2.1 (ptsAt m x.1).length x.2.2)]) _ (fun x => [Own 2 I64 x.2.1 x.2.2 (ptsAt m x.1)]) (fun x => x.1 ≤ 15) (fun x => 15 - x.1) (0, none, 0) (by decide) (Ent.cons rfl (Ent.cons rfl (Ent.nil _))) (Ent.cons (t := 0) rfl (Ent.cons (t := 2) rfl (Ent.nil _))) (Sub.keep 0 rfl (Sub.nil _)) ?_
  rintro ⟨k, Ao, co⟩ hk
  dsimp only at hk
  have hln := ptsAt_len m k
  have hcl := cov_le m k
  refine V.seq ?_
  refine V.region ?_
  refine O.p rfl rfl rfl (Pu.lss rfl rfl rfl) ?_
  refine O.nil ?_
  refine X.next ?_
  refine V.seq ?_
  refine V.condD rfl (fun c1 => ?_) (fun c1 => ?_)
  · skip
    refine V.skip ?_
    refine X.next ?_
    refine V.seq ?_
    refine V.block ?_
    refine V.seq ?_
    refine V.region ?_
    refine O.p rfl rfl rfl (Pu.move rfl rfl) ?_
    refine O.p rfl rfl rfl (Pu.assign rfl rfl) ?_
    refine O.nil ?_
    refine X.next ?_
    refine V.seq ?_
    refine V.region ?_
    refine O.p rfl rfl rfl (Pu.move rfl rfl) ?_
    refine O.p rfl rfl rfl (Pu.move rfl rfl) ?_
    refine O.e rfl rfl rfl (Ef.callP call90 rfl rfl (fun w hw => setHas_ok m k w (by omega) (by omega))) ?_
    rintro _ _ ⟨rfl, rfl⟩
    refine O.nil ?_
    refine X.next ?_
    refine V.condD rfl (fun c2 => ?_) (fun c2 => ?_)
    · skip
      refine V.region ?_
      refine O.p rfl rfl rfl (Pu.move rfl rfl) ?_
      refine O.p rfl rfl rfl (Pu.move rfl rfl) ?_
      refine O.e rfl rfl rfl (Ef.build I64 ([(↑k : Int)] : List Int) rfl Try.underlying47 inf2 rfl rfl rfl (by decide) (by kernel_rfl)) ?_
      rintro _ _ ⟨A1, hA1, rfl, rfl⟩
      refine O.e rfl rfl rfl (Ef.append (xs := (ptsAt m k)) (ys := ([(↑k : Int)] : List Int)) 1 rfl Try.underlying47 inf2 rfl rfl rfl rfl rfl rfl hA1 (Ld.own 0 (by exact rfl)) (by simp only [List.length_append, List.length_cons, List.length_nil] at *; omega) (by decide)) ?_
      rintro _ _ ⟨A2, k1, rfl, rfl, hA2⟩
      replace hA2 := hA2 (.inr (by simp))
      refine O.p rfl rfl rfl (Pu.assign rfl rfl) ?_
      refine O.nil ?_
      refine X.blockNormal ?_
      refine X.next ?_
      refine V.region ?_
      refine O.p rfl rfl rfl (Pu.add64 (r := ((k + 1 : Nat) : Int)) rfl (by omega) rfl rfl rfl) ?_
      refine O.p rfl rfl rfl (Pu.move rfl rfl) ?_
      refine O.nil ?_
      exact X.back2 (k + 1, A2, k1) (by simp only []; omega) (by omega) (Ent.cons rfl (Ent.cons' rfl (by rw [show ptsAt m (k + 1) = ptsAt m k ++ [(k : Int)] by simp only [ptsAt]; rw [if_pos c2]]) (Ent.nil _))) (Ent.cons (t := 0) rfl (Ent.cons (t := 2) rfl (Ent.nil _))) (Sub.cons 1 rfl (fun w F h => by rw [show ptsAt m (k + 1) = ptsAt m k ++ [(k : Int)] by simp only [ptsAt]; rw [if_pos c2]]; exact h) (Sub.nil _))
    · skip
      refine V.skip ?_
      refine X.blockNormal ?_
      refine X.next ?_
      refine V.region ?_
      refine O.p rfl rfl rfl (Pu.add64 (r := ((k + 1 : Nat) : Int)) rfl (by omega) rfl rfl rfl) ?_
      refine O.p rfl rfl rfl (Pu.move rfl rfl) ?_
      refine O.nil ?_
      exact X.back2 (k + 1, Ao, co) (by simp only []; omega) (by omega) (Ent.cons rfl (Ent.cons' rfl (by rw [show ptsAt m (k + 1) = ptsAt m k by simp only [ptsAt]; rw [if_neg c2]]) (Ent.nil _))) (Ent.cons (t := 0) rfl (Ent.cons (t := 2) rfl (Ent.nil _))) (Sub.cons 0 rfl (fun w F h => by rw [show ptsAt m (k + 1) = ptsAt m k by simp only [ptsAt]; rw [if_neg c2]]; exact h) (Sub.nil _))
  · skip
    refine V.exit ?_
    refine X.thenExit ?_
    refine X.thenExit ?_
    refine X.blockHit ?_
    refine X.next ?_
    refine V.seq ?_
    refine V.region ?_
    refine O.p rfl rfl rfl (Pu.move rfl rfl) ?_
    refine O.p rfl rfl rfl (Pu.assign rfl rfl) ?_
    refine O.nil ?_
    refine X.next ?_
    refine V.ret ?_
    refine X.ret1 rfl rfl ?_
    exact fun w hw => St.retX ((Ao, co), ptsAt m k) ⟨rfl, by have e : k = 15 := (by omega); subst e; rfl⟩ hw

set_option maxRecDepth 100000 in
theorem l07Points_ok (m : Nat) (w : World) (hm : m < 32768) : Does Try.prog 41 [.int .i64 (m : Int)] w [] (fun v => [.exi fun p : (Option Addr × Nat) × List Int => .sep (.pur (v = .slice p.1.1 p.2.length p.1.2 ∧ p.2 = pts m)) (Own 2 I64 p.1.1 p.1.2 p.2)]) := by
  refine Does.enter Try.func41 rfl rfl [(0, .int .i64 (m : Int))] rfl ?_
  refine V.seq ?_
  refine V.region ?_
  refine O.p rfl rfl rfl (Pu.assign rfl rfl) ?_
  refine O.nil ?_
  refine X.next ?_
  refine V.seq ?_
  refine V.region ?_
  refine O.e rfl rfl rfl (Ef.build I64 ([] : List Int) rfl Try.underlying47 inf2 rfl rfl rfl (by decide) (by kernel_rfl)) ?_
  rintro _ _ ⟨A1, hA1, rfl, rfl⟩
  refine O.p rfl rfl rfl (Pu.assign rfl rfl) ?_
  refine O.nil ?_
  refine X.next ?_
  refine V.seq ?_
  refine V.seq ?_
  refine V.region ?_
  refine O.p rfl rfl rfl (Pu.assign rfl rfl) ?_
  refine O.nil ?_
  refine X.next ?_
  refine V.block ?_
  refine V.loop2 (β := Nat × Option Addr × Nat) (fun x => [(4, .int .i64 (x.1 : Int)), (3, .slice x.2.1 (ptsAt m x.1).length x.2.2)]) _ (fun x => [Own 2 I64 x.2.1 x.2.2 (ptsAt m x.1)]) (fun x => x.1 ≤ 15) (fun x => 15 - x.1) (0, A1, 0) (by simp) (Ent.cons rfl (Ent.cons rfl (Ent.nil _))) (Ent.cons (t := 0) rfl (Ent.cons (t := 2) rfl (Ent.nil _))) (Sub.keep 0 rfl (Sub.nil _)) ?_
  rintro ⟨k, Ao, co⟩ hk
  dsimp only at hk
  have hln := ptsAt_len m k
  have hcl := cov_le m k
  refine V.seq ?_
  refine V.seq ?_
  refine V.region ?_
  refine O.p rfl rfl rfl (Pu.move rfl rfl) ?_
  refine O.p rfl rfl rfl (Pu.lss rfl rfl rfl) ?_
  refine O.nil ?_
  refine X.next ?_
  refine V.condD rfl (fun c1 => ?_) (fun c1 => ?_)
  · skip
    refine V.skip ?_
    refine X.next ?_
    refine V.seq ?_
    refine V.block ?_
    refine V.seq ?_
    refine V.region ?_
    refine O.p rfl rfl rfl (Pu.move rfl rfl) ?_
    refine O.p rfl rfl rfl (Pu.move rfl rfl) ?_
    refine O.p rfl rfl rfl (Pu.convU' k (by omega) ⟨_, Try.underlying2⟩ Try.underlying75 (by omega) rfl rfl) ?_
    refine O.p rfl rfl rfl (Pu.shr (m := m) (p := k) K64.i (by omega) rfl rfl rfl) ?_
    refine O.p rfl rfl rfl (Pu.and (m := (m >>> k)) (n := 1) K64.i (shr_lt (by omega)) (by omega) rfl rfl rfl) ?_
    refine O.p rfl rfl rfl (Pu.eql rfl rfl rfl) ?_
    refine O.nil ?_
    refine X.next ?_
    refine V.condD rfl (fun c2 => ?_) (fun c2 => ?_)
    · skip
      refine V.region ?_
      refine O.p rfl rfl rfl (Pu.move rfl rfl) ?_
      refine O.p rfl rfl rfl (Pu.move rfl rfl) ?_
      refine O.e rfl rfl rfl (Ef.build I64 ([(↑k : Int)] : List Int) rfl Try.underlying47 inf2 rfl rfl rfl (by decide) (by kernel_rfl)) ?_
      rintro _ _ ⟨A2, hA2, rfl, rfl⟩
      refine O.e rfl rfl rfl (Ef.append (xs := (ptsAt m k)) (ys := ([(↑k : Int)] : List Int)) 1 rfl Try.underlying47 inf2 rfl rfl rfl rfl rfl rfl hA2 (Ld.own 0 (by exact rfl)) (by simp only [List.length_append, List.length_cons, List.length_nil] at *; omega) (by decide)) ?_
      rintro _ _ ⟨A3, k1, rfl, rfl, hA3⟩
      replace hA3 := hA3 (.inr (by simp))
      refine O.p rfl rfl rfl (Pu.assign rfl rfl) ?_
      refine O.nil ?_
      refine X.blockNormal ?_
      refine X.next ?_
      refine V.region ?_
      refine O.p rfl rfl rfl (Pu.move rfl rfl) ?_
      refine O.p rfl rfl rfl (Pu.add64 (r := ((k + 1 : Nat) : Int)) rfl (by omega) rfl rfl rfl) ?_
      refine O.p rfl rfl rfl (Pu.assign rfl rfl) ?_
      refine O.nil ?_
      have ht : ptsAt m (k + 1) = ptsAt m k ++ [(k : Int)] := by simp only [ptsAt]; rw [if_pos ((bit_is m k).1 (by omega))]
      exact X.back2 (k + 1, A3, k1) (by simp only []; omega) (by omega) (Ent.cons rfl (Ent.cons' rfl (by rw [ht]) (Ent.nil _))) (Ent.cons (t := 0) rfl (Ent.cons (t := 2) rfl (Ent.nil _))) (Sub.cons 1 rfl (fun w F h => by rw [ht]; exact h) (Sub.nil _))
    · skip
      refine V.skip ?_
      refine X.blockNormal ?_
      refine X.next ?_
      refine V.region ?_
      refine O.p rfl rfl rfl (Pu.move rfl rfl) ?_
      refine O.p rfl rfl rfl (Pu.add64 (r := ((k + 1 : Nat) : Int)) rfl (by omega) rfl rfl rfl) ?_
      refine O.p rfl rfl rfl (Pu.assign rfl rfl) ?_
      refine O.nil ?_
      have ht : ptsAt m (k + 1) = ptsAt m k := by simp only [ptsAt]; rw [if_neg (fun h => c2 (by have := (bit_is m k).2 h; omega))]
      exact X.back2 (k + 1, Ao, co) (by simp only []; omega) (by omega) (Ent.cons rfl (Ent.cons' rfl (by rw [ht]) (Ent.nil _))) (Ent.cons (t := 0) rfl (Ent.cons (t := 2) rfl (Ent.nil _))) (Sub.cons 0 rfl (fun w F h => by rw [ht]; exact h) (Sub.nil _))
  · skip
    refine V.exit ?_
    refine X.thenExit ?_
    refine X.thenExit ?_
    refine X.blockHit ?_
    refine X.next ?_
    refine V.seq ?_
    refine V.region ?_
    refine O.p rfl rfl rfl (Pu.move rfl rfl) ?_
    refine O.p rfl rfl rfl (Pu.assign rfl rfl) ?_
    refine O.nil ?_
    refine X.next ?_
    refine V.ret ?_
    refine X.ret1 rfl rfl ?_
    exact fun w hw => St.retX ((Ao, co), ptsAt m k) ⟨rfl, by have e : k = 15 := (by omega); subst e; rfl⟩ hw

set_option maxRecDepth 100000 in
theorem l07Inside_ok (v : Int) (bs : List B3) (s : Nat) (A : Option Addr) (c : Nat) (w : World) (hx : Rd B3C w A bs) (hg : ∀ b ∈ bs, good 15 b) (hs : s < 32768) (hfew : bs.length ≤ 35) : Does Try.prog 88 [.agg #[.int .i64 v, .slice A bs.length c], .int .i64 (s : Int)] w [] (fun r => [.pur (r = .int .i64 ((inside bs s bs.length : Nat) : Int))]) := by
  refine Does.enter Try.func88 rfl rfl [(0, .agg #[.int .i64 v, .slice A bs.length c]), (1, .int .i64 (s : Int))] rfl ?_
  refine V.seq ?_
  refine V.region ?_
  refine O.e rfl rfl rfl (Ef.box rfl rfl rfl) ?_
  rintro _ _ ⟨b1, rfl, rfl⟩
  refine O.p rfl rfl rfl (Pu.assign rfl rfl) ?_
  refine O.nil ?_
  refine X.next ?_
  refine V.seq ?_
  refine V.region ?_
  refine O.p rfl rfl rfl (Pu.assign rfl rfl) ?_
  refine O.nil ?_
  refine X.next ?_
  refine V.seq ?_
  refine V.seq ?_
  refine V.region ?_
  refine O.p rfl rfl rfl (Pu.assign rfl rfl) ?_
  refine O.nil ?_
  refine X.next ?_
  refine V.block ?_
  refine V.loop3 (β := Nat) (fun k => [(6, .int .i64 (k : Int)), (5, .int .i64 ((inside bs s k : Nat) : Int))]) _ (fun k => []) _ (fun k => k ≤ bs.length) (fun k => bs.length - k) 0 (by omega) (Ent.cons rfl (Ent.cons rfl (Ent.nil _))) (Ent.cons (t := 1) rfl (Ent.cons (t := 2) rfl (Ent.cons (t := 4) rfl (Ent.nil _)))) (Sub.keep 0 rfl (Sub.nil _)) ?_
  rintro k hk
  refine V.seq ?_
  refine V.seq ?_
  refine V.region ?_
  refine O.p rfl rfl rfl (Pu.move rfl rfl) ?_
  refine O.p rfl rfl rfl (Pu.fieldAddr 1 rfl Try.underlying31 rfl sz29 rfl rfl) ?_
  refine O.p rfl rfl rfl (Pu.load rfl pl29 rfl (Ld.blk 0 rfl rfl)) ?_
  refine O.p rfl rfl rfl (Pu.len rfl Try.underlying29 rfl) ?_
  refine O.p rfl rfl rfl (Pu.lss rfl rfl rfl) ?_
  refine O.nil ?_
  refine X.next ?_
  refine V.condD rfl (fun c1 => ?_) (fun c1 => ?_)
  · skip
    refine V.skip ?_
    refine X.next ?_
    refine V.seq ?_
    refine V.block ?_
    refine V.seq ?_
    have hil := @inside_le bs s k
    have his := inside_succ (s := s) (show k < bs.length by omega)
    refine V.region ?_
    refine O.p rfl rfl rfl (Pu.fieldAddr 1 rfl Try.underlying31 rfl sz29 rfl rfl) ?_
    refine O.p rfl rfl rfl (Pu.load rfl pl29 rfl (Ld.blk 0 rfl rfl)) ?_
    refine O.p rfl rfl rfl (Pu.move rfl rfl) ?_
    refine O.p rfl rfl rfl (Pu.indexAddr (k) rfl Try.underlying29 sz66 rfl rfl (by omega) (by omega) (hx.some (by omega))) ?_
    have e1 : k < bs.length := by omega
    refine O.p rfl rfl rfl (Pu.loadAgg' (v := B3.v (bs[k]'e1)) rfl rfl ag66 sz66 rfl rfl (Ld.rds (Ld.old hx) (k := k) e1 rfl)) ?_
    refine O.e rfl rfl rfl (Ef.callP call82 rfl rfl (fun w hw => l05Bits_ok (bs[k]'e1) w (hg _ (List.getElem_mem _)))) ?_
    rintro _ _ ⟨rfl, rfl⟩
    have hbm := bmask_lt (hg _ (List.getElem_mem e1))
    refine O.p rfl rfl rfl (Pu.assign rfl rfl) ?_
    refine O.nil ?_
    refine X.next ?_
    refine V.seq ?_
    refine V.region ?_
    refine O.p rfl rfl rfl (Pu.move rfl rfl) ?_
    refine O.p rfl rfl rfl (Pu.move rfl rfl) ?_
    refine O.p rfl rfl rfl (Pu.and (m := (bmask (bs[k]'e1))) (n := s) K64.i (by omega) (by omega) rfl rfl rfl) ?_
    refine O.p rfl rfl rfl (Pu.move rfl rfl) ?_
    refine O.p rfl rfl rfl (Pu.eql rfl rfl rfl) ?_
    refine O.nil ?_
    refine X.next ?_
    refine V.condD rfl (fun c2 => ?_) (fun c2 => ?_)
    · skip
      refine V.region ?_
      refine O.p rfl rfl rfl (Pu.move rfl rfl) ?_
      refine O.p rfl rfl rfl (Pu.add64 (r := (((inside bs s k) + 1 : Nat) : Int)) rfl (by omega) rfl rfl rfl) ?_
      refine O.p rfl rfl rfl (Pu.assign rfl rfl) ?_
      refine O.nil ?_
      refine X.blockNormal ?_
      refine X.next ?_
      refine V.region ?_
      refine O.p rfl rfl rfl (Pu.move rfl rfl) ?_
      refine O.p rfl rfl rfl (Pu.add64 (r := ((k + 1 : Nat) : Int)) rfl (by omega) rfl rfl rfl) ?_
      refine O.p rfl rfl rfl (Pu.assign rfl rfl) ?_
      refine O.nil ?_
      exact X.back3 (k + 1) (by omega) (by omega) (Ent.cons rfl (Ent.cons' rfl (iv (by rw [his, if_pos (by omega)])) (Ent.nil _))) (Ent.cons (t := 1) rfl (Ent.cons (t := 2) rfl (Ent.cons (t := 4) rfl (Ent.nil _)))) (Sub.keep 0 rfl (Sub.nil _))
    · skip
      refine V.skip ?_
      refine X.blockNormal ?_
      refine X.next ?_
      refine V.region ?_
      refine O.p rfl rfl rfl (Pu.move rfl rfl) ?_
      refine O.p rfl rfl rfl (Pu.add64 (r := ((k + 1 : Nat) : Int)) rfl (by omega) rfl rfl rfl) ?_
      refine O.p rfl rfl rfl (Pu.assign rfl rfl) ?_
      refine O.nil ?_
      exact X.back3 (k + 1) (by omega) (by omega) (Ent.cons rfl (Ent.cons' rfl (iv (by rw [his, if_neg (by omega)]; rfl)) (Ent.nil _))) (Ent.cons (t := 1) rfl (Ent.cons (t := 2) rfl (Ent.cons (t := 4) rfl (Ent.nil _)))) (Sub.keep 0 rfl (Sub.nil _))
  · skip
    refine V.exit ?_
    refine X.thenExit ?_
    refine X.thenExit ?_
    refine X.blockHit ?_
    refine X.next ?_
    refine V.seq ?_
    refine V.region ?_
    refine O.p rfl rfl rfl (Pu.move rfl rfl) ?_
    refine O.p rfl rfl rfl (Pu.assign rfl rfl) ?_
    refine O.nil ?_
    refine X.next ?_
    refine V.ret ?_
    refine X.ret1 rfl rfl ?_
    exact fun w hw => St.retP (iv (by have e : k = bs.length := (by omega); subst e; rfl)) hw

noncomputable instance (bs : List B3) (s : Nat) : Decidable (Indep bs s) := Classical.propDecidable _

set_option maxRecDepth 100000 in
theorem l07Independent_ok (v : Int) (bs : List B3) (s : Nat) (A : Option Addr) (c : Nat) (w : World) (hx : Rd B3C w A bs) (hg : ∀ b ∈ bs, good 15 b) (hs : s < 32768) (hfew : bs.length ≤ 35) : Does Try.prog 61 [.agg #[.int .i64 v, .slice A bs.length c], .int .i64 (s : Int)] w [] (fun r => [.pur (r = .bool (decide (Indep bs s)))]) := by
  refine Does.enter Try.func61 rfl rfl [(0, .agg #[.int .i64 v, .slice A bs.length c]), (1, .int .i64 (s : Int))] rfl ?_
  refine V.seq ?_
  refine V.region ?_
  refine O.e rfl rfl rfl (Ef.box rfl rfl rfl) ?_
  rintro _ _ ⟨b1, rfl, rfl⟩
  refine O.p rfl rfl rfl (Pu.assign rfl rfl) ?_
  refine O.nil ?_
  refine X.next ?_
  refine V.seq ?_
  refine V.region ?_
  refine O.p rfl rfl rfl (Pu.loadAgg rfl ag31 sz31 rfl rfl (Ld.whole 0 rfl)) ?_
  refine O.p rfl rfl rfl (Pu.move rfl rfl) ?_
  refine O.e rfl rfl rfl (Ef.callP call88 rfl rfl (fun w hw => l07Inside_ok _ bs s _ _ w ((Ld.old hx) w hw) hg (by omega) hfew)) ?_
  rintro _ _ ⟨rfl, rfl⟩
  refine O.p rfl rfl rfl (Pu.eql rfl rfl rfl) ?_
  refine O.p rfl rfl rfl (Pu.assign rfl rfl) ?_
  refine O.nil ?_
  refine X.next ?_
  refine V.ret ?_
  refine X.ret1 rfl rfl ?_
  exact fun w hw => St.retP (boolD (by rw [← inside_none]; omega)) hw

set_option maxRecDepth 100000 in
theorem setOf_ok (xs : List Int) (A : Option Addr) (c : Nat) (w : World) (hx : Rd I64 w A xs) (lx : xs.length ≤ 1099511627776) (hp : ∀ p ∈ xs, 0 ≤ p ∧ p < 15) : Does Try.prog 93 [.slice A xs.length c] w [] (fun v => [.pur (v = .int .u64 ((maskL xs : Nat) : Int))]) := by
  refine Does.enter Try.func93 rfl rfl [(0, .slice A xs.length c)] rfl ?_
  refine V.seq ?_
  refine V.region ?_
  refine O.p rfl rfl rfl (Pu.assign rfl rfl) ?_
  refine O.nil ?_
  refine X.next ?_
  refine V.seq ?_
  refine V.region ?_
  refine O.p rfl rfl rfl (Pu.assign rfl rfl) ?_
  refine O.nil ?_
  refine X.next ?_
  refine V.seq ?_
  refine V.seq ?_
  refine V.region ?_
  refine O.p rfl rfl rfl (Pu.move rfl rfl) ?_
  refine O.p rfl rfl rfl (Pu.len rfl Try.underlying47 rfl) ?_
  refine O.p rfl rfl rfl (Pu.move rfl rfl) ?_
  refine O.nil ?_
  refine X.next ?_
  refine V.block ?_
  refine V.loop2 (β := Nat) (fun k => [(8, .int .i64 (k : Int)), (3, .int .u64 ((maskL (xs.take k) : Nat) : Int))]) _ (fun k => []) (fun k => k ≤ xs.length) (fun k => xs.length - k) 0 (by omega) (Ent.cons rfl (Ent.cons rfl (Ent.nil _))) (Ent.cons (t := 2) rfl (Ent.cons (t := 6) rfl (Ent.cons (t := 7) rfl (Ent.nil _)))) (Sub.nil _) ?_
  rintro k hk
  refine V.seq ?_
  refine V.region ?_
  refine O.p rfl rfl rfl (Pu.lss rfl rfl rfl) ?_
  refine O.nil ?_
  refine X.next ?_
  refine V.seq ?_
  refine V.condD rfl (fun c1 => ?_) (fun c1 => ?_)
  · skip
    refine V.skip ?_
    refine X.next ?_
    refine V.seq ?_
    refine V.block ?_
    refine V.seq ?_
    refine V.region ?_
    refine O.p rfl rfl rfl (Pu.indexAddr (k) rfl Try.underlying47 sz2 rfl rfl (by omega) (by omega) (hx.some (by omega))) ?_
    have e1 : k < xs.length := by omega
    refine O.p rfl rfl rfl (Pu.load rfl pl2 rfl (Ld.rd (Ld.old hx) (k := k) e1 rfl rfl)) ?_
    refine O.p rfl rfl rfl (Pu.assign rfl rfl) ?_
    refine O.nil ?_
    refine X.next ?_
    have hq := hp _ (List.getElem_mem e1)
    have hml := maskL_lt (xs := xs.take k) (fun p h => hp p (List.mem_of_mem_take h))
    have hms := maskL_succ e1
    refine V.region ?_
    refine O.p rfl rfl rfl (Pu.move rfl rfl) ?_
    refine O.p rfl rfl rfl (Pu.move rfl rfl) ?_
    refine O.p rfl rfl rfl (Pu.shl1' (p := (xs[k]'e1).toNat) (by omega) K64.u (by omega) rfl rfl rfl) ?_
    refine O.p rfl rfl rfl (Pu.or (m := (maskL (xs.take k))) (n := (2 ^ (xs[k]'e1).toNat)) K64.u (by omega) (pow_lt62 (by omega)) rfl rfl rfl) ?_
    refine O.p rfl rfl rfl (Pu.assign rfl rfl) ?_
    refine O.nil ?_
    refine X.blockNormal ?_
    refine X.next ?_
    refine V.region ?_
    refine O.p rfl rfl rfl (Pu.add64 (r := ((k + 1 : Nat) : Int)) rfl (by omega) rfl rfl rfl) ?_
    refine O.p rfl rfl rfl (Pu.move rfl rfl) ?_
    refine O.nil ?_
    exact X.back2 (k + 1) (by omega) (by omega) (Ent.cons rfl (Ent.cons' rfl (iv (by rw [hms])) (Ent.nil _))) (Ent.cons (t := 2) rfl (Ent.cons (t := 6) rfl (Ent.cons (t := 7) rfl (Ent.nil _)))) (Sub.nil _)
  · skip
    refine V.exit ?_
    refine X.thenExit ?_
    refine X.thenExit ?_
    refine X.blockHit ?_
    refine X.next ?_
    refine V.seq ?_
    refine V.region ?_
    refine O.p rfl rfl rfl (Pu.move rfl rfl) ?_
    refine O.p rfl rfl rfl (Pu.assign rfl rfl) ?_
    refine O.nil ?_
    refine X.next ?_
    refine V.ret ?_
    refine X.ret1 rfl rfl ?_
    exact fun w hw => St.retP (iv (by rw [List.take_of_length_le (by omega)])) hw

set_option maxRecDepth 100000 in
theorem blockSet_ok (b : B3) (w : World) (hb : good 15 b) : Does Try.prog 68 [B3.v b] w [] (fun v => [.pur (v = .int .u64 ((bmask b : Nat) : Int))]) := by
  refine Does.enter Try.func68 rfl rfl [(0, B3.v b)] rfl ?_
  refine V.seq ?_
  have hb' := hb
  unfold good at hb'
  have hbl : ∀ p ∈ bl b, 0 ≤ p ∧ p < 15 := by intro p h; simp only [bl, List.mem_cons, List.not_mem_nil, or_false] at h; omega
  refine V.region ?_
  refine O.e rfl rfl rfl (Ef.box rfl rfl rfl) ?_
  rintro _ _ ⟨b1, rfl, rfl⟩
  refine O.p rfl rfl rfl (Pu.assign rfl rfl) ?_
  refine O.nil ?_
  refine X.next ?_
  refine V.seq ?_
  refine V.region ?_
  refine O.p rfl rfl rfl (Pu.slicePtr rfl Try.underlying66 sz2 rfl) ?_
  refine O.e rfl rfl rfl (Ef.callP call93 rfl rfl (fun w hw => setOf_ok (bl b) _ 3 w (Ld.arr 0 rfl rfl w hw) (by simp [bl]) hbl)) ?_
  rintro _ _ ⟨rfl, rfl⟩
  refine O.p rfl rfl rfl (Pu.assign rfl rfl) ?_
  refine O.nil ?_
  refine X.next ?_
  refine V.ret ?_
  refine X.ret1 rfl rfl ?_
  exact fun w hw => St.retP (iv (by rw [maskL_block hb])) hw

set_option maxRecDepth 100000 in
theorem indexFuncB_ok (p : B3 → Prop) [DecidablePred p] (g : Nat) (caps : Array Value) (xs : List B3) (A : Option Addr) (c : Nat) (w : World) (hok : CallOk Try.prog g) (hx : Rd B3C w A xs) (lx : xs.length ≤ 9223372036854775807) (hf : ∀ k (hk : k < xs.length) w', Below w.heap.size w w' → Does Try.prog g ([B3.v xs[k]] ++ caps.toList) w' [] (fun v => [.pur (v = .bool (decide (p xs[k])))])) : Does Try.prog 92 [.slice A xs.length c, .func (.func g) #[] caps] w [] (fun v => [.pur (v = .int .i64 (idxP p xs))]) := by
  refine Does.enter Try.func92 rfl rfl [(0, .slice A xs.length c), (1, .func (.func g) #[] caps)] rfl ?_
  refine V.seq ?_
  refine V.region ?_
  refine O.p rfl rfl rfl (Pu.assign rfl rfl) ?_
  refine O.nil ?_
  refine X.next ?_
  refine V.seq ?_
  refine V.seq ?_
  refine V.region ?_
  refine O.p rfl rfl rfl (Pu.move rfl rfl) ?_
  refine O.p rfl rfl rfl (Pu.len rfl Try.underlying29 rfl) ?_
  refine O.p rfl rfl rfl (Pu.move rfl rfl) ?_
  refine O.nil ?_
  refine X.next ?_
  refine V.block ?_
  refine V.loop2 (β := Nat) (fun k => [(8, .int .i64 (k : Int))]) _ (fun k => []) (fun k => k ≤ xs.length ∧ ∀ j (hj : j < xs.length), j < k → ¬ p xs[j]) (fun k => xs.length - k) 0 ⟨by omega, fun j hj h => by omega⟩ (Ent.cons rfl (Ent.nil _)) (Ent.cons (t := 0) rfl (Ent.cons (t := 1) rfl (Ent.cons (t := 7) rfl (Ent.nil _)))) (Sub.nil _) ?_
  rintro k ⟨hk, hn⟩
  refine V.seq ?_
  refine V.region ?_
  refine O.p rfl rfl rfl (Pu.lss rfl rfl rfl) ?_
  refine O.nil ?_
  refine X.next ?_
  refine V.seq ?_
  refine V.condD rfl (fun c1 => ?_) (fun c1 => ?_)
  · skip
    refine V.skip ?_
    refine X.next ?_
    refine V.seq ?_
    refine V.block ?_
    refine V.seq ?_
    refine V.region ?_
    refine O.p rfl rfl rfl (Pu.move rfl rfl) ?_
    refine O.p rfl rfl rfl (Pu.assign rfl rfl) ?_
    refine O.nil ?_
    refine X.next ?_
    refine V.seq ?_
    refine V.region ?_
    refine O.p rfl rfl rfl (Pu.move rfl rfl) ?_
    refine O.p rfl rfl rfl (Pu.move rfl rfl) ?_
    refine O.p rfl rfl rfl (Pu.move rfl rfl) ?_
    refine O.p rfl rfl rfl (Pu.indexAddr (k) rfl Try.underlying29 sz66 rfl rfl (by omega) (by omega) (hx.some (by omega))) ?_
    have e1 : k < xs.length := by omega
    refine O.p rfl rfl rfl (Pu.loadAgg' (v := B3.v (xs[k]'e1)) rfl rfl ag66 sz66 rfl rfl (Ld.rds (Ld.old hx) (k := k) e1 rfl)) ?_
    refine O.e rfl rfl rfl (Ef.callPV hok rfl rfl rfl (fun w' hw => hf k e1 w' hw.below)) ?_
    rintro _ _ ⟨rfl, rfl⟩
    refine O.nil ?_
    refine X.next ?_
    refine V.condD rfl (fun c2 => ?_) (fun c2 => ?_)
    · skip
      refine V.seq ?_
      refine V.region ?_
      refine O.p rfl rfl rfl (Pu.move rfl rfl) ?_
      refine O.p rfl rfl rfl (Pu.assign rfl rfl) ?_
      refine O.nil ?_
      refine X.next ?_
      refine V.ret ?_
      refine X.blockRet ?_
      refine X.thenRet ?_
      refine X.thenRet ?_
      refine X.blockRet ?_
      refine X.thenRet ?_
      refine X.ret1 rfl rfl ?_
      exact fun w hw => St.retP (iv (idxP_found e1 c2 hn).symm) hw
    · skip
      refine V.skip ?_
      refine X.blockNormal ?_
      refine X.next ?_
      refine V.region ?_
      refine O.p rfl rfl rfl (Pu.add64 (r := ((k + 1 : Nat) : Int)) rfl (by omega) rfl rfl rfl) ?_
      refine O.p rfl rfl rfl (Pu.move rfl rfl) ?_
      refine O.nil ?_
      exact X.back2 (k + 1) ⟨by omega, fun j hj h => by by_cases e : j = k; (· subst e; exact c2); (· exact hn j hj (by omega))⟩ (by omega) (Ent.cons rfl (Ent.nil _)) (Ent.cons (t := 0) rfl (Ent.cons (t := 1) rfl (Ent.cons (t := 7) rfl (Ent.nil _)))) (Sub.nil _)
  · skip
    refine V.exit ?_
    refine X.thenExit ?_
    refine X.thenExit ?_
    refine X.blockHit ?_
    refine X.next ?_
    refine V.seq ?_
    refine V.region ?_
    refine O.p rfl rfl rfl (Pu.assign rfl rfl) ?_
    refine O.nil ?_
    refine X.next ?_
    refine V.ret ?_
    refine X.ret1 rfl rfl ?_
    exact fun w hw => St.retP (iv (idxP_none (fun j hj => hn j hj (by omega))).symm) hw

set_option maxRecDepth 100000 in
theorem containsFuncB_ok (p : B3 → Prop) [DecidablePred p] (g : Nat) (caps : Array Value) (xs : List B3) (A : Option Addr) (c : Nat) (w : World) (hok : CallOk Try.prog g) (hx : Rd B3C w A xs) (lx : xs.length ≤ 9223372036854775807) (hf : ∀ k (hk : k < xs.length) w', Below w.heap.size w w' → Does Try.prog g ([B3.v xs[k]] ++ caps.toList) w' [] (fun v => [.pur (v = .bool (decide (p xs[k])))])) : Does Try.prog 66 [.slice A xs.length c, .func (.func g) #[] caps] w [] (fun v => [.pur (v = .bool (decide (∃ x ∈ xs, p x)))]) := by
  refine Does.enter Try.func66 rfl rfl [(0, .slice A xs.length c), (1, .func (.func g) #[] caps)] rfl ?_
  refine V.seq ?_
  refine V.region ?_
  refine O.p rfl rfl rfl (Pu.assign rfl rfl) ?_
  refine O.nil ?_
  refine X.next ?_
  refine V.seq ?_
  refine V.region ?_
  refine O.p rfl rfl rfl (Pu.move rfl rfl) ?_
  refine O.p rfl rfl rfl (Pu.move rfl rfl) ?_
  refine O.e rfl rfl rfl (Ef.callP call92 rfl rfl (fun w hw => indexFuncB_ok p g caps xs _ _ w hok (Ld.old hx w hw) lx (fun k hk w' hb => hf k hk w' (hw.grow hb).below))) ?_
  rintro _ _ ⟨rfl, rfl⟩
  refine O.p rfl rfl rfl (Pu.geq rfl rfl rfl) ?_
  refine O.p rfl rfl rfl (Pu.assign rfl rfl) ?_
  refine O.nil ?_
  refine X.next ?_
  refine V.ret ?_
  refine X.ret1 rfl rfl ?_
  exact fun w hw => St.retP (boolD idxP_nonneg) hw

set_option maxRecDepth 100000 in
theorem meetsAll1_ok (b : B3) (s b3 : Nat) (w : World) (hb : good 15 b) (hs : s < 32768) (h3 : RdB w b3 [.int .u64 (s : Int)]) : Does Try.prog 67 [B3.v b, .pointer (some ⟨b3, 0, none⟩)] w [] (fun v => [.pur (v = .bool (decide (bmask b &&& s = 0)))]) := by
  refine Does.enter Try.func67 rfl rfl [(0, B3.v b), (1, .pointer (some ⟨b3, 0, none⟩))] rfl ?_
  refine V.seq ?_
  have hbm := bmask_lt hb
  refine V.region ?_
  refine O.e rfl rfl rfl (Ef.box rfl rfl rfl) ?_
  rintro _ _ ⟨b1, rfl, rfl⟩
  refine O.p rfl rfl rfl (Pu.assign rfl rfl) ?_
  refine O.nil ?_
  refine X.next ?_
  refine V.seq ?_
  refine V.ent (Ent.cons (t := 1) rfl (Ent.cons (t := 2) rfl (Ent.nil _))) ?_
  refine V.draw mo (by kernel_rfl) (fun hwf => ?_)
  refine D.p 0 rfl rfl rfl rfl rfl rfl (Pu.loadAgg rfl ag66 sz66 rfl rfl (Ld.whole 0 rfl)) ?_
  refine D.p 2 rfl rfl rfl rfl rfl rfl (Pu.load rfl pl81 rfl (Ld.rdb h3 rfl)) ?_
  refine D.eff hwf (e := 1) rfl rfl rfl rfl (Ef.callP call68 rfl rfl (fun w hw => blockSet_ok b w hb)) rfl rfl rfl ?_
  rintro _ _ ⟨rfl, rfl⟩ hs
  refine ⟨fun w hw => hw, ?_⟩
  refine D.p 3 rfl rfl rfl rfl rfl rfl (Pu.and (m := (bmask b)) (n := s) K64.u (by omega) (by omega) rfl rfl rfl) ?_
  refine D.p 4 rfl rfl rfl rfl rfl rfl (Pu.eql rfl rfl rfl) ?_
  refine D.p 5 rfl rfl rfl rfl rfl rfl (Pu.assign rfl rfl) ?_
  refine D.done hwf rfl ?_
  refine X.next ?_
  refine V.ret ?_
  refine X.ret1 rfl rfl ?_
  exact fun w hw => St.retP (boolD (by omega)) hw

noncomputable instance (bs : List B3) (s : Nat) : Decidable (MeetsAll bs s) := Classical.propDecidable _

set_option maxRecDepth 100000 in
theorem meetsAll_ok (v : Int) (bs : List B3) (s : Nat) (A : Option Addr) (c : Nat) (w : World) (hx : Rd B3C w A bs) (hg : ∀ b ∈ bs, good 15 b) (hs : s < 32768) (hfew : bs.length ≤ 35) : Does Try.prog 44 [.agg #[.int .i64 v, .slice A bs.length c], .int .u64 (s : Int)] w [] (fun r => [.pur (r = .bool (decide (MeetsAll bs s)))]) := by
  refine Does.enter Try.func44 rfl rfl [(0, .agg #[.int .i64 v, .slice A bs.length c]), (1, .int .u64 (s : Int))] rfl ?_
  refine V.seq ?_
  refine V.region ?_
  refine O.e rfl rfl rfl (Ef.box rfl rfl rfl) ?_
  rintro _ _ ⟨b1, rfl, rfl⟩
  refine O.e rfl rfl rfl (Ef.box rfl rfl rfl) ?_
  rintro _ _ ⟨b2, rfl, rfl⟩
  refine O.p rfl rfl rfl (Pu.assign rfl rfl) ?_
  refine O.nil ?_
  refine X.next ?_
  refine V.seq ?_
  refine V.region ?_
  refine O.p rfl rfl rfl (Pu.fieldAddr 1 rfl Try.underlying31 rfl sz29 rfl rfl) ?_
  refine O.p rfl rfl rfl (Pu.load rfl pl29 rfl (Ld.blk 1 rfl rfl)) ?_
  refine O.p rfl rfl rfl (Pu.makeFunc rfl rfl) ?_
  refine O.e rfl rfl rfl (Ef.callP call66 rfl rfl (fun w hw => containsFuncB_ok (fun b => bmask b &&& s = 0) 67 _ bs _ _ w call67 (Ld.old hx w hw) (by omega) (fun k hk w' hb => meetsAll1_ok _ s _ w' (hg _ (List.getElem_mem hk)) hs ((Blk.rdb hw (i := 0) rfl).below hb)))) ?_
  rintro _ _ ⟨rfl, rfl⟩
  refine O.p rfl rfl rfl (Pu.not rfl rfl) ?_
  refine O.p rfl rfl rfl (Pu.assign rfl rfl) ?_
  refine O.nil ?_
  refine X.next ?_
  refine V.ret ?_
  refine X.ret1 rfl rfl ?_
  exact fun w hw => St.retP (by rw [← decide_not]; exact boolD (by unfold MeetsAll; simp)) hw

set_option maxRecDepth 100000 in
theorem setAll_ok (v : Int) (bs : List B3) (A : Option Addr) (c : Nat) (w : World) (hv : 3 ≤ v ∧ v ≤ 15) : Does Try.prog 62 [.agg #[.int .i64 v, .slice A bs.length c]] w [] (fun r => [.pur (r = .int .u64 ((2 ^ v.toNat - 1 : Nat) : Int))]) := by
  refine Does.enter Try.func62 rfl rfl [(0, .agg #[.int .i64 v, .slice A bs.length c])] rfl ?_
  refine V.seq ?_
  have hpw : 2 ^ v.toNat ≤ 2 ^ 15 := Nat.pow_le_pow_right (by decide) (by omega)
  have hpw0 := Nat.two_pow_pos v.toNat
  refine V.region ?_
  refine O.e rfl rfl rfl (Ef.box rfl rfl rfl) ?_
  rintro _ _ ⟨b1, rfl, rfl⟩
  refine O.p rfl rfl rfl (Pu.assign rfl rfl) ?_
  refine O.nil ?_
  refine X.next ?_
  refine V.seq ?_
  refine V.region ?_
  refine O.p rfl rfl rfl (Pu.fieldAddr 0 rfl Try.underlying31 rfl sz2 rfl rfl) ?_
  refine O.p rfl rfl rfl (Pu.load rfl pl2 rfl (Ld.blk 0 rfl rfl)) ?_
  refine O.p rfl rfl rfl (Pu.shl1' (p := v.toNat) (by omega) K64.u (by omega) rfl rfl rfl) ?_
  refine O.p rfl rfl rfl (Pu.subN (m := (2 ^ v.toNat)) (n := 1) (r := (2 ^ v.toNat - 1)) K64.u (by omega) (by omega) rfl rfl rfl) ?_
  refine O.p rfl rfl rfl (Pu.assign rfl rfl) ?_
  refine O.nil ?_
  refine X.next ?_
  refine V.ret ?_
  refine X.ret1 rfl rfl ?_
  exact fun w hw => St.retP (rfl) hw
end Go.Proofs.Ytnbbkcpafkooaaa
