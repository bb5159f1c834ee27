/-
  Contracts, part 4.
-/
import Derived.Test.YtjpfngmoabnffaaKb3
set_option linter.unusedVariables false
set_option linter.unusedSimpArgs false
namespace Go.Proofs.Ytjpfngmoabnffaa
open Go Go.RowKit Go.Vc Go.Proofs
set_option maxRecDepth 100000 in
theorem list_ok (m : Nat) (w : World) (hm : m < 32768) : Does Try.prog 90 [.int .u64 (m : Int)] w [] (fun v => [.exi fun p : (Option Addr × Nat) × List Int => .sep (.pur (v = .slice p.1.1 p.2.length p.1.2 ∧ p.2 = pts m)) (Own 2 I64 p.1.1 p.1.2 p.2)]) := by
  refine Does.enter Try.func90 rfl rfl [(0, .int .u64 (m : Int))] rfl ?_
  refine V.seq ?_
  refine V.region ?_
  refine O.p rfl rfl rfl (Pu.assign rfl rfl) ?_
  refine O.nil ?_
  refine X.next ?_
  refine V.seq ?_
  refine V.region ?_
  refine O.p rfl rfl rfl (Pu.assign rfl rfl) ?_
  refine O.nil ?_
  refine X.next ?_
  refine V.seq ?_
  refine V.seq ?_
  refine V.region ?_
  refine O.p rfl rfl rfl (Pu.move rfl rfl) ?_
  refine O.nil ?_
  refine X.next ?_
  refine V.block ?_
  refine V.map (fun w hw => St.addNil (T := 2) (C := I64) hw) ?_
  refine V.loop2 (β := Nat × Option Addr × Nat) (fun x => [(5, .int .i64 (x.1 : Int)), (3, .slice x.2.1 (ptsAt m x.1).length x.2.2)]) _ (fun x => [Own 2 I64 x.2.1 x.2.2 (ptsAt m x.1)]) (fun x => x.1 ≤ 15) (fun x => 15 - x.1) (0, none, 0) (by decide) (Ent.cons rfl (Ent.cons rfl (Ent.nil _))) (Ent.cons (t := 0) rfl (Ent.cons (t := 2) rfl (Ent.nil _))) (Sub.keep 0 rfl (Sub.nil _)) ?_
  rintro ⟨k, Ao, co⟩ hk
  dsimp only at hk
  have hln := ptsAt_len m k
  have hcl := cov_le m k
  refine V.seq ?_
  refine V.region ?_
  refine O.p rfl rfl rfl (Pu.lss rfl rfl rfl) ?_
  refine O.nil ?_
  refine X.next ?_
  refine V.seq ?_
  refine V.condD rfl (fun c1 => ?_) (fun c1 => ?_)
  · skip
    refine V.skip ?_
    refine X.next ?_
    refine V.seq ?_
    refine V.block ?_
    refine V.seq ?_
    refine V.region ?_
    refine O.p rfl rfl rfl (Pu.move rfl rfl) ?_
    refine O.p rfl rfl rfl (Pu.assign rfl rfl) ?_
    refine O.nil ?_
    refine X.next ?_
    refine V.seq ?_
    refine V.region ?_
    refine O.p rfl rfl rfl (Pu.move rfl rfl) ?_
    refine O.p rfl rfl rfl (Pu.move rfl rfl) ?_
    refine O.e rfl rfl rfl (Ef.callP call157 rfl rfl (fun w hw => setHas_ok m k w (by omega) (by omega))) ?_
    rintro _ _ ⟨rfl, rfl⟩
    refine O.nil ?_
    refine X.next ?_
    refine V.condD rfl (fun c2 => ?_) (fun c2 => ?_)
    · skip
      refine V.region ?_
      refine O.p rfl rfl rfl (Pu.move rfl rfl) ?_
      refine O.p rfl rfl rfl (Pu.move rfl rfl) ?_
      refine O.e rfl rfl rfl (Ef.build I64 ([(↑k : Int)] : List Int) rfl Try.underlying43 inf2 rfl rfl rfl (by first | decide | (simp; done)) (by kernel_rfl)) ?_
      rintro _ _ ⟨A1, hA1, rfl, rfl⟩
      refine O.e rfl rfl rfl (Ef.append (xs := (ptsAt m k)) (ys := ([(↑k : Int)] : List Int)) 1 rfl Try.underlying43 inf2 rfl rfl rfl rfl rfl rfl hA1 (Ld.own 0 (by exact rfl)) (by simp only [List.length_append, List.length_cons, List.length_nil] at *; omega) (by decide)) ?_
      rintro _ _ ⟨A2, k1, rfl, rfl, hA2⟩
      replace hA2 := hA2 (.inr (by simp))
      refine O.p rfl rfl rfl (Pu.assign rfl rfl) ?_
      refine O.nil ?_
      refine X.blockNormal ?_
      refine X.next ?_
      refine V.region ?_
      refine O.p rfl rfl rfl (Pu.add64 (r := ((k + 1 : Nat) : Int)) rfl (by omega) rfl rfl rfl) ?_
      refine O.p rfl rfl rfl (Pu.move rfl rfl) ?_
      refine O.nil ?_
      exact X.back2 (k + 1, A2, k1) (by simp only []; omega) (by omega) (Ent.cons rfl (Ent.cons' rfl (by rw [show ptsAt m (k + 1) = ptsAt m k ++ [(k : Int)] by simp only [ptsAt]; rw [if_pos c2]]) (Ent.nil _))) (Ent.cons (t := 0) rfl (Ent.cons (t := 2) rfl (Ent.nil _))) (Sub.cons 1 rfl (fun w F h => by rw [show ptsAt m (k + 1) = ptsAt m k ++ [(k : Int)] by simp only [ptsAt]; rw [if_pos c2]]; exact h) (Sub.nil _))
    · skip
      refine V.skip ?_
      refine X.blockNormal ?_
      refine X.next ?_
      refine V.region ?_
      refine O.p rfl rfl rfl (Pu.add64 (r := ((k + 1 : Nat) : Int)) rfl (by omega) rfl rfl rfl) ?_
      refine O.p rfl rfl rfl (Pu.move rfl rfl) ?_
      refine O.nil ?_
      exact X.back2 (k + 1, Ao, co) (by simp only []; omega) (by omega) (Ent.cons rfl (Ent.cons' rfl (by rw [show ptsAt m (k + 1) = ptsAt m k by simp only [ptsAt]; rw [if_neg c2]]) (Ent.nil _))) (Ent.cons (t := 0) rfl (Ent.cons (t := 2) rfl (Ent.nil _))) (Sub.cons 0 rfl (fun w F h => by rw [show ptsAt m (k + 1) = ptsAt m k by simp only [ptsAt]; rw [if_neg c2]]; exact h) (Sub.nil _))
  · skip
    refine V.exit ?_
    refine X.thenExit ?_
    refine X.thenExit ?_
    refine X.blockHit ?_
    refine X.next ?_
    refine V.seq ?_
    refine V.region ?_
    refine O.p rfl rfl rfl (Pu.move rfl rfl) ?_
    refine O.p rfl rfl rfl (Pu.assign rfl rfl) ?_
    refine O.nil ?_
    refine X.next ?_
    refine V.ret ?_
    refine X.ret1 rfl rfl ?_
    exact fun w hw => St.retX ((Ao, co), ptsAt m k) ⟨rfl, by have e : k = 15 := (by omega); subst e; rfl⟩ hw
set_option maxRecDepth 100000 in
theorem l07Points_ok (m : Nat) (w : World) (hm : m < 32768) : Does Try.prog 115 [.int .i64 (m : Int)] w [] (fun v => [.exi fun p : (Option Addr × Nat) × List Int => .sep (.pur (v = .slice p.1.1 p.2.length p.1.2 ∧ p.2 = pts m)) (Own 2 I64 p.1.1 p.1.2 p.2)]) := by
  refine Does.enter Try.func115 rfl rfl [(0, .int .i64 (m : Int))] rfl ?_
  refine V.seq ?_
  refine V.region ?_
  refine O.p rfl rfl rfl (Pu.assign rfl rfl) ?_
  refine O.nil ?_
  refine X.next ?_
  refine V.seq ?_
  refine V.region ?_
  refine O.e rfl rfl rfl (Ef.build I64 ([] : List Int) rfl Try.underlying43 inf2 rfl rfl rfl (by first | decide | (simp; done)) (by kernel_rfl)) ?_
  rintro _ _ ⟨A1, hA1, rfl, rfl⟩
  refine O.p rfl rfl rfl (Pu.assign rfl rfl) ?_
  refine O.nil ?_
  refine X.next ?_
  refine V.seq ?_
  refine V.seq ?_
  refine V.region ?_
  refine O.p rfl rfl rfl (Pu.assign rfl rfl) ?_
  refine O.nil ?_
  refine X.next ?_
  refine V.block ?_
  refine V.loop2 (β := Nat × Option Addr × Nat) (fun x => [(4, .int .i64 (x.1 : Int)), (3, .slice x.2.1 (ptsAt m x.1).length x.2.2)]) _ (fun x => [Own 2 I64 x.2.1 x.2.2 (ptsAt m x.1)]) (fun x => x.1 ≤ 15) (fun x => 15 - x.1) (0, A1, 0) (by simp) (Ent.cons rfl (Ent.cons rfl (Ent.nil _))) (Ent.cons (t := 0) rfl (Ent.cons (t := 2) rfl (Ent.nil _))) (Sub.keep 0 rfl (Sub.nil _)) ?_
  rintro ⟨k, Ao, co⟩ hk
  dsimp only at hk
  have hln := ptsAt_len m k
  have hcl := cov_le m k
  refine V.seq ?_
  refine V.seq ?_
  refine V.region ?_
  refine O.p rfl rfl rfl (Pu.move rfl rfl) ?_
  refine O.p rfl rfl rfl (Pu.lss rfl rfl rfl) ?_
  refine O.nil ?_
  refine X.next ?_
  refine V.condD rfl (fun c1 => ?_) (fun c1 => ?_)
  · skip
    refine V.skip ?_
    refine X.next ?_
    refine V.seq ?_
    refine V.block ?_
    refine V.seq ?_
    refine V.region ?_
    refine O.p rfl rfl rfl (Pu.move rfl rfl) ?_
    refine O.p rfl rfl rfl (Pu.move rfl rfl) ?_
    refine O.p rfl rfl rfl (Pu.convU' k (by omega) ⟨_, Try.underlying2⟩ Try.underlying115 (by omega) rfl rfl) ?_
    refine O.p rfl rfl rfl (Pu.shr (m := m) (p := k) K64.i (by omega) rfl rfl rfl) ?_
    refine O.p rfl rfl rfl (Pu.and (m := (m >>> k)) (n := 1) K64.i (shr_lt (by omega)) (by omega) rfl rfl rfl) ?_
    refine O.p rfl rfl rfl (Pu.eql rfl rfl rfl) ?_
    refine O.nil ?_
    refine X.next ?_
    refine V.condD rfl (fun c2 => ?_) (fun c2 => ?_)
    · skip
      refine V.region ?_
      refine O.p rfl rfl rfl (Pu.move rfl rfl) ?_
      refine O.p rfl rfl rfl (Pu.move rfl rfl) ?_
      refine O.e rfl rfl rfl (Ef.build I64 ([(↑k : Int)] : List Int) rfl Try.underlying43 inf2 rfl rfl rfl (by first | decide | (simp; done)) (by kernel_rfl)) ?_
      rintro _ _ ⟨A2, hA2, rfl, rfl⟩
      refine O.e rfl rfl rfl (Ef.append (xs := (ptsAt m k)) (ys := ([(↑k : Int)] : List Int)) 1 rfl Try.underlying43 inf2 rfl rfl rfl rfl rfl rfl hA2 (Ld.own 0 (by exact rfl)) (by simp only [List.length_append, List.length_cons, List.length_nil] at *; omega) (by decide)) ?_
      rintro _ _ ⟨A3, k1, rfl, rfl, hA3⟩
      replace hA3 := hA3 (.inr (by simp))
      refine O.p rfl rfl rfl (Pu.assign rfl rfl) ?_
      refine O.nil ?_
      refine X.blockNormal ?_
      refine X.next ?_
      refine V.region ?_
      refine O.p rfl rfl rfl (Pu.move rfl rfl) ?_
      refine O.p rfl rfl rfl (Pu.add64 (r := ((k + 1 : Nat) : Int)) rfl (by omega) rfl rfl rfl) ?_
      refine O.p rfl rfl rfl (Pu.assign rfl rfl) ?_
      refine O.nil ?_
      have ht : ptsAt m (k + 1) = ptsAt m k ++ [(k : Int)] := by simp only [ptsAt]; rw [if_pos ((bit_is m k).1 (by omega))]
      exact X.back2 (k + 1, A3, k1) (by simp only []; omega) (by omega) (Ent.cons rfl (Ent.cons' rfl (by rw [ht]) (Ent.nil _))) (Ent.cons (t := 0) rfl (Ent.cons (t := 2) rfl (Ent.nil _))) (Sub.cons 1 rfl (fun w F h => by rw [ht]; exact h) (Sub.nil _))
    · skip
      refine V.skip ?_
      refine X.blockNormal ?_
      refine X.next ?_
      refine V.region ?_
      refine O.p rfl rfl rfl (Pu.move rfl rfl) ?_
      refine O.p rfl rfl rfl (Pu.add64 (r := ((k + 1 : Nat) : Int)) rfl (by omega) rfl rfl rfl) ?_
      refine O.p rfl rfl rfl (Pu.assign rfl rfl) ?_
      refine O.nil ?_
      have ht : ptsAt m (k + 1) = ptsAt m k := by simp only [ptsAt]; rw [if_neg (fun h => c2 (by have := (bit_is m k).2 h; omega))]
      exact X.back2 (k + 1, Ao, co) (by simp only []; omega) (by omega) (Ent.cons rfl (Ent.cons' rfl (by rw [ht]) (Ent.nil _))) (Ent.cons (t := 0) rfl (Ent.cons (t := 2) rfl (Ent.nil _))) (Sub.cons 0 rfl (fun w F h => by rw [ht]; exact h) (Sub.nil _))
  · skip
    refine V.exit ?_
    refine X.thenExit ?_
    refine X.thenExit ?_
    refine X.blockHit ?_
    refine X.next ?_
    refine V.seq ?_
    refine V.region ?_
    refine O.p rfl rfl rfl (Pu.move rfl rfl) ?_
    refine O.p rfl rfl rfl (Pu.assign rfl rfl) ?_
    refine O.nil ?_
    refine X.next ?_
    refine V.ret ?_
    refine X.ret1 rfl rfl ?_
    exact fun w hw => St.retX ((Ao, co), ptsAt m k) ⟨rfl, by have e : k = 15 := (by omega); subst e; rfl⟩ hw
set_option maxRecDepth 100000 in
theorem l07Inside_ok (v : Int) (bs : List B3) (s : Nat) (A : Option Addr) (c : Nat) (w : World) (hx : Rd B3C w A bs) (hg : ∀ b ∈ bs, good 15 b) (hs : s < 32768) (hfew : bs.length ≤ 35) : Does Try.prog 180 [.agg #[.int .i64 v, .slice A bs.length c], .int .i64 (s : Int)] w [] (fun r => [.pur (r = .int .i64 ((inside bs s bs.length : Nat) : Int))]) := by
  refine Does.enter Try.func180 rfl rfl [(0, .agg #[.int .i64 v, .slice A bs.length c]), (1, .int .i64 (s : Int))] rfl ?_
  refine V.seq ?_
  refine V.region ?_
  refine O.e rfl rfl rfl (Ef.box rfl rfl rfl) ?_
  rintro _ _ ⟨b1, rfl, rfl⟩
  refine O.p rfl rfl rfl (Pu.assign rfl rfl) ?_
  refine O.nil ?_
  refine X.next ?_
  refine V.seq ?_
  refine V.region ?_
  refine O.p rfl rfl rfl (Pu.assign rfl rfl) ?_
  refine O.nil ?_
  refine X.next ?_
  refine V.seq ?_
  refine V.seq ?_
  refine V.region ?_
  refine O.p rfl rfl rfl (Pu.assign rfl rfl) ?_
  refine O.nil ?_
  refine X.next ?_
  refine V.block ?_
  refine V.loop3 (β := Nat) (fun k => [(6, .int .i64 (k : Int)), (5, .int .i64 ((inside bs s k : Nat) : Int))]) _ (fun k => []) _ (fun k => k ≤ bs.length) (fun k => bs.length - k) 0 (by omega) (Ent.cons rfl (Ent.cons rfl (Ent.nil _))) (Ent.cons (t := 1) rfl (Ent.cons (t := 2) rfl (Ent.cons (t := 4) rfl (Ent.nil _)))) (Sub.keep 0 rfl (Sub.nil _)) ?_
  rintro k hk
  refine V.seq ?_
  refine V.seq ?_
  refine V.region ?_
  refine O.p rfl rfl rfl (Pu.move rfl rfl) ?_
  refine O.p rfl rfl rfl (Pu.fieldAddr 1 rfl Try.underlying30 rfl sz28 rfl rfl) ?_
  refine O.p rfl rfl rfl (Pu.load rfl pl28 rfl (Ld.blk 0 rfl rfl)) ?_
  refine O.p rfl rfl rfl (Pu.len rfl Try.underlying28 rfl) ?_
  refine O.p rfl rfl rfl (Pu.lss rfl rfl rfl) ?_
  refine O.nil ?_
  refine X.next ?_
  refine V.condD rfl (fun c1 => ?_) (fun c1 => ?_)
  · skip
    refine V.skip ?_
    refine X.next ?_
    refine V.seq ?_
    refine V.block ?_
    refine V.seq ?_
    have hil := @inside_le bs s k
    have his := inside_succ (s := s) (show k < bs.length by omega)
    refine V.region ?_
    refine O.p rfl rfl rfl (Pu.fieldAddr 1 rfl Try.underlying30 rfl sz28 rfl rfl) ?_
    refine O.p rfl rfl rfl (Pu.load rfl pl28 rfl (Ld.blk 0 rfl rfl)) ?_
    refine O.p rfl rfl rfl (Pu.move rfl rfl) ?_
    refine O.p rfl rfl rfl (Pu.indexAddr (k) rfl Try.underlying28 sz75 rfl rfl (by omega) (by omega) (hx.some (by omega))) ?_
    have e1 : k < bs.length := by omega
    refine O.p rfl rfl rfl (Pu.loadAgg' (v := B3.v (bs[k]'e1)) rfl rfl ag75 sz75 rfl rfl (Ld.rds (Ld.old hx) (k := k) e1 rfl)) ?_
    refine O.e rfl rfl rfl (Ef.callP call197 rfl rfl (fun w hw => l05Bits_ok (bs[k]'e1) w (hg _ (List.getElem_mem _)))) ?_
    rintro _ _ ⟨rfl, rfl⟩
    have hbm := bmask_lt (hg _ (List.getElem_mem e1))
    refine O.p rfl rfl rfl (Pu.assign rfl rfl) ?_
    refine O.nil ?_
    refine X.next ?_
    refine V.seq ?_
    refine V.region ?_
    refine O.p rfl rfl rfl (Pu.move rfl rfl) ?_
    refine O.p rfl rfl rfl (Pu.move rfl rfl) ?_
    refine O.p rfl rfl rfl (Pu.and (m := (bmask (bs[k]'e1))) (n := s) K64.i (by omega) (by omega) rfl rfl rfl) ?_
    refine O.p rfl rfl rfl (Pu.move rfl rfl) ?_
    refine O.p rfl rfl rfl (Pu.eql rfl rfl rfl) ?_
    refine O.nil ?_
    refine X.next ?_
    refine V.condD rfl (fun c2 => ?_) (fun c2 => ?_)
    · skip
      refine V.region ?_
      refine O.p rfl rfl rfl (Pu.move rfl rfl) ?_
      refine O.p rfl rfl rfl (Pu.add64 (r := (((inside bs s k) + 1 : Nat) : Int)) rfl (by omega) rfl rfl rfl) ?_
      refine O.p rfl rfl rfl (Pu.assign rfl rfl) ?_
      refine O.nil ?_
      refine X.blockNormal ?_
      refine X.next ?_
      refine V.region ?_
      refine O.p rfl rfl rfl (Pu.move rfl rfl) ?_
      refine O.p rfl rfl rfl (Pu.add64 (r := ((k + 1 : Nat) : Int)) rfl (by omega) rfl rfl rfl) ?_
      refine O.p rfl rfl rfl (Pu.assign rfl rfl) ?_
      refine O.nil ?_
      exact X.back3 (k + 1) (by omega) (by omega) (Ent.cons rfl (Ent.cons' rfl (iv (by rw [his, if_pos (by omega)])) (Ent.nil _))) (Ent.cons (t := 1) rfl (Ent.cons (t := 2) rfl (Ent.cons (t := 4) rfl (Ent.nil _)))) (Sub.keep 0 rfl (Sub.nil _))
    · skip
      refine V.skip ?_
      refine X.blockNormal ?_
      refine X.next ?_
      refine V.region ?_
      refine O.p rfl rfl rfl (Pu.move rfl rfl) ?_
      refine O.p rfl rfl rfl (Pu.add64 (r := ((k + 1 : Nat) : Int)) rfl (by omega) rfl rfl rfl) ?_
      refine O.p rfl rfl rfl (Pu.assign rfl rfl) ?_
      refine O.nil ?_
      exact X.back3 (k + 1) (by omega) (by omega) (Ent.cons rfl (Ent.cons' rfl (iv (by rw [his, if_neg (by omega)]; rfl)) (Ent.nil _))) (Ent.cons (t := 1) rfl (Ent.cons (t := 2) rfl (Ent.cons (t := 4) rfl (Ent.nil _)))) (Sub.keep 0 rfl (Sub.nil _))
  · skip
    refine V.exit ?_
    refine X.thenExit ?_
    refine X.thenExit ?_
    refine X.blockHit ?_
    refine X.next ?_
    refine V.seq ?_
    refine V.region ?_
    refine O.p rfl rfl rfl (Pu.move rfl rfl) ?_
    refine O.p rfl rfl rfl (Pu.assign rfl rfl) ?_
    refine O.nil ?_
    refine X.next ?_
    refine V.ret ?_
    refine X.ret1 rfl rfl ?_
    exact fun w hw => St.retP (iv (by have e : k = bs.length := (by omega); subst e; rfl)) hw
set_option maxRecDepth 100000 in
theorem setAll_ok (v : Int) (bs : List B3) (A : Option Addr) (c : Nat) (w : World) (hv : 3 ≤ v ∧ v ≤ 15) : Does Try.prog 118 [.agg #[.int .i64 v, .slice A bs.length c]] w [] (fun r => [.pur (r = .int .u64 ((2 ^ v.toNat - 1 : Nat) : Int))]) := by
  refine Does.enter Try.func118 rfl rfl [(0, .agg #[.int .i64 v, .slice A bs.length c])] rfl ?_
  refine V.seq ?_
  have hpw : 2 ^ v.toNat ≤ 2 ^ 15 := Nat.pow_le_pow_right (by decide) (by omega)
  have hpw0 := Nat.two_pow_pos v.toNat
  refine V.region ?_
  refine O.e rfl rfl rfl (Ef.box rfl rfl rfl) ?_
  rintro _ _ ⟨b1, rfl, rfl⟩
  refine O.p rfl rfl rfl (Pu.assign rfl rfl) ?_
  refine O.nil ?_
  refine X.next ?_
  refine V.seq ?_
  refine V.region ?_
  refine O.p rfl rfl rfl (Pu.fieldAddr 0 rfl Try.underlying30 rfl sz2 rfl rfl) ?_
  refine O.p rfl rfl rfl (Pu.load rfl pl2 rfl (Ld.blk 0 rfl rfl)) ?_
  refine O.p rfl rfl rfl (Pu.shl1' (p := v.toNat) (by omega) K64.u (by omega) rfl rfl rfl) ?_
  refine O.p rfl rfl rfl (Pu.subN (m := (2 ^ v.toNat)) (n := 1) (r := (2 ^ v.toNat - 1)) K64.u (by omega) (by omega) rfl rfl rfl) ?_
  refine O.p rfl rfl rfl (Pu.assign rfl rfl) ?_
  refine O.nil ?_
  refine X.next ?_
  refine V.ret ?_
  refine X.ret1 rfl rfl ?_
  exact fun w hw => St.retP (rfl) hw
theorem gridFit_ok (bs : List B3) (A : Option Addr) (c : Nat) (w : World) (hx : Rd B3C w A bs) (lx : bs.length ≤ 4611686018427387904) (hb : ∀ b ∈ bs, good 15 b) (hft : fitsAt bs bs.length) : Does Try.prog 182 [.slice A bs.length c] w [] (fun v => [.exi fun g : Nat => .sep (.pur (v = .tuple #[.pointer (some ⟨g, 0, none⟩), .bool true])) (Grid g (tab bs) 222)]) :=
  (gridOf_ok bs A c w hx lx hb).mono (fun v w hs => by
    obtain ⟨g, hs⟩ := hs.exi
    rcases g with _ | g
    · exact absurd hft hs.pur.1.2
    · have h := hs.sep.pur
      exact St.mkExi g (St.unsep (St.addPur h.1.1 h.2)))
set_option maxRecDepth 100000 in
set_option maxHeartbeats 1000000 in
theorem sysGrid_ok (v : Int) (bs : List B3) (A : Option Addr) (c : Nat) (w : World) (hx : Rd B3C w A bs) (lx : bs.length ≤ 4611686018427387904) (hb : ∀ b ∈ bs, good 15 b) (hft : fitsAt bs bs.length) : Does Try.prog 117 [.agg #[.int .i64 v, .slice A bs.length c]] w [] (fun r => [.exi fun (g : Nat) => .sep (.pur (r = .pointer (some ⟨g, 0, none⟩))) (Grid g (tab bs) 222)]) := by
  refine Does.enter Try.func117 rfl rfl [(0, .agg #[.int .i64 v, .slice A bs.length c])] rfl ?_
  refine V.seq ?_
  refine V.region ?_
  refine O.e rfl rfl rfl (Ef.box rfl rfl rfl) ?_
  rintro _ _ ⟨b1, rfl, rfl⟩
  refine O.p rfl rfl rfl (Pu.assign rfl rfl) ?_
  refine O.nil ?_
  refine X.next ?_
  refine V.seq ?_
  refine V.region ?_
  refine O.p rfl rfl rfl (Pu.fieldAddr 1 rfl Try.underlying30 rfl sz28 rfl rfl) ?_
  refine O.p rfl rfl rfl (Pu.load rfl pl28 rfl (Ld.blk 0 rfl rfl)) ?_
  refine O.e rfl rfl rfl (Ef.call1 call182 rfl rfl (fun w hw => gridFit_ok bs _ _ w ((Ld.old hx) w hw) (by omega) hb hft)) ?_
  rintro _ _ rfl
  refine O.exi (fun g1 => ?_)
  refine O.sep ?_
  refine O.pur ?_
  rintro rfl
  refine O.p rfl rfl rfl (Pu.move rfl rfl) ?_
  refine O.p rfl rfl rfl (Pu.extract rfl rfl rfl) ?_
  refine O.p rfl rfl rfl (Pu.extract rfl rfl rfl) ?_
  refine O.p rfl rfl rfl (Pu.assign rfl rfl) ?_
  refine O.p rfl rfl rfl (Pu.assign rfl rfl) ?_
  refine O.nil ?_
  refine X.next ?_
  refine V.seq ?_
  refine V.region ?_
  refine O.p rfl rfl rfl (Pu.move rfl rfl) ?_
  refine O.p rfl rfl rfl (Pu.assign rfl rfl) ?_
  refine O.nil ?_
  refine X.next ?_
  refine V.ret ?_
  refine X.ret1 rfl rfl ?_
  exact fun w hw => St.mkExi g1 (St.unsep (St.addPur rfl (hw.sub (Sub.keep 0 rfl (Sub.nil _)))))
set_option maxRecDepth 100000 in
theorem markBlockX_ok (xs : List B3) (m : Int) (A : Option Addr) (c : Nat) (w0 : World) (H : List Assn) (hm : 0 ≤ m ∧ m ≤ 1152921504606846976) (lx : xs.length ≤ 1099511627776) : Does Try.prog 78 [.slice A xs.length c, .int .i64 m] w0 (Own 75 B3C A c xs :: H) (fun v => .pur (v = .int .i64 (m + 3 * xs.length)) :: Own 75 B3C A c (marksB m xs.length) :: H) := by
  refine Does.enter Try.func78 rfl rfl [(0, .slice A xs.length c), (1, .int .i64 m)] rfl ?_
  refine V.seq ?_
  refine V.region ?_
  refine O.p rfl rfl rfl (Pu.assign rfl rfl) ?_
  refine O.nil ?_
  refine X.next ?_
  refine V.seq ?_
  refine V.seq ?_
  refine V.region ?_
  refine O.p rfl rfl rfl (Pu.assign rfl rfl) ?_
  refine O.nil ?_
  refine X.next ?_
  refine V.block ?_
  refine V.loop3 (β := Nat) (fun k => [(5, .int .i64 (k : Int)), (1, .int .i64 (m + 3 * (k : Int)))]) _ (fun k => [Own 75 B3C A c (markBAt xs m k)]) _ (fun k => k ≤ xs.length) (fun k => xs.length - k) 0 (by omega) (Ent.cons rfl (Ent.cons' rfl (iv (by omega)) (Ent.nil _))) (Ent.cons (t := 0) rfl (Ent.cons (t := 4) rfl (Ent.nil _))) (Sub.cons 0 rfl (fun w F h => by rw [markBAt_zero]; exact h) (Sub.refl _)) ?_
  rintro k hk
  refine V.seq ?_
  refine V.seq ?_
  refine V.region ?_
  refine O.p rfl rfl rfl (Pu.move rfl rfl) ?_
  refine O.p rfl rfl rfl (Pu.move rfl rfl) ?_
  refine O.p rfl rfl rfl (Pu.len rfl Try.underlying28 rfl) ?_
  refine O.p rfl rfl rfl (Pu.lss rfl rfl rfl) ?_
  refine O.nil ?_
  refine X.next ?_
  refine V.condD rfl (fun c1 => ?_) (fun c1 => ?_)
  · skip
    refine V.skip ?_
    refine X.next ?_
    refine V.seq ?_
    refine V.block ?_
    refine V.seq ?_
    refine V.region ?_
    refine O.p rfl rfl rfl (Pu.assign rfl rfl) ?_
    refine O.nil ?_
    refine X.next ?_
    refine V.block ?_
    refine V.unroll 3 ?_
    refine V.seq ?_
    refine V.seq ?_
    refine V.region ?_
    refine O.p rfl rfl rfl (Pu.move rfl rfl) ?_
    refine O.p rfl rfl rfl (Pu.isT (by decide) (Pu.lss rfl rfl rfl)) ?_
    refine O.nil ?_
    refine X.next ?_
    refine V.condT rfl ?_
    refine V.skip ?_
    refine X.next ?_
    refine V.seq ?_
    refine V.block ?_
    refine V.seq ?_
    refine V.region ?_
    refine O.p rfl rfl rfl (Pu.move rfl rfl) ?_
    refine O.p rfl rfl rfl (Pu.move rfl rfl) ?_
    refine O.p rfl rfl rfl (Pu.move rfl rfl) ?_
    refine O.p rfl rfl rfl (Pu.move rfl rfl) ?_
    refine O.p rfl rfl rfl (Pu.indexAddrS (k) rfl Try.underlying28 sz75 rfl rfl (by omega) (by omega) (fun w hw => Own.some hw (i := 0) (by exact rfl) (by (try simp only [List.length_set]); rw [markBAt_len hk]; omega))) ?_
    refine O.p rfl rfl rfl (Pu.indexArr' (0) rfl Try.underlying75 sz2 rfl rfl (by omega) (by omega) rfl (fun w hw => by have := Own.some hw (i := 0) (by exact rfl) (by (try simp only [List.length_set]); rw [markBAt_len hk]; omega); simpa using this)) ?_
    refine O.s rfl rfl (Ef.storeOwnAt 0 (k) (0) (((m + 3 * (↑k : Int)), ((markBAt xs m k)[k]'(by (try simp only [List.length_set]); rw [markBAt_len hk]; omega)).2.1, ((markBAt xs m k)[k]'(by (try simp only [List.length_set]); rw [markBAt_len hk]; omega)).2.2) : B3) rfl sz2 rfl rfl rfl rfl (by (try simp only [List.length_set]); rw [markBAt_len hk]; omega) (by decide) rfl rfl (by rfl)) ?_
    rintro _ _ rfl
    refine O.nil ?_
    refine X.next ?_
    refine V.region ?_
    refine O.p rfl rfl rfl (Pu.move rfl rfl) ?_
    refine O.p rfl rfl rfl (Pu.add64 rfl (by omega) rfl rfl rfl) ?_
    refine O.p rfl rfl rfl (Pu.assign rfl rfl) ?_
    refine O.nil ?_
    refine X.blockNormal ?_
    refine X.next ?_
    refine V.region ?_
    refine O.p rfl rfl rfl (Pu.move rfl rfl) ?_
    refine O.p rfl rfl rfl (Pu.add64 (r := 1) (by decide) (by decide) rfl rfl rfl) ?_
    refine O.p rfl rfl rfl (Pu.assign rfl rfl) ?_
    refine O.nil ?_
    refine X.again 2 ?_
    refine V.seq ?_
    refine V.seq ?_
    refine V.region ?_
    refine O.p rfl rfl rfl (Pu.move rfl rfl) ?_
    refine O.p rfl rfl rfl (Pu.isT (by decide) (Pu.lss rfl rfl rfl)) ?_
    refine O.nil ?_
    refine X.next ?_
    refine V.condT rfl ?_
    refine V.skip ?_
    refine X.next ?_
    refine V.seq ?_
    refine V.block ?_
    refine V.seq ?_
    refine V.region ?_
    refine O.p rfl rfl rfl (Pu.move rfl rfl) ?_
    refine O.p rfl rfl rfl (Pu.move rfl rfl) ?_
    refine O.p rfl rfl rfl (Pu.move rfl rfl) ?_
    refine O.p rfl rfl rfl (Pu.move rfl rfl) ?_
    refine O.p rfl rfl rfl (Pu.indexAddrS (k) rfl Try.underlying28 sz75 rfl rfl (by omega) (by omega) (fun w hw => Own.some hw (i := 0) (by exact rfl) (by (try simp only [List.length_set]); rw [markBAt_len hk]; omega))) ?_
    refine O.p rfl rfl rfl (Pu.indexArr' (1) rfl Try.underlying75 sz2 rfl rfl (by omega) (by omega) rfl (fun w hw => by have := Own.some hw (i := 0) (by exact rfl) (by (try simp only [List.length_set]); rw [markBAt_len hk]; omega); simpa using this)) ?_
    refine O.s rfl rfl (Ef.storeOwnAt 0 (k) (1) (((((markBAt xs m k).set k (((m + 3 * (↑k : Int)), ((markBAt xs m k)[k]'(by (try simp only [List.length_set]); rw [markBAt_len hk]; omega)).2.1, ((markBAt xs m k)[k]'(by (try simp only [List.length_set]); rw [markBAt_len hk]; omega)).2.2) : B3))[k]'(by (try simp only [List.length_set]); rw [markBAt_len hk]; omega)).1, ((m + 3 * (↑k : Int)) + (1 : Int)), (((markBAt xs m k).set k (((m + 3 * (↑k : Int)), ((markBAt xs m k)[k]'(by (try simp only [List.length_set]); rw [markBAt_len hk]; omega)).2.1, ((markBAt xs m k)[k]'(by (try simp only [List.length_set]); rw [markBAt_len hk]; omega)).2.2) : B3))[k]'(by (try simp only [List.length_set]); rw [markBAt_len hk]; omega)).2.2) : B3) rfl sz2 rfl rfl rfl rfl (by (try simp only [List.length_set]); rw [markBAt_len hk]; omega) (by decide) rfl rfl (by rfl)) ?_
    rintro _ _ rfl
    refine O.nil ?_
    refine X.next ?_
    refine V.region ?_
    refine O.p rfl rfl rfl (Pu.move rfl rfl) ?_
    refine O.p rfl rfl rfl (Pu.add64 rfl (by omega) rfl rfl rfl) ?_
    refine O.p rfl rfl rfl (Pu.assign rfl rfl) ?_
    refine O.nil ?_
    refine X.blockNormal ?_
    refine X.next ?_
    refine V.region ?_
    refine O.p rfl rfl rfl (Pu.move rfl rfl) ?_
    refine O.p rfl rfl rfl (Pu.add64 (r := 2) (by decide) (by decide) rfl rfl rfl) ?_
    refine O.p rfl rfl rfl (Pu.assign rfl rfl) ?_
    refine O.nil ?_
    refine X.again 1 ?_
    refine V.seq ?_
    refine V.seq ?_
    refine V.region ?_
    refine O.p rfl rfl rfl (Pu.move rfl rfl) ?_
    refine O.p rfl rfl rfl (Pu.isT (by decide) (Pu.lss rfl rfl rfl)) ?_
    refine O.nil ?_
    refine X.next ?_
    refine V.condT rfl ?_
    refine V.skip ?_
    refine X.next ?_
    refine V.seq ?_
    refine V.block ?_
    refine V.seq ?_
    refine V.region ?_
    refine O.p rfl rfl rfl (Pu.move rfl rfl) ?_
    refine O.p rfl rfl rfl (Pu.move rfl rfl) ?_
    refine O.p rfl rfl rfl (Pu.move rfl rfl) ?_
    refine O.p rfl rfl rfl (Pu.move rfl rfl) ?_
    refine O.p rfl rfl rfl (Pu.indexAddrS (k) rfl Try.underlying28 sz75 rfl rfl (by omega) (by omega) (fun w hw => Own.some hw (i := 0) (by exact rfl) (by (try simp only [List.length_set]); rw [markBAt_len hk]; omega))) ?_
    refine O.p rfl rfl rfl (Pu.indexArr' (2) rfl Try.underlying75 sz2 rfl rfl (by omega) (by omega) rfl (fun w hw => by have := Own.some hw (i := 0) (by exact rfl) (by (try simp only [List.length_set]); rw [markBAt_len hk]; omega); simpa using this)) ?_
    refine O.s rfl rfl (Ef.storeOwnAt 0 (k) (2) ((((((markBAt xs m k).set k (((m + 3 * (↑k : Int)), ((markBAt xs m k)[k]'(by (try simp only [List.length_set]); rw [markBAt_len hk]; omega)).2.1, ((markBAt xs m k)[k]'(by (try simp only [List.length_set]); rw [markBAt_len hk]; omega)).2.2) : B3)).set k (((((markBAt xs m k).set k (((m + 3 * (↑k : Int)), ((markBAt xs m k)[k]'(by (try simp only [List.length_set]); rw [markBAt_len hk]; omega)).2.1, ((markBAt xs m k)[k]'(by (try simp only [List.length_set]); rw [markBAt_len hk]; omega)).2.2) : B3))[k]'(by (try simp only [List.length_set]); rw [markBAt_len hk]; omega)).1, ((m + 3 * (↑k : Int)) + (1 : Int)), (((markBAt xs m k).set k (((m + 3 * (↑k : Int)), ((markBAt xs m k)[k]'(by (try simp only [List.length_set]); rw [markBAt_len hk]; omega)).2.1, ((markBAt xs m k)[k]'(by (try simp only [List.length_set]); rw [markBAt_len hk]; omega)).2.2) : B3))[k]'(by (try simp only [List.length_set]); rw [markBAt_len hk]; omega)).2.2) : B3))[k]'(by (try simp only [List.length_set]); rw [markBAt_len hk]; omega)).1, ((((markBAt xs m k).set k (((m + 3 * (↑k : Int)), ((markBAt xs m k)[k]'(by (try simp only [List.length_set]); rw [markBAt_len hk]; omega)).2.1, ((markBAt xs m k)[k]'(by (try simp only [List.length_set]); rw [markBAt_len hk]; omega)).2.2) : B3)).set k (((((markBAt xs m k).set k (((m + 3 * (↑k : Int)), ((markBAt xs m k)[k]'(by (try simp only [List.length_set]); rw [markBAt_len hk]; omega)).2.1, ((markBAt xs m k)[k]'(by (try simp only [List.length_set]); rw [markBAt_len hk]; omega)).2.2) : B3))[k]'(by (try simp only [List.length_set]); rw [markBAt_len hk]; omega)).1, ((m + 3 * (↑k : Int)) + (1 : Int)), (((markBAt xs m k).set k (((m + 3 * (↑k : Int)), ((markBAt xs m k)[k]'(by (try simp only [List.length_set]); rw [markBAt_len hk]; omega)).2.1, ((markBAt xs m k)[k]'(by (try simp only [List.length_set]); rw [markBAt_len hk]; omega)).2.2) : B3))[k]'(by (try simp only [List.length_set]); rw [markBAt_len hk]; omega)).2.2) : B3))[k]'(by (try simp only [List.length_set]); rw [markBAt_len hk]; omega)).2.1, (((m + 3 * (↑k : Int)) + (1 : Int)) + (1 : Int))) : B3) rfl sz2 rfl rfl rfl rfl (by (try simp only [List.length_set]); rw [markBAt_len hk]; omega) (by decide) rfl rfl (by rfl)) ?_
    rintro _ _ rfl
    refine O.nil ?_
    refine X.next ?_
    refine V.region ?_
    refine O.p rfl rfl rfl (Pu.move rfl rfl) ?_
    refine O.p rfl rfl rfl (Pu.add64 rfl (by omega) rfl rfl rfl) ?_
    refine O.p rfl rfl rfl (Pu.assign rfl rfl) ?_
    refine O.nil ?_
    refine X.blockNormal ?_
    refine X.next ?_
    refine V.region ?_
    refine O.p rfl rfl rfl (Pu.move rfl rfl) ?_
    refine O.p rfl rfl rfl (Pu.add64 (r := 3) (by decide) (by decide) rfl rfl rfl) ?_
    refine O.p rfl rfl rfl (Pu.assign rfl rfl) ?_
    refine O.nil ?_
    refine X.again 0 ?_
    refine V.seq ?_
    refine V.seq ?_
    refine V.region ?_
    refine O.p rfl rfl rfl (Pu.move rfl rfl) ?_
    refine O.p rfl rfl rfl (Pu.isF (by decide) (Pu.lss rfl rfl rfl)) ?_
    refine O.nil ?_
    refine X.next ?_
    refine V.condF rfl ?_
    refine V.exit ?_
    refine X.thenExit ?_
    refine X.thenExit ?_
    refine X.blockHit ?_
    refine X.blockNormal ?_
    refine X.next ?_
    refine V.region ?_
    refine O.p rfl rfl rfl (Pu.move rfl rfl) ?_
    refine O.p rfl rfl rfl (Pu.add64 (r := ((k + 1 : Nat) : Int)) rfl (by omega) rfl rfl rfl) ?_
    refine O.p rfl rfl rfl (Pu.assign rfl rfl) ?_
    refine O.nil ?_
    exact X.back3 (k + 1) (by omega) (by omega) (Ent.cons rfl (Ent.cons' rfl (iv (by omega)) (Ent.nil _))) (Ent.cons (t := 0) rfl (Ent.cons (t := 4) rfl (Ent.nil _))) (Sub.cons 0 rfl (fun w F h => by have e : ((((markBAt xs m k).set k (((m + 3 * (↑k : Int)), ((markBAt xs m k)[k]'(by (try simp only [List.length_set]); rw [markBAt_len hk]; omega)).2.1, ((markBAt xs m k)[k]'(by (try simp only [List.length_set]); rw [markBAt_len hk]; omega)).2.2) : B3)).set k (((((markBAt xs m k).set k (((m + 3 * (↑k : Int)), ((markBAt xs m k)[k]'(by (try simp only [List.length_set]); rw [markBAt_len hk]; omega)).2.1, ((markBAt xs m k)[k]'(by (try simp only [List.length_set]); rw [markBAt_len hk]; omega)).2.2) : B3))[k]'(by (try simp only [List.length_set]); rw [markBAt_len hk]; omega)).1, ((m + 3 * (↑k : Int)) + (1 : Int)), (((markBAt xs m k).set k (((m + 3 * (↑k : Int)), ((markBAt xs m k)[k]'(by (try simp only [List.length_set]); rw [markBAt_len hk]; omega)).2.1, ((markBAt xs m k)[k]'(by (try simp only [List.length_set]); rw [markBAt_len hk]; omega)).2.2) : B3))[k]'(by (try simp only [List.length_set]); rw [markBAt_len hk]; omega)).2.2) : B3)).set k ((((((markBAt xs m k).set k (((m + 3 * (↑k : Int)), ((markBAt xs m k)[k]'(by (try simp only [List.length_set]); rw [markBAt_len hk]; omega)).2.1, ((markBAt xs m k)[k]'(by (try simp only [List.length_set]); rw [markBAt_len hk]; omega)).2.2) : B3)).set k (((((markBAt xs m k).set k (((m + 3 * (↑k : Int)), ((markBAt xs m k)[k]'(by (try simp only [List.length_set]); rw [markBAt_len hk]; omega)).2.1, ((markBAt xs m k)[k]'(by (try simp only [List.length_set]); rw [markBAt_len hk]; omega)).2.2) : B3))[k]'(by (try simp only [List.length_set]); rw [markBAt_len hk]; omega)).1, ((m + 3 * (↑k : Int)) + (1 : Int)), (((markBAt xs m k).set k (((m + 3 * (↑k : Int)), ((markBAt xs m k)[k]'(by (try simp only [List.length_set]); rw [markBAt_len hk]; omega)).2.1, ((markBAt xs m k)[k]'(by (try simp only [List.length_set]); rw [markBAt_len hk]; omega)).2.2) : B3))[k]'(by (try simp only [List.length_set]); rw [markBAt_len hk]; omega)).2.2) : B3))[k]'(by (try simp only [List.length_set]); rw [markBAt_len hk]; omega)).1, ((((markBAt xs m k).set k (((m + 3 * (↑k : Int)), ((markBAt xs m k)[k]'(by (try simp only [List.length_set]); rw [markBAt_len hk]; omega)).2.1, ((markBAt xs m k)[k]'(by (try simp only [List.length_set]); rw [markBAt_len hk]; omega)).2.2) : B3)).set k (((((markBAt xs m k).set k (((m + 3 * (↑k : Int)), ((markBAt xs m k)[k]'(by (try simp only [List.length_set]); rw [markBAt_len hk]; omega)).2.1, ((markBAt xs m k)[k]'(by (try simp only [List.length_set]); rw [markBAt_len hk]; omega)).2.2) : B3))[k]'(by (try simp only [List.length_set]); rw [markBAt_len hk]; omega)).1, ((m + 3 * (↑k : Int)) + (1 : Int)), (((markBAt xs m k).set k (((m + 3 * (↑k : Int)), ((markBAt xs m k)[k]'(by (try simp only [List.length_set]); rw [markBAt_len hk]; omega)).2.1, ((markBAt xs m k)[k]'(by (try simp only [List.length_set]); rw [markBAt_len hk]; omega)).2.2) : B3))[k]'(by (try simp only [List.length_set]); rw [markBAt_len hk]; omega)).2.2) : B3))[k]'(by (try simp only [List.length_set]); rw [markBAt_len hk]; omega)).2.1, (((m + 3 * (↑k : Int)) + (1 : Int)) + (1 : Int))) : B3)) = markBAt xs m (k + 1) := (by rw [← markBAt_set (m := m) (k := k) (by omega)]; simp only [List.set_set, List.getElem_set_self]; congr 1; refine Prod.ext ?_ (Prod.ext ?_ ?_) <;> dsimp only <;> omega); exact e ▸ h) (Sub.refl _))
  · skip
    refine V.exit ?_
    refine X.thenExit ?_
    refine X.thenExit ?_
    refine X.blockHit ?_
    refine X.next ?_
    refine V.seq ?_
    refine V.region ?_
    refine O.p rfl rfl rfl (Pu.move rfl rfl) ?_
    refine O.p rfl rfl rfl (Pu.assign rfl rfl) ?_
    refine O.nil ?_
    refine X.next ?_
    refine V.ret ?_
    refine X.ret1 rfl rfl ?_
    exact fun w hw => St.addPur (iv (by omega)) (hw.sub (Sub.cons 0 rfl (fun w F h => by rw [markBAt_all (by omega)] at h; exact h) (Sub.refl _)))
set_option maxRecDepth 100000 in
theorem markSystemX_ok (p : Int) (xs : List B3) (m : Int) (A : Option Addr) (c : Nat) (w0 : World) (H : List Assn) (hm : 0 ≤ m ∧ m ≤ 1152921504606846976) (lx : xs.length ≤ 1099511627776) : Does Try.prog 25 [.agg #[.int .i64 p, .slice A xs.length c], .int .i64 m] w0 (Own 75 B3C A c xs :: H) (fun v => .pur (v = .int .i64 (m + 3 * xs.length)) :: Own 75 B3C A c (marksB m xs.length) :: H) := by
  refine Does.enter Try.func25 rfl rfl [(0, .agg #[.int .i64 p, .slice A xs.length c]), (1, .int .i64 m)] rfl ?_
  refine V.seq ?_
  refine V.region ?_
  refine O.e rfl rfl rfl (Ef.box rfl rfl rfl) ?_
  rintro _ _ ⟨b1, rfl, rfl⟩
  refine O.p rfl rfl rfl (Pu.assign rfl rfl) ?_
  refine O.nil ?_
  refine X.next ?_
  refine V.seq ?_
  refine V.region ?_
  refine O.p rfl rfl rfl (Pu.fieldAddr 1 rfl Try.underlying30 rfl sz28 rfl rfl) ?_
  refine O.p rfl rfl rfl (Pu.load rfl pl28 rfl (Ld.blk 0 rfl rfl)) ?_
  refine O.p rfl rfl rfl (Pu.move rfl rfl) ?_
  refine O.e rfl rfl rfl (Ef.callM 1 call78 rfl rfl rfl (fun H _ => markBlockX_ok _ _ _ _ _ H (by omega) (by omega))) ?_
  rintro _ _ ⟨rfl, rfl⟩
  refine O.p rfl rfl rfl (Pu.assign rfl rfl) ?_
  refine O.nil ?_
  refine X.next ?_
  refine V.seq ?_
  refine V.region ?_
  refine O.p rfl rfl rfl (Pu.move rfl rfl) ?_
  refine O.p rfl rfl rfl (Pu.assign rfl rfl) ?_
  refine O.nil ?_
  refine X.next ?_
  refine V.ret ?_
  refine X.ret1 rfl rfl ?_
  exact fun w hw => St.addPur rfl (hw.sub (Sub.keep 1 rfl (Sub.drop (Sub.refl _))))
theorem setHasI_ok (m : Nat) (p : Int) (w : World) (hm : m < 32768) (hp : 0 ≤ p ∧ p ≤ 62) : Does Try.prog 157 [.int .u64 (m : Int), .int .i64 p] w [] (fun v => [.pur (v = .bool (decide (m.testBit p.toNat = true)))]) := by
  obtain ⟨q, rfl⟩ := Int.eq_ofNat_of_zero_le hp.1
  exact setHas_ok m q w hm (by omega)
set_option maxRecDepth 100000 in
set_option maxHeartbeats 1000000 in
theorem isSubsystem_ok (v : Int) (bs : List B3) (g : Nat) (G : Int → Int → Int) (s : Nat) (w : World) (hg : GridAt w g G 222) (hS : STS v bs) (hG : G = tab bs) (hs : s < 32768) : Does Try.prog 120 [.pointer (some ⟨g, 0, none⟩), .int .u64 (s : Int)] w [] (fun r => [.pur (r = .bool (decide (3 ≤ ones s ∧ SubQ bs s)))]) := by
  refine Does.enter Try.func120 rfl rfl [(0, .pointer (some ⟨g, 0, none⟩)), (1, .int .u64 (s : Int))] rfl ?_
  refine V.seq ?_
  refine V.region ?_
  refine O.p rfl rfl rfl (Pu.assign rfl rfl) ?_
  refine O.nil ?_
  refine X.next ?_
  refine V.seq ?_
  refine V.region ?_
  refine O.p rfl rfl rfl (Pu.move rfl rfl) ?_
  refine O.e rfl rfl rfl (Ef.call1 call90 rfl rfl (fun w hw => list_ok s w (by omega))) ?_
  rintro _ _ rfl
  refine O.exi (fun p1 => ?_)
  refine O.sep ?_
  refine O.pur ?_
  rintro ⟨rfl, hp1⟩
  have hpl := pts_len s
  rw [← hp1] at hpl
  have hps : p1.2.Pairwise (· < ·) := by rw [hp1]; exact pts_lt s
  refine O.p rfl rfl rfl (Pu.assign rfl rfl) ?_
  refine O.nil ?_
  refine X.next ?_
  refine V.seq ?_
  refine V.seq ?_
  refine V.region ?_
  refine O.p rfl rfl rfl (Pu.move rfl rfl) ?_
  refine O.p rfl rfl rfl (Pu.len rfl Try.underlying43 rfl) ?_
  refine O.p rfl rfl rfl (Pu.move rfl rfl) ?_
  refine O.nil ?_
  refine X.next ?_
  refine V.block ?_
  refine V.loop3 (β := Nat) (fun i => [(15, .int .i64 (i : Int))]) _ (fun i => []) _ (fun i => i ≤ p1.2.length ∧ SubI bs s i 0) (fun i => p1.2.length - i) 0 ⟨by omega, subI_zero⟩ (Ent.cons rfl (Ent.nil _)) (Ent.cons (t := 0) rfl (Ent.cons (t := 1) rfl (Ent.cons (t := 5) rfl (Ent.cons (t := 13) rfl (Ent.cons (t := 14) rfl (Ent.nil _)))))) (Sub.keep 0 rfl (Sub.nil _)) ?_
  rintro i ⟨hi, hq1⟩
  refine V.seq ?_
  refine V.region ?_
  refine O.p rfl rfl rfl (Pu.lss rfl rfl rfl) ?_
  refine O.nil ?_
  refine X.next ?_
  refine V.seq ?_
  refine V.condD rfl (fun c1 => ?_) (fun c1 => ?_)
  · skip
    refine V.skip ?_
    refine X.next ?_
    refine V.seq ?_
    refine V.block ?_
    refine V.seq ?_
    refine V.region ?_
    refine O.p rfl rfl rfl (Pu.move rfl rfl) ?_
    refine O.p rfl rfl rfl (Pu.indexAddrS (i) rfl Try.underlying43 sz2 rfl rfl (by omega) (by omega) (fun w hw => Own.some hw (i := 0) (by exact rfl) (by omega))) ?_
    have e1 : i < p1.2.length := by omega
    refine O.p rfl rfl rfl (Pu.load rfl pl2 rfl (Ld.rd (Ld.own 0 (by exact rfl)) (k := i) e1 rfl rfl)) ?_
    refine O.p rfl rfl rfl (Pu.assign rfl rfl) ?_
    refine O.p rfl rfl rfl (Pu.assign rfl rfl) ?_
    refine O.nil ?_
    refine X.next ?_
    refine V.seq ?_
    refine V.fact (fun w hw => Own.cap hw (i := 0) rfl) (fun hcap => ?_)
    refine V.region ?_
    refine O.p rfl rfl rfl (Pu.move rfl rfl) ?_
    refine O.p rfl rfl rfl (Pu.move rfl rfl) ?_
    refine O.p rfl rfl rfl (Pu.sliceH i rfl Try.underlying43 sz2 rfl rfl (by omega) (by omega)) ?_
    refine O.p rfl rfl rfl (Pu.len rfl Try.underlying43 rfl) ?_
    refine O.p rfl rfl rfl (Pu.move rfl rfl) ?_
    refine O.nil ?_
    refine X.next ?_
    refine V.block ?_
    refine V.loop3 (β := Nat) (fun j => [(24, .int .i64 (j : Int))]) _ (fun j => []) _ (fun j => j ≤ i ∧ SubI bs s i j) (fun j => i - j) 0 ⟨by omega, hq1⟩ (Ent.cons rfl (Ent.nil _)) (Ent.cons (t := 0) rfl (Ent.cons (t := 1) rfl (Ent.cons (t := 5) rfl (Ent.cons (t := 7) rfl (Ent.cons (t := 13) rfl (Ent.cons (t := 14) rfl (Ent.cons (t := 15) rfl (Ent.cons (t := 22) rfl (Ent.cons (t := 23) rfl (Ent.nil _)))))))))) (Sub.keep 0 rfl (Sub.nil _)) ?_
    rintro j ⟨hj, hq2⟩
    have htk : (p1.2.take i).length = i := by rw [List.length_take]; omega
    refine V.seq ?_
    refine V.region ?_
    refine O.p rfl rfl rfl (Pu.lss rfl rfl rfl) ?_
    refine O.nil ?_
    refine X.next ?_
    refine V.seq ?_
    refine V.condD rfl (fun c2 => ?_) (fun c2 => ?_)
    · skip
      refine V.skip ?_
      refine X.next ?_
      refine V.seq ?_
      refine V.block ?_
      refine V.seq ?_
      refine V.region ?_
      refine O.p rfl rfl rfl (Pu.indexAddrS (j) rfl Try.underlying43 sz2 rfl rfl (by omega) (by omega) (fun w hw => ((Ld.takeK (C := I64) (k := i) (Ld.own 0 (by exact rfl))) w hw).some (by omega))) ?_
      have e2 : j < (p1.2.take i).length := by omega
      refine O.p rfl rfl rfl (Pu.load rfl pl2 rfl (Ld.rd (Ld.takeK (C := I64) (k := i) (Ld.own 0 (by exact rfl))) (k := j) e2 rfl rfl)) ?_
      refine O.p rfl rfl rfl (Pu.assign rfl rfl) ?_
      refine O.nil ?_
      refine X.next ?_
      refine V.seq ?_
      have mi : (p1.2[i]'e1) ∈ pts s := by rw [← hp1]; exact List.getElem_mem _
      have dj : ((p1.2.take i)[j]'e2) = p1.2[j]'(by omega) := List.getElem_take
      have mj : ((p1.2.take i)[j]'e2) ∈ pts s := by rw [dj, ← hp1]; exact List.getElem_mem _
      have pi := mem_pts.1 mi
      have pj := mem_pts.1 mj
      have hlt := List.pairwise_iff_getElem.1 hps j i (by omega) e1 (by omega)
      rw [← dj] at hlt
      have tp := tab_pair (s := s) hS (x := (p1.2[i]'e1)) (y := ((p1.2.take i)[j]'e2)) (by omega) mi mj
      have tb := tab_bd hS (x := (p1.2[i]'e1)) (y := ((p1.2.take i)[j]'e2)) (by omega)
      rw [← hG] at tp tb
      have gdi : (pts s).getD i 0 = (p1.2[i]'e1) := by rw [← hp1, getD_at e1]
      have gdj : (pts s).getD j 0 = ((p1.2.take i)[j]'e2) := by rw [dj, ← hp1, getD_at (by omega)]
      refine V.region ?_
      refine O.p rfl rfl rfl (Pu.move rfl rfl) ?_
      refine O.p rfl rfl rfl (Pu.move rfl rfl) ?_
      refine O.p rfl rfl rfl (Pu.move rfl rfl) ?_
      refine O.p rfl rfl rfl (Pu.nilCheck rfl rfl) ?_
      refine O.p rfl rfl rfl (Pu.indexArr (((p1.2[i]'e1)).toNat) (0 + ((p1.2[i]'e1)).toNat * 15) rfl Try.underlying222 sz176 rfl rfl (by omega) (by omega) rfl) ?_
      refine O.p rfl rfl rfl (Pu.indexArr ((((p1.2.take i)[j]'e2)).toNat) (0 + ((p1.2[i]'e1)).toNat * 15 + (((p1.2.take i)[j]'e2)).toNat * 1) rfl Try.underlying176 sz2 rfl rfl (by omega) (by omega) rfl) ?_
      refine O.p rfl rfl rfl (Pu.load rfl pl2 rfl (Ld.gridOld (x := (p1.2[i]'e1)) (y := ((p1.2.take i)[j]'e2)) hg (by omega) (by omega) (by omega))) ?_
      refine O.p rfl rfl rfl (Pu.assign rfl rfl) ?_
      refine O.nil ?_
      refine X.next ?_
      refine V.seq ?_
      refine V.region ?_
      refine O.p rfl rfl rfl (Pu.move rfl rfl) ?_
      refine O.p rfl rfl rfl (Pu.eql rfl rfl rfl) ?_
      refine O.p rfl rfl rfl (Pu.move rfl rfl) ?_
      refine O.splitD 37 rfl (fun c3 => ?_) (fun c3 => ?_)
      · skip
        refine O.gs rfl rfl rfl rfl rfl rfl ?_
        refine O.gs rfl rfl rfl rfl rfl rfl ?_
        refine O.gs rfl rfl rfl rfl rfl rfl ?_
        refine O.gs rfl rfl rfl rfl rfl rfl ?_
        refine O.p rfl rfl rfl (Pu.pickT rfl rfl rfl) ?_
        refine O.nil ?_
        refine X.next ?_
        refine V.condT rfl ?_
        refine V.seq ?_
        refine V.region ?_
        refine O.p rfl rfl rfl (Pu.assign rfl rfl) ?_
        refine O.nil ?_
        refine X.next ?_
        refine V.ret ?_
        refine X.blockRet ?_
        refine X.thenRet ?_
        refine X.thenRet ?_
        refine X.blockRet ?_
        refine X.blockRet ?_
        refine X.thenRet ?_
        refine X.thenRet ?_
        refine X.blockRet ?_
        refine X.thenRet ?_
        refine X.ret1 rfl rfl ?_
        exact fun w hw => St.retP (boolF (fun h => subI_not (a := j) (b := i) (by omega) (by rw [← hp1]; omega) (by rw [gdi, gdj]; exact fun q => (tp.1 q).1 c3) h.2)) hw
      · skip
        have tb2 := tb c3
        refine O.gp rfl rfl rfl rfl rfl (Pu.move rfl rfl) ?_
        refine O.gp rfl rfl rfl rfl rfl (Pu.move rfl rfl) ?_
        refine O.ge rfl rfl rfl rfl rfl (Ef.callP call157 rfl rfl (fun w hw => setHasI_ok _ _ w (by omega) (by omega))) ?_
        rintro _ _ ⟨rfl, rfl⟩
        refine O.gp rfl rfl rfl rfl rfl (Pu.not rfl rfl) ?_
        refine O.p rfl rfl rfl (Pu.pickF rfl rfl rfl) ?_
        refine O.nil ?_
        refine X.next ?_
        refine V.condNot rfl (fun c4 => ?_) (fun c4 => ?_)
        · skip
          refine V.seq ?_
          refine V.region ?_
          refine O.p rfl rfl rfl (Pu.assign rfl rfl) ?_
          refine O.nil ?_
          refine X.next ?_
          refine V.ret ?_
          refine X.blockRet ?_
          refine X.thenRet ?_
          refine X.thenRet ?_
          refine X.blockRet ?_
          refine X.blockRet ?_
          refine X.thenRet ?_
          refine X.thenRet ?_
          refine X.blockRet ?_
          refine X.thenRet ?_
          refine X.ret1 rfl rfl ?_
          exact fun w hw => St.retP (boolF (fun h => subI_not (a := j) (b := i) (by omega) (by rw [← hp1]; omega) (by rw [gdi, gdj]; exact fun q => c4 (tp.1 q).2) h.2)) hw
        · skip
          refine V.skip ?_
          refine X.blockNormal ?_
          refine X.next ?_
          refine V.region ?_
          refine O.p rfl rfl rfl (Pu.add64 (r := ((j + 1 : Nat) : Int)) rfl (by omega) rfl rfl rfl) ?_
          refine O.p rfl rfl rfl (Pu.move rfl rfl) ?_
          refine O.nil ?_
          exact X.back3 (j + 1) ⟨by omega, subI_step hq2 (by rw [gdi, gdj]; exact tp.2 ⟨c3, c4⟩)⟩ (by first | omega | (dsimp only; omega)) (Ent.cons rfl (Ent.nil _)) (Ent.cons (t := 0) rfl (Ent.cons (t := 1) rfl (Ent.cons (t := 5) rfl (Ent.cons (t := 7) rfl (Ent.cons (t := 13) rfl (Ent.cons (t := 14) rfl (Ent.cons (t := 15) rfl (Ent.cons (t := 22) rfl (Ent.cons (t := 23) rfl (Ent.nil _)))))))))) (Sub.keep 0 rfl (Sub.nil _))
    · skip
      refine V.exit ?_
      refine X.thenExit ?_
      refine X.thenExit ?_
      refine X.blockHit ?_
      refine X.blockNormal ?_
      refine X.next ?_
      refine V.region ?_
      refine O.p rfl rfl rfl (Pu.add64 (r := ((i + 1 : Nat) : Int)) rfl (by omega) rfl rfl rfl) ?_
      refine O.p rfl rfl rfl (Pu.move rfl rfl) ?_
      refine O.nil ?_
      exact X.back3 (i + 1) ⟨by omega, subI_row hq2 (by omega)⟩ (by first | omega | (dsimp only; omega)) (Ent.cons rfl (Ent.nil _)) (Ent.cons (t := 0) rfl (Ent.cons (t := 1) rfl (Ent.cons (t := 5) rfl (Ent.cons (t := 13) rfl (Ent.cons (t := 14) rfl (Ent.nil _)))))) (Sub.keep 0 rfl (Sub.nil _))
  · skip
    refine V.exit ?_
    refine X.thenExit ?_
    refine X.thenExit ?_
    refine X.blockHit ?_
    refine X.next ?_
    refine V.seq ?_
    refine V.region ?_
    refine O.p rfl rfl rfl (Pu.move rfl rfl) ?_
    refine O.p rfl rfl rfl (Pu.len rfl Try.underlying43 rfl) ?_
    refine O.p rfl rfl rfl (Pu.geq rfl rfl rfl) ?_
    refine O.p rfl rfl rfl (Pu.assign rfl rfl) ?_
    refine O.nil ?_
    refine X.next ?_
    refine V.ret ?_
    refine X.ret1 rfl rfl ?_
    exact fun w hw => St.retP (boolD (by rw [← pts_ones hs, ← hp1]; exact ⟨fun h => ⟨by omega, (subI_all (by rw [← hp1]; omega)).1 hq1⟩, fun h => by omega⟩)) hw
set_option maxRecDepth 100000 in
set_option maxHeartbeats 1000000 in
theorem subs1_ok (a : List Int) (b : List Int) (aA : Option Addr) (ac : Nat) (bA : Option Addr) (bc : Nat) (w : World) (ha : Rd I64 w aA a) (hb : Rd I64 w bA b) (la : a.length ≤ 1099511627776) (lb : b.length ≤ 1099511627776) : Does Try.prog 122 [.slice aA a.length ac, .slice bA b.length bc] w [] (fun r => [.pur (r = .int .i64 (cfB a b))]) := by
  refine Does.enter Try.func122 rfl rfl [(0, .slice aA a.length ac), (1, .slice bA b.length bc)] rfl ?_
  refine V.seq ?_
  refine V.region ?_
  refine O.p rfl rfl rfl (Pu.assign rfl rfl) ?_
  refine O.nil ?_
  refine X.next ?_
  refine V.seq ?_
  refine V.seq ?_
  refine V.region ?_
  refine O.p rfl rfl rfl (Pu.move rfl rfl) ?_
  refine O.p rfl rfl rfl (Pu.len rfl Try.underlying43 rfl) ?_
  refine O.p rfl rfl rfl (Pu.move rfl rfl) ?_
  refine O.p rfl rfl rfl (Pu.len rfl Try.underlying43 rfl) ?_
  refine O.p rfl rfl rfl (Pu.neq rfl rfl rfl) ?_
  refine O.nil ?_
  refine X.next ?_
  refine V.condNot rfl (fun c1 => ?_) (fun c1 => ?_)
  · skip
    refine V.seq ?_
    refine V.region ?_
    refine O.p rfl rfl rfl (Pu.move rfl rfl) ?_
    refine O.p rfl rfl rfl (Pu.len rfl Try.underlying43 rfl) ?_
    refine O.p rfl rfl rfl (Pu.move rfl rfl) ?_
    refine O.p rfl rfl rfl (Pu.len rfl Try.underlying43 rfl) ?_
    refine O.p rfl rfl rfl (Pu.sub64 rfl (by omega) rfl rfl rfl) ?_
    refine O.p rfl rfl rfl (Pu.assign rfl rfl) ?_
    refine O.nil ?_
    refine X.next ?_
    refine V.ret ?_
    refine X.thenRet ?_
    refine X.ret1 rfl rfl ?_
    exact fun w hw => St.retP (iv (by unfold cfB; rw [if_pos c1])) hw
  · skip
    refine V.skip ?_
    refine X.next ?_
    refine V.seq ?_
    refine V.region ?_
    refine O.p rfl rfl rfl (Pu.move rfl rfl) ?_
    refine O.p rfl rfl rfl (Pu.move rfl rfl) ?_
    refine O.e rfl rfl rfl (Ef.callP call91 rfl rfl (fun w hw => slicesCompare_ok a b _ _ _ _ w ((Ld.old ha) w hw) ((Ld.old hb) w hw) (by first | omega | (simp [bl]; done)) (by first | omega | (simp [bl]; done)))) ?_
    rintro _ _ ⟨rfl, rfl⟩
    refine O.p rfl rfl rfl (Pu.assign rfl rfl) ?_
    refine O.nil ?_
    refine X.next ?_
    refine V.ret ?_
    refine X.ret1 rfl rfl ?_
    exact fun w hw => St.retP (iv (by unfold cfB; rw [if_neg (fun h => h c1)])) hw
def layR_ren : Go.Shelf.Ren := ⟨fun | 6 => 121 | 15 => 184 | 14 => 183 | 28 => 223 | 29 => 224 | 20 => 215 | 21 => 216 | 22 => 217 | 23 => 218 | 24 => 219 | 25 => 220 | 26 => 221 | 27 => 222 | 46 => 245 | 47 => 246 | 48 => 247 | 49 => 248 | 50 => 249 | 57 => 254 | n => n, fun | 22 => 34 | 24 => 43 | 25 => 103 | 3 => 3 | 39 => 97 | 0 => 0 | 53 => 152 | 55 => 115 | 4 => 4 | 46 => 201 | 45 => 200 | 50 => 205 | 5 => 5 | 9 => 9 | 66 => 223 | 70 => 227 | 76 => 232 | 77 => 233 | n => n, fun | n => n⟩
theorem layR : SlLaysF.n6 Try.prog layR_ren where
  mixed := by kernel_rfl
  f6 := ⟨Try.f121.name, by decide, Try.func121.trans (congrArg some (by kernel_rfl))⟩
  f14 := ⟨Try.f183.name, by decide, Try.func183.trans (congrArg some (by kernel_rfl))⟩
  f15 := Try.func184.trans (congrArg some (by kernel_rfl))
  f20 := ⟨Try.f215.name, by decide, Try.func215.trans (congrArg some (by kernel_rfl))⟩
  f21 := ⟨Try.f216.name, by decide, Try.func216.trans (congrArg some (by kernel_rfl))⟩
  f22 := ⟨Try.f217.name, by decide, Try.func217.trans (congrArg some (by kernel_rfl))⟩
  f23 := ⟨Try.f218.name, by decide, Try.func218.trans (congrArg some (by kernel_rfl))⟩
  f24 := ⟨Try.f219.name, by decide, Try.func219.trans (congrArg some (by kernel_rfl))⟩
  f25 := ⟨Try.f220.name, by decide, Try.func220.trans (congrArg some (by kernel_rfl))⟩
  f26 := ⟨Try.f221.name, by decide, Try.func221.trans (congrArg some (by kernel_rfl))⟩
  f27 := ⟨Try.f222.name, by decide, Try.func222.trans (congrArg some (by kernel_rfl))⟩
  f28 := Try.func223.trans (congrArg some (by kernel_rfl))
  f29 := Try.func224.trans (congrArg some (by kernel_rfl))
  f46 := ⟨Try.f245.name, by decide, Try.func245.trans (congrArg some (by kernel_rfl))⟩
  f47 := Try.func246.trans (congrArg some (by kernel_rfl))
  f48 := Try.func247.trans (congrArg some (by kernel_rfl))
  f49 := ⟨Try.f248.name, by decide, Try.func248.trans (congrArg some (by kernel_rfl))⟩
  f50 := ⟨Try.f249.name, by decide, Try.func249.trans (congrArg some (by kernel_rfl))⟩
  f57 := ⟨Try.f254.name, by decide, Try.func254.trans (congrArg some (by kernel_rfl))⟩
  t0 := Try.underlying0
  a0 := Try.isAgg0
  z0 := Try.sizeOf0
  v0 := Try.zeroValue0
  t3 := Try.underlying3
  a3 := Try.isAgg3
  z3 := Try.sizeOf3
  v3 := Try.zeroValue3
  t4 := Try.underlying4
  a4 := Try.isAgg4
  z4 := Try.sizeOf4
  v4 := Try.zeroValue4
  t5 := Try.underlying5
  a5 := Try.isAgg5
  z5 := Try.sizeOf5
  v5 := Try.zeroValue5
  t9 := Try.underlying9
  a9 := Try.isAgg9
  z9 := Try.sizeOf9
  v9 := Try.zeroValue9
  t22 := Try.underlying34
  a22 := Try.isAgg34
  z22 := Try.sizeOf34
  v22 := Try.zeroValue34
  a24 := Try.isAgg43
  z24 := Try.sizeOf43
  t25 := Try.underlying103
  a25 := Try.isAgg103
  z25 := Try.sizeOf103
  v25 := Try.zeroValue103
  t39 := Try.underlying97
  a39 := Try.isAgg97
  z39 := Try.sizeOf97
  v39 := Try.zeroValue97
  t45 := Try.underlying200
  a45 := Try.isAgg200
  z45 := Try.sizeOf200
  v45 := Try.zeroValue200
  t46 := Try.underlying201
  a46 := Try.isAgg201
  z46 := Try.sizeOf201
  v46 := Try.zeroValue201
  t50 := Try.underlying205
  a50 := Try.isAgg205
  z50 := Try.sizeOf205
  v50 := Try.zeroValue205
  t53 := Try.underlying152
  a53 := Try.isAgg152
  z53 := Try.sizeOf152
  v53 := Try.zeroValue152
  t55 := Try.underlying115
  a55 := Try.isAgg115
  z55 := Try.sizeOf115
  v55 := Try.zeroValue115
  t66 := Try.underlying223
  a66 := Try.isAgg223
  z66 := Try.sizeOf223
  v66 := Try.zeroValue223
  t70 := Try.underlying227
  a70 := Try.isAgg227
  z70 := Try.sizeOf227
  v70 := Try.zeroValue227
  t76 := Try.underlying232
  a76 := Try.isAgg232
  z76 := Try.sizeOf232
  v76 := Try.zeroValue232
  t77 := Try.underlying233
  a77 := Try.isAgg233
  z77 := Try.sizeOf233
  v77 := Try.zeroValue233
theorem sortRS_ok (s : List (Sl × List Int)) (sA : Option Addr) (sc : Nat) (w0 : World) (H : List Assn) (ls : s.length ≤ 1099511627776) (hl : ∀ q ∈ conts s, q.length ≤ 1000) : Does Try.prog 121 [.slice sA (tops s).length sc, .func (.func 122) #[] #[]] w0 (Own 43 SlC sA sc (tops s) :: RowsA 2 I64 s :: H) (fun v => [.exi fun ys : List (Sl × List Int) => .sep (.pur (v = .tuple #[] ∧ ys.Perm s ∧ (conts ys).Pairwise fun x y => ¬ cfB y x < 0)) (.sep (Own 43 SlC sA sc (tops ys)) (RowsA 2 I64 ys))] ++ H) :=
  sortRows_does layR cfB swoQ call122 (fun W x y hx hy hW h1 h2 l1 l2 => subs1_ok x.2 y.2 _ _ _ _ W h1 h2 (by have := hl _ (List.mem_map_of_mem hx); omega) (by have := hl _ (List.mem_map_of_mem hy); omega)) (by omega)
set_option maxRecDepth 100000 in
set_option maxHeartbeats 1000000 in
theorem implSubsystems_ok (v : Int) (bs : List B3) (A : Option Addr) (c : Nat) (w : World) (hx : Rd B3C w A bs) (lx : bs.length ≤ 4611686018427387904) : Does Try.prog 53 [.agg #[.int .i64 v, .slice A bs.length c]] w [] (fun r => [.exi fun (pA : Option Addr) => .exi fun (pc : Nat) => .exi fun (p : List (Sl × List Int)) => .sep (.pur (r = .tuple #[.slice pA (tops p).length pc, .int .i64 (if STS v bs then 0 else 1)] ∧ SubR v bs (conts p))) (.sep (Own 43 SlC pA pc (tops p)) (RowsA 2 I64 p))]) := by
  refine Does.enter Try.func53 rfl rfl [(0, .agg #[.int .i64 v, .slice A bs.length c])] rfl ?_
  refine V.seq ?_
  refine V.region ?_
  refine O.e rfl rfl rfl (Ef.box rfl rfl rfl) ?_
  rintro _ _ ⟨b1, rfl, rfl⟩
  refine O.p rfl rfl rfl (Pu.assign rfl rfl) ?_
  refine O.p rfl rfl rfl (Pu.assign rfl rfl) ?_
  refine O.nil ?_
  refine X.next ?_
  refine V.seq ?_
  refine V.seq ?_
  refine V.region ?_
  refine O.p rfl rfl rfl (Pu.loadAgg rfl ag30 sz30 rfl rfl (Ld.whole 0 rfl)) ?_
  refine O.e rfl rfl rfl (Ef.callP call72 rfl rfl (fun w hw => IsSystem_ok _ bs _ _ w ((Ld.old hx) w hw) (by omega))) ?_
  rintro _ _ ⟨rfl, rfl⟩
  refine O.p rfl rfl rfl (Pu.not rfl rfl) ?_
  refine O.nil ?_
  refine X.next ?_
  refine V.condNot rfl (fun c1 => ?_) (fun c1 => ?_)
  · skip
    refine V.seq ?_
    refine V.region ?_
    refine O.p rfl rfl rfl (Pu.assign rfl rfl) ?_
    refine O.p rfl rfl rfl (Pu.assign rfl rfl) ?_
    refine O.nil ?_
    refine X.next ?_
    refine V.ret ?_
    refine X.thenRet ?_
    refine X.ret2 rfl rfl rfl ?_
    exact fun w hw => St.mkExi none (St.mkExi 0 (St.mkExi [] (St.unsep (St.addPur ⟨(by rw [if_neg c1]; rfl), (by exact ⟨fun h => absurd h c1, fun _ => rfl⟩)⟩ (St.unsep (St.addNil (T := 43) (C := SlC) (RowsA.nil (T := 2) (C := I64) (hw.sub (Sub.nil _)))))))))
  · skip
    have hlo := c1.lo
    have hhi := c1.hi
    have hfew := c1.few
    have hg : ∀ b ∈ bs, good 15 b := fun b h => (c1.good b h).mono c1.hi
    have hpw : 2 ^ v.toNat ≤ 2 ^ 15 := Nat.pow_le_pow_right (by decide) (by omega)
    have hpw0 := Nat.two_pow_pos v.toNat
    refine V.skip ?_
    refine X.next ?_
    refine V.seq ?_
    refine V.region ?_
    refine O.p rfl rfl rfl (Pu.loadAgg rfl ag30 sz30 rfl rfl (Ld.whole 0 rfl)) ?_
    refine O.e rfl rfl rfl (Ef.call1 call117 rfl rfl (fun w hw => sysGrid_ok  v bs _ _ w ((Ld.old hx) w hw) (by first | omega | (simp only [tops_len, conts_len, bl, List.length_append, List.length_cons, List.length_nil] at *; omega)) hg c1.fits)) ?_
    rintro _ _ rfl
    refine O.exi (fun g1 => ?_)
    refine O.sep ?_
    refine O.pur ?_
    rintro rfl
    refine O.p rfl rfl rfl (Pu.assign rfl rfl) ?_
    refine O.nil ?_
    refine X.next ?_
    refine V.seq ?_
    refine V.region ?_
    refine O.p rfl rfl rfl (Pu.assign rfl rfl) ?_
    refine O.nil ?_
    refine X.next ?_
    refine V.seq ?_
    refine V.seq ?_
    refine V.region ?_
    refine O.p rfl rfl rfl (Pu.assign rfl rfl) ?_
    refine O.nil ?_
    refine X.next ?_
    refine V.block ?_
    refine V.map (fun w hw => St.addNil (T := 43) (C := SlC) (RowsA.nil (T := 2) (C := I64) hw)) ?_
    refine V.loop3 (β := (Option Addr) × Nat × (List (Sl × List Int)) × Nat) (fun x => [(5, .slice x.1 (tops x.2.2.1).length x.2.1), (6, .int .u64 (x.2.2.2 : Int))]) _ (fun x => [Own 43 SlC x.1 x.2.1 (tops x.2.2.1), RowsA 2 I64 x.2.2.1]) _ (fun x => x.2.2.2 ≤ 2 ^ v.toNat ∧ conts x.2.2.1 = subsL bs x.2.2.2 ∧ x.2.2.1.length ≤ x.2.2.2) (fun x => 2 ^ v.toNat - x.2.2.2) (none, 0, [], 0) (by (try dsimp only); exact ⟨by omega, rfl, by simp⟩) (Ent.cons rfl (Ent.cons rfl (Ent.nil _))) (Ent.cons (t := 1) rfl (Ent.cons (t := 4) rfl (Ent.nil _))) (Sub.keep 0 rfl (Sub.keep 0 rfl (Sub.keep 0 rfl (Sub.keep 0 rfl (Sub.nil _))))) ?_
    rintro ⟨outA, outc, out, s⟩ ⟨hs, ho, hl⟩
    dsimp only at hs ho hl ⊢
    refine V.fact (RowsA.len 1 rfl) (fun hn_out => ?_)
    have htl_out := tops_len out
    refine V.seq ?_
    refine V.seq ?_
    refine V.region ?_
    refine O.p rfl rfl rfl (Pu.move rfl rfl) ?_
    refine O.p rfl rfl rfl (Pu.loadAgg rfl ag30 sz30 rfl rfl (Ld.whole 3 rfl)) ?_
    refine O.e rfl rfl rfl (Ef.callP call118 rfl rfl (fun w hw => setAll_ok _ bs _ _ w (by omega))) ?_
    rintro _ _ ⟨rfl, rfl⟩
    refine O.p rfl rfl rfl (Pu.leq rfl rfl rfl) ?_
    refine O.nil ?_
    refine X.next ?_
    refine V.condD rfl (fun c2 => ?_) (fun c2 => ?_)
    · skip
      refine V.skip ?_
      refine X.next ?_
      refine V.seq ?_
      refine V.block ?_
      refine V.seq ?_
      refine V.region ?_
      refine O.p rfl rfl rfl (Pu.move rfl rfl) ?_
      refine O.e rfl rfl rfl (Ef.callP call119 rfl rfl (fun w hw => size_ok s w (by omega))) ?_
      rintro _ _ ⟨rfl, rfl⟩
      refine O.p rfl rfl rfl (Pu.geq rfl rfl rfl) ?_
      refine O.p rfl rfl rfl (Pu.move rfl rfl) ?_
      refine O.splitD 21 rfl (fun c3 => ?_) (fun c3 => ?_)
      · skip
        refine O.gp rfl rfl rfl rfl rfl (Pu.move rfl rfl) ?_
        refine O.gp rfl rfl rfl rfl rfl (Pu.move rfl rfl) ?_
        refine O.ge rfl rfl rfl rfl rfl (Ef.callP call120 rfl rfl (fun w hw => isSubsystem_ok v bs _ (tab bs) s w (GridAt.of (i := 2) hw (by exact rfl))  c1 rfl (by omega))) ?_
        rintro _ _ ⟨rfl, rfl⟩
        refine O.p rfl rfl rfl (Pu.pickT rfl rfl rfl) ?_
        refine O.nil ?_
        refine X.next ?_
        refine V.condD rfl (fun c4 => ?_) (fun c4 => ?_)
        · skip
          refine V.region ?_
          refine O.p rfl rfl rfl (Pu.move rfl rfl) ?_
          refine O.p rfl rfl rfl (Pu.move rfl rfl) ?_
          refine O.e rfl rfl rfl (Ef.call1 call90 rfl rfl (fun w hw => list_ok s w (by omega))) ?_
          rintro _ _ rfl
          refine O.exi (fun p1 => ?_)
          refine O.sep ?_
          refine O.pur ?_
          rintro ⟨rfl, hp1⟩
          refine O.e rfl rfl rfl (Ef.build SlC ([⟨p1.1.1, p1.2.length, p1.1.2⟩] : List Sl) rfl Try.underlying34 inf43 rfl rfl rfl (by first | decide | (simp; done)) (by kernel_rfl)) ?_
          rintro _ _ ⟨A1, hA1, rfl, rfl⟩
          refine O.e rfl rfl rfl (Ef.append (xs := (tops out)) (ys := ([⟨p1.1.1, p1.2.length, p1.1.2⟩] : List Sl)) 2 rfl Try.underlying34 inf43 rfl rfl rfl rfl rfl rfl hA1 (Ld.own 0 (by exact rfl)) (by simp only [List.length_append, List.length_cons, List.length_nil] at *; omega) (by decide)) ?_
          rintro _ _ ⟨A2, k1, rfl, rfl, hA2⟩
          replace hA2 := hA2 (.inr (by simp))
          refine O.map (fun w hw => snoc_heap (ps := out) (xs := p1.2) (hw.sub (Sub.keep 2 rfl (Sub.keep 2 rfl (Sub.keep 1 rfl (Sub.keep 0 rfl (Sub.keep 0 rfl (Sub.keep 0 rfl (Sub.nil _))))))))) ?_
          refine O.p rfl rfl rfl (Pu.assign rfl rfl) ?_
          refine O.nil ?_
          refine X.blockNormal ?_
          refine X.next ?_
          refine V.region ?_
          refine O.p rfl rfl rfl (Pu.move rfl rfl) ?_
          refine O.p rfl rfl rfl (Pu.addN (m := s) (n := 1) K64.u (by omega) rfl rfl rfl) ?_
          refine O.p rfl rfl rfl (Pu.assign rfl rfl) ?_
          refine O.nil ?_
          exact X.back3 (A2, k1, (out ++ [((⟨p1.1.1, p1.2.length, p1.1.2⟩ : Sl), p1.2)]), (s + 1)) (by (try dsimp only); exact ⟨by omega, by rw [conts_append, ho, subsL_yes c4, ← hp1]; rfl, by simp only [List.length_append, List.length_singleton]; omega⟩) (by first | omega | (dsimp only; omega)) (Ent.cons' rfl (by first | rfl | (simp only [tops_append]; done) | (simp only [tops_append]; rfl)) (Ent.cons rfl (Ent.nil _))) (Ent.cons (t := 1) rfl (Ent.cons (t := 4) rfl (Ent.nil _))) (Sub.keep 0 rfl (Sub.keep 0 rfl (Sub.keep 1 rfl (Sub.keep 1 rfl (Sub.nil _)))))
        · skip
          refine V.skip ?_
          refine X.blockNormal ?_
          refine X.next ?_
          refine V.region ?_
          refine O.p rfl rfl rfl (Pu.move rfl rfl) ?_
          refine O.p rfl rfl rfl (Pu.addN (m := s) (n := 1) K64.u (by omega) rfl rfl rfl) ?_
          refine O.p rfl rfl rfl (Pu.assign rfl rfl) ?_
          refine O.nil ?_
          exact X.back3 (outA, outc, out, (s + 1)) (by (try dsimp only); exact ⟨by omega, by rw [subsL_no c4]; exact ho, by omega⟩) (by first | omega | (dsimp only; omega)) (Ent.cons' rfl (by first | rfl | (simp only [tops_append]; done) | (simp only [tops_append]; rfl)) (Ent.cons rfl (Ent.nil _))) (Ent.cons (t := 1) rfl (Ent.cons (t := 4) rfl (Ent.nil _))) (Sub.keep 0 rfl (Sub.keep 0 rfl (Sub.keep 0 rfl (Sub.keep 0 rfl (Sub.nil _)))))
      · skip
        refine O.gs rfl rfl rfl rfl rfl rfl ?_
        refine O.gs rfl rfl rfl rfl rfl rfl ?_
        refine O.gs rfl rfl rfl rfl rfl rfl ?_
        refine O.p rfl rfl rfl (Pu.pickF rfl rfl rfl) ?_
        refine O.nil ?_
        refine X.next ?_
        refine V.condF rfl ?_
        refine V.skip ?_
        refine X.blockNormal ?_
        refine X.next ?_
        refine V.region ?_
        refine O.p rfl rfl rfl (Pu.move rfl rfl) ?_
        refine O.p rfl rfl rfl (Pu.addN (m := s) (n := 1) K64.u (by omega) rfl rfl rfl) ?_
        refine O.p rfl rfl rfl (Pu.assign rfl rfl) ?_
        refine O.nil ?_
        exact X.back3 (outA, outc, out, (s + 1)) (by (try dsimp only); exact ⟨by omega, by rw [subsL_no (fun h => c3 (by omega))]; exact ho, by omega⟩) (by first | omega | (dsimp only; omega)) (Ent.cons' rfl (by first | rfl | (simp only [tops_append]; done) | (simp only [tops_append]; rfl)) (Ent.cons rfl (Ent.nil _))) (Ent.cons (t := 1) rfl (Ent.cons (t := 4) rfl (Ent.nil _))) (Sub.keep 0 rfl (Sub.keep 0 rfl (Sub.keep 0 rfl (Sub.keep 0 rfl (Sub.nil _)))))
    · skip
      refine V.exit ?_
      refine X.thenExit ?_
      refine X.thenExit ?_
      refine X.blockHit ?_
      refine X.next ?_
      refine V.seq ?_
      have h5 : ∀ q ∈ conts out, q.length ≤ 1000 := fun q hq => by have := subsL_small q (by rw [ho] at hq; exact hq); omega
      refine V.region ?_
      refine O.p rfl rfl rfl (Pu.move rfl rfl) ?_
      refine O.e rfl rfl rfl (Ef.call call121 rfl rfl (Does.pre (fun w hw => hw.sub (Sub.keep 0 rfl (Sub.keep 0 rfl (Sub.keep 0 rfl (Sub.keep 0 rfl (Sub.nil _)))))) (sortRS_ok  out _ _ w _   (by omega) h5))) ?_
      rintro _ _ rfl
      refine O.exi (fun ys1 => ?_)
      refine O.sep ?_
      refine O.pur ?_
      rintro ⟨rfl, hys1_1, hys1_2⟩
      refine O.sep ?_
      have hyl : (tops out).length = (tops ys1).length := by rw [tops_len, tops_len, hys1_1.length_eq]
      rw [hyl]
      have hyt := tops_len ys1
      refine O.nil ?_
      refine X.next ?_
      refine V.seq ?_
      refine V.region ?_
      refine O.p rfl rfl rfl (Pu.move rfl rfl) ?_
      refine O.p rfl rfl rfl (Pu.assign rfl rfl) ?_
      refine O.p rfl rfl rfl (Pu.assign rfl rfl) ?_
      refine O.nil ?_
      refine X.next ?_
      refine V.ret ?_
      refine X.ret2 rfl rfl rfl ?_
      exact fun w hw => St.mkExi outA (St.mkExi outc (St.mkExi ys1 (St.unsep (St.addPur ⟨(by rw [if_pos c1]), (by exact ⟨fun _ => ⟨by rw [← show s = 2 ^ v.toNat by omega, ← ho]; exact hys1_1.map _, hys1_2⟩, fun h => absurd c1 h⟩)⟩ (St.unsep (hw.sub (Sub.keep 0 rfl (Sub.keep 0 rfl (Sub.nil _)))))))))
set_option maxRecDepth 100000 in
set_option maxHeartbeats 1000000 in
theorem l07Closed_ok (v : Int) (bs : List B3) (set : Nat) (A : Option Addr) (c : Nat) (w : World) (hx : Rd B3C w A bs) (lx : bs.length ≤ 4611686018427387904) (hg : ∀ b ∈ bs, good 15 b) (hs : set < 32768) (hfew : bs.length ≤ 35) : Does Try.prog 181 [.agg #[.int .i64 v, .slice A bs.length c], .int .i64 (set : Int)] w [] (fun r => [.pur (r = .bool (decide (Clo bs set)))]) := by
  refine Does.enter Try.func181 rfl rfl [(0, .agg #[.int .i64 v, .slice A bs.length c]), (1, .int .i64 (set : Int))] rfl ?_
  refine V.seq ?_
  refine V.region ?_
  refine O.e rfl rfl rfl (Ef.box rfl rfl rfl) ?_
  rintro _ _ ⟨b1, rfl, rfl⟩
  refine O.p rfl rfl rfl (Pu.assign rfl rfl) ?_
  refine O.nil ?_
  refine X.next ?_
  refine V.seq ?_
  refine V.seq ?_
  refine V.region ?_
  refine O.p rfl rfl rfl (Pu.assign rfl rfl) ?_
  refine O.nil ?_
  refine X.next ?_
  refine V.block ?_
  refine V.loop3 (β := Nat) (fun i => [(5, .int .i64 (i : Int))]) _ (fun i => []) _ (fun i => i ≤ bs.length ∧ ∀ j (hj : j < bs.length), j < i → ¬ ones (bmask bs[j] &&& set) = 2) (fun i => bs.length - i) 0 ⟨by omega, fun j hj h => by omega⟩ (Ent.cons rfl (Ent.nil _)) (Ent.cons (t := 1) rfl (Ent.cons (t := 2) rfl (Ent.nil _))) (Sub.keep 0 rfl (Sub.nil _)) ?_
  rintro i ⟨hi, hn⟩
  refine V.seq ?_
  refine V.seq ?_
  refine V.region ?_
  refine O.p rfl rfl rfl (Pu.move rfl rfl) ?_
  refine O.p rfl rfl rfl (Pu.fieldAddr 1 rfl Try.underlying30 rfl sz28 rfl rfl) ?_
  refine O.p rfl rfl rfl (Pu.load rfl pl28 rfl (Ld.blk 0 rfl rfl)) ?_
  refine O.p rfl rfl rfl (Pu.len rfl Try.underlying28 rfl) ?_
  refine O.p rfl rfl rfl (Pu.lss rfl rfl rfl) ?_
  refine O.nil ?_
  refine X.next ?_
  refine V.condD rfl (fun c1 => ?_) (fun c1 => ?_)
  · skip
    refine V.skip ?_
    refine X.next ?_
    refine V.seq ?_
    refine V.block ?_
    refine V.seq ?_
    refine V.region ?_
    refine O.p rfl rfl rfl (Pu.fieldAddr 1 rfl Try.underlying30 rfl sz28 rfl rfl) ?_
    refine O.p rfl rfl rfl (Pu.load rfl pl28 rfl (Ld.blk 0 rfl rfl)) ?_
    refine O.p rfl rfl rfl (Pu.move rfl rfl) ?_
    refine O.p rfl rfl rfl (Pu.indexAddr (i) rfl Try.underlying28 sz75 rfl rfl (by omega) (by omega) (hx.some (by omega))) ?_
    have e1 : i < bs.length := by omega
    refine O.p rfl rfl rfl (Pu.loadAgg' (v := B3.v (bs[i]'e1)) rfl rfl ag75 sz75 rfl rfl (Ld.rds (Ld.old hx) (k := i) e1 rfl)) ?_
    refine O.e rfl rfl rfl (Ef.callP call197 rfl rfl (fun w hw => l05Bits_ok (bs[i]'e1) w (hg _ (List.getElem_mem _)))) ?_
    rintro _ _ ⟨rfl, rfl⟩
    have hbm := bmask_lt (hg (bs[i]'e1) (List.getElem_mem e1))
    have hba : bmask (bs[i]'e1) &&& set ≤ set := Nat.and_le_right
    refine O.p rfl rfl rfl (Pu.move rfl rfl) ?_
    refine O.p rfl rfl rfl (Pu.and (m := (bmask (bs[i]'e1))) (n := set) K64.i (by omega) (by omega) rfl rfl rfl) ?_
    refine O.p rfl rfl rfl (Pu.assign rfl rfl) ?_
    refine O.nil ?_
    refine X.next ?_
    refine V.seq ?_
    refine V.region ?_
    refine O.p rfl rfl rfl (Pu.move rfl rfl) ?_
    refine O.e rfl rfl rfl (Ef.callP call113 rfl rfl (fun w hw => l05Ones_ok ((bmask (bs[i]'e1)) &&& set) w (by omega))) ?_
    rintro _ _ ⟨rfl, rfl⟩
    refine O.p rfl rfl rfl (Pu.eql rfl rfl rfl) ?_
    refine O.nil ?_
    refine X.next ?_
    refine V.condD rfl (fun c2 => ?_) (fun c2 => ?_)
    · skip
      refine V.seq ?_
      refine V.region ?_
      refine O.p rfl rfl rfl (Pu.assign rfl rfl) ?_
      refine O.nil ?_
      refine X.next ?_
      refine V.ret ?_
      refine X.blockRet ?_
      refine X.thenRet ?_
      refine X.thenRet ?_
      refine X.blockRet ?_
      refine X.thenRet ?_
      refine X.ret1 rfl rfl ?_
      exact fun w hw => St.retP (boolF (fun h => h _ (List.getElem_mem e1) (by omega))) hw
    · skip
      refine V.skip ?_
      refine X.blockNormal ?_
      refine X.next ?_
      refine V.region ?_
      refine O.p rfl rfl rfl (Pu.move rfl rfl) ?_
      refine O.p rfl rfl rfl (Pu.add64 (r := ((i + 1 : Nat) : Int)) rfl (by omega) rfl rfl rfl) ?_
      refine O.p rfl rfl rfl (Pu.assign rfl rfl) ?_
      refine O.nil ?_
      exact X.back3 (i + 1) ⟨by omega, fun j hj h => by by_cases e : j = i; (· subst e; intro q; omega); (· exact hn j hj (by omega))⟩ (by first | omega | (dsimp only; omega)) (Ent.cons rfl (Ent.nil _)) (Ent.cons (t := 1) rfl (Ent.cons (t := 2) rfl (Ent.nil _))) (Sub.keep 0 rfl (Sub.nil _))
  · skip
    refine V.exit ?_
    refine X.thenExit ?_
    refine X.thenExit ?_
    refine X.blockHit ?_
    refine X.next ?_
    refine V.seq ?_
    refine V.region ?_
    refine O.p rfl rfl rfl (Pu.assign rfl rfl) ?_
    refine O.nil ?_
    refine X.next ?_
    refine V.ret ?_
    refine X.ret1 rfl rfl ?_
    exact fun w hw => St.retP (boolT (fun d hd => by obtain ⟨j, hj, rfl⟩ := List.mem_iff_getElem.1 hd; exact hn j hj (by omega))) hw
set_option maxRecDepth 100000 in
set_option maxHeartbeats 1000000 in
theorem l07Subsystem_ok (v : Int) (bs : List B3) (set : Nat) (A : Option Addr) (c : Nat) (w : World) (hx : Rd B3C w A bs) (lx : bs.length ≤ 4611686018427387904) (hg : ∀ b ∈ bs, good 15 b) (hs : set < 32768) (hfew : bs.length ≤ 35) : Does Try.prog 114 [.agg #[.int .i64 v, .slice A bs.length c], .int .i64 (set : Int)] w [] (fun r => [.pur (r = .bool (decide (3 ≤ ones set ∧ 6 * inside bs set bs.length = ones set * (ones set - 1) ∧ Clo bs set)))]) := by
  refine Does.enter Try.func114 rfl rfl [(0, .agg #[.int .i64 v, .slice A bs.length c]), (1, .int .i64 (set : Int))] rfl ?_
  have ho15 : ones set ≤ 15 := by rw [← pts_ones hs]; exact pts_len set
  have hil := @inside_le bs set bs.length
  have hmul := mul15 (ones set) (by omega)
  refine V.seq ?_
  refine V.region ?_
  refine O.e rfl rfl rfl (Ef.box rfl rfl rfl) ?_
  rintro _ _ ⟨b1, rfl, rfl⟩
  refine O.p rfl rfl rfl (Pu.assign rfl rfl) ?_
  refine O.nil ?_
  refine X.next ?_
  refine V.seq ?_
  refine V.region ?_
  refine O.p rfl rfl rfl (Pu.move rfl rfl) ?_
  refine O.e rfl rfl rfl (Ef.callP call113 rfl rfl (fun w hw => l05Ones_ok set w (by omega))) ?_
  rintro _ _ ⟨rfl, rfl⟩
  refine O.p rfl rfl rfl (Pu.assign rfl rfl) ?_
  refine O.nil ?_
  refine X.next ?_
  refine V.seq ?_
  refine V.region ?_
  refine O.p rfl rfl rfl (Pu.move rfl rfl) ?_
  refine O.p rfl rfl rfl (Pu.geq rfl rfl rfl) ?_
  refine O.p rfl rfl rfl (Pu.move rfl rfl) ?_
  refine O.splitD 10 rfl (fun c1 => ?_) (fun c1 => ?_)
  · skip
    refine O.gp rfl rfl rfl rfl rfl (Pu.loadAgg rfl ag30 sz30 rfl rfl (Ld.whole 0 rfl)) ?_
    refine O.gp rfl rfl rfl rfl rfl (Pu.move rfl rfl) ?_
    refine O.ge rfl rfl rfl rfl rfl (Ef.callP call180 rfl rfl (fun w hw => l07Inside_ok _ bs set _ _ w ((Ld.old hx) w hw) hg (by omega) hfew)) ?_
    rintro _ _ ⟨rfl, rfl⟩
    refine O.gp rfl rfl rfl rfl rfl (Pu.mul64 rfl (by omega) rfl rfl rfl) ?_
    refine O.gp rfl rfl rfl rfl rfl (Pu.move rfl rfl) ?_
    refine O.gp rfl rfl rfl rfl rfl (Pu.move rfl rfl) ?_
    refine O.gp rfl rfl rfl rfl rfl (Pu.sub64 rfl (by omega) rfl rfl rfl) ?_
    refine O.gp rfl rfl rfl rfl rfl (Pu.mul64 rfl (by omega) rfl rfl rfl) ?_
    refine O.gp rfl rfl rfl rfl rfl (Pu.eql rfl rfl rfl) ?_
    refine O.p rfl rfl rfl (Pu.pickT rfl rfl rfl) ?_
    refine O.p rfl rfl rfl (Pu.move rfl rfl) ?_
    refine O.splitD 21 rfl (fun c2 => ?_) (fun c2 => ?_)
    · skip
      refine O.gp rfl rfl rfl rfl rfl (Pu.loadAgg rfl ag30 sz30 rfl rfl (Ld.whole 0 rfl)) ?_
      refine O.gp rfl rfl rfl rfl rfl (Pu.move rfl rfl) ?_
      refine O.ge rfl rfl rfl rfl rfl (Ef.callP call181 rfl rfl (fun w hw => l07Closed_ok  v bs set _ _ w ((Ld.old hx) w hw) (by first | omega | (simp only [tops_len, conts_len, bl, List.length_append, List.length_cons, List.length_nil] at *; omega)) (by first | assumption | omega | (try dsimp only at *; omega)) (by first | assumption | omega | (try dsimp only at *; omega)) (by first | assumption | omega | (try dsimp only at *; omega)))) ?_
      rintro _ _ ⟨rfl, rfl⟩
      refine O.p rfl rfl rfl (Pu.pickT rfl rfl rfl) ?_
      refine O.p rfl rfl rfl (Pu.assign rfl rfl) ?_
      refine O.nil ?_
      refine X.next ?_
      refine V.ret ?_
      refine X.ret1 rfl rfl ?_
      exact fun w hw => St.retP (boolD (⟨fun h => ⟨by omega, by have := hmul.2; omega, h⟩, fun h => h.2.2⟩)) hw
    · skip
      refine O.gs rfl rfl rfl rfl rfl rfl ?_
      refine O.gs rfl rfl rfl rfl rfl rfl ?_
      refine O.gs rfl rfl rfl rfl rfl rfl ?_
      refine O.p rfl rfl rfl (Pu.pickF rfl rfl rfl) ?_
      refine O.p rfl rfl rfl (Pu.assign rfl rfl) ?_
      refine O.nil ?_
      refine X.next ?_
      refine V.ret ?_
      refine X.ret1 rfl rfl ?_
      exact fun w hw => St.retP (boolF (fun h => c2 (by have := hmul.2; have := h.2.1; omega))) hw
  · skip
    refine O.gs rfl rfl rfl rfl rfl rfl ?_
    refine O.gs rfl rfl rfl rfl rfl rfl ?_
    refine O.gs rfl rfl rfl rfl rfl rfl ?_
    refine O.gs rfl rfl rfl rfl rfl rfl ?_
    refine O.gs rfl rfl rfl rfl rfl rfl ?_
    refine O.gs rfl rfl rfl rfl rfl rfl ?_
    refine O.gs rfl rfl rfl rfl rfl rfl ?_
    refine O.gs rfl rfl rfl rfl rfl rfl ?_
    refine O.gs rfl rfl rfl rfl rfl rfl ?_
    refine O.p rfl rfl rfl (Pu.pickF rfl rfl rfl) ?_
    refine O.p rfl rfl rfl (Pu.move rfl rfl) ?_
    refine O.gs rfl rfl rfl rfl rfl rfl ?_
    refine O.gs rfl rfl rfl rfl rfl rfl ?_
    refine O.gs rfl rfl rfl rfl rfl rfl ?_
    refine O.p rfl rfl rfl (Pu.pickF rfl rfl rfl) ?_
    refine O.p rfl rfl rfl (Pu.assign rfl rfl) ?_
    refine O.nil ?_
    refine X.next ?_
    refine V.ret ?_
    refine X.ret1 rfl rfl ?_
    exact fun w hw => St.retP (boolF (fun h => c1 (by have := h.1; omega))) hw
set_option maxRecDepth 100000 in
set_option maxHeartbeats 1000000 in
theorem l07Before_ok (a : List Int) (b : List Int) (aA : Option Addr) (ac : Nat) (bA : Option Addr) (bc : Nat) (w : World) (ha : Rd I64 w aA a) (hb : Rd I64 w bA b) (la : a.length ≤ 1099511627776) (lb : b.length ≤ 1099511627776) : Does Try.prog 116 [.slice aA a.length ac, .slice bA b.length bc] w [] (fun r => [.pur (r = .bool (decide (cfB a b < 0)))]) := by
  refine Does.enter Try.func116 rfl rfl [(0, .slice aA a.length ac), (1, .slice bA b.length bc)] rfl ?_
  refine V.seq ?_
  refine V.region ?_
  refine O.p rfl rfl rfl (Pu.assign rfl rfl) ?_
  refine O.nil ?_
  refine X.next ?_
  refine V.seq ?_
  refine V.seq ?_
  refine V.region ?_
  refine O.p rfl rfl rfl (Pu.move rfl rfl) ?_
  refine O.p rfl rfl rfl (Pu.len rfl Try.underlying43 rfl) ?_
  refine O.p rfl rfl rfl (Pu.move rfl rfl) ?_
  refine O.p rfl rfl rfl (Pu.len rfl Try.underlying43 rfl) ?_
  refine O.p rfl rfl rfl (Pu.neq rfl rfl rfl) ?_
  refine O.nil ?_
  refine X.next ?_
  refine V.condNot rfl (fun c1 => ?_) (fun c1 => ?_)
  · skip
    refine V.seq ?_
    refine V.region ?_
    refine O.p rfl rfl rfl (Pu.move rfl rfl) ?_
    refine O.p rfl rfl rfl (Pu.len rfl Try.underlying43 rfl) ?_
    refine O.p rfl rfl rfl (Pu.move rfl rfl) ?_
    refine O.p rfl rfl rfl (Pu.len rfl Try.underlying43 rfl) ?_
    refine O.p rfl rfl rfl (Pu.lss rfl rfl rfl) ?_
    refine O.p rfl rfl rfl (Pu.assign rfl rfl) ?_
    refine O.nil ?_
    refine X.next ?_
    refine V.ret ?_
    refine X.thenRet ?_
    refine X.ret1 rfl rfl ?_
    exact fun w hw => St.retP (boolD (by rw [cfB_lt]; exact ⟨fun h => .inl (by omega), fun h => h.elim (fun h => by omega) (fun h => absurd h.1 (by omega))⟩)) hw
  · skip
    refine V.skip ?_
    refine X.next ?_
    refine V.seq ?_
    refine V.region ?_
    refine O.p rfl rfl rfl (Pu.move rfl rfl) ?_
    refine O.p rfl rfl rfl (Pu.move rfl rfl) ?_
    refine O.e rfl rfl rfl (Ef.callP call103 rfl rfl (fun w hw => l03Less_ok a b _ _ _ _ w ((Ld.old ha) w hw) ((Ld.old hb) w hw) (by omega) (by omega))) ?_
    rintro _ _ ⟨rfl, rfl⟩
    refine O.p rfl rfl rfl (Pu.assign rfl rfl) ?_
    refine O.nil ?_
    refine X.next ?_
    refine V.ret ?_
    refine X.ret1 rfl rfl ?_
    exact fun w hw => St.retP (boolD (by rw [cfB_lt]; exact ⟨fun h => .inr ⟨by omega, h⟩, fun h => h.elim (fun h => by omega) (fun h => h.2)⟩)) hw
end Go.Proofs.Ytjpfngmoabnffaa
