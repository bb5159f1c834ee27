/-
  Contracts, part 9.
-/
import Derived.Test.YtgjfcepnkllklaaGreatKb8
set_option linter.unusedVariables false
set_option linter.unusedSimpArgs false
namespace Go.Proofs.YtgjfcepnkllklaaGreat
open Go Go.RowKit Go.Vc Go.Proofs
set_option maxRecDepth 100000 in
set_option maxHeartbeats 1000000 in
theorem l07Span_ok (v : Int) (bs : List B3) (set : Nat) (A : Option Addr) (c : Nat) (w : World) (hx : Rd B3C w A bs) (lx : bs.length ≤ 4611686018427387904) (hg : ∀ d ∈ bs, good 15 d) (hs : set < 32768) : Does Tryz.prog 102 [.agg #[.int .i64 v, .slice A bs.length c], .int .i64 (set : Int)] w [] (fun r => [.exi fun (t : Nat) => .pur (r = .int .i64 (t : Int) ∧ t < 32768 ∧ (STS v bs → SpanP bs set t))]) := by
  refine Does.enter Tryz.func102 rfl rfl [(0, .agg #[.int .i64 v, .slice A bs.length c]), (1, .int .i64 (set : Int))] rfl ?_
  refine V.seq ?_
  refine V.region ?_
  refine O.e rfl rfl rfl (Ef.box rfl rfl rfl) ?_
  rintro _ _ ⟨b1, rfl, rfl⟩
  refine O.p rfl rfl rfl (Pu.assign rfl rfl) ?_
  refine O.nil ?_
  refine X.next ?_
  refine V.seq ?_
  refine V.seq ?_
  refine V.region ?_
  refine O.p rfl rfl rfl (Pu.assign rfl rfl) ?_
  refine O.nil ?_
  refine X.next ?_
  refine V.block ?_
  refine V.loop3 (β := Nat × Bool) (fun x => [(1, .int .i64 (x.1 : Int)), (5, .bool x.2)]) _ (fun x => []) _ (fun x => x.1 < 32768 ∧ (STS v bs → SpI bs set x.1) ∧ (x.2 = false → Clo bs x.1)) (fun x => spM x.1 x.2) (set, true) (by (try dsimp only); exact ⟨hs, fun _ => spi_start hs, fun h => by cases h⟩) (Ent.cons rfl (Ent.cons rfl (Ent.nil _))) (Ent.cons (t := 2) rfl (Ent.nil _)) (Sub.keep 0 rfl (Sub.nil _)) ?_
  rintro ⟨sr, more⟩ ⟨hl, hI, hc⟩
  dsimp only at hl hI hc ⊢
  refine V.seq ?_
  refine V.seq ?_
  refine V.region ?_
  refine O.p rfl rfl rfl (Pu.move rfl rfl) ?_
  refine O.nil ?_
  refine X.next ?_
  refine V.cond rfl (fun c1 => ?_) (fun c1 => ?_)
  · skip
    subst c1
    refine V.skip ?_
    refine X.next ?_
    refine V.block ?_
    refine V.seq ?_
    refine V.region ?_
    refine O.p rfl rfl rfl (Pu.assign rfl rfl) ?_
    refine O.nil ?_
    refine X.next ?_
    refine V.seq ?_
    refine V.region ?_
    refine O.p rfl rfl rfl (Pu.assign rfl rfl) ?_
    refine O.nil ?_
    refine X.next ?_
    refine V.block ?_
    refine V.loop3 (β := Nat × Bool × Nat) (fun x => [(1, .int .i64 (x.1 : Int)), (5, .bool x.2.1), (6, .int .i64 (x.2.2 : Int))]) _ (fun x => []) _ (fun x => x.2.2 ≤ bs.length ∧ RdS v bs set sr x.1 x.2.1 x.2.2) (fun x => bs.length - x.2.2) (sr, false, 0) (by (try dsimp only); exact ⟨by omega, rds_start hl hI⟩) (Ent.cons rfl (Ent.cons rfl (Ent.cons rfl (Ent.nil _)))) (Ent.cons (t := 2) rfl (Ent.nil _)) (Sub.keep 0 rfl (Sub.nil _)) ?_
    rintro ⟨s2, more2, i⟩ ⟨hi, hR⟩
    dsimp only at hi hR ⊢
    refine V.seq ?_
    refine V.seq ?_
    refine V.region ?_
    refine O.p rfl rfl rfl (Pu.move rfl rfl) ?_
    refine O.p rfl rfl rfl (Pu.fieldAddr 1 rfl Tryz.underlying26 rfl sz24 rfl rfl) ?_
    refine O.p rfl rfl rfl (Pu.load rfl pl24 rfl (Ld.blk 0 rfl rfl)) ?_
    refine O.p rfl rfl rfl (Pu.len rfl Tryz.underlying24 rfl) ?_
    refine O.p rfl rfl rfl (Pu.lss rfl rfl rfl) ?_
    refine O.nil ?_
    refine X.next ?_
    refine V.condD rfl (fun c2 => ?_) (fun c2 => ?_)
    · skip
      refine V.skip ?_
      refine X.next ?_
      refine V.seq ?_
      refine V.block ?_
      refine V.seq ?_
      refine V.region ?_
      refine O.p rfl rfl rfl (Pu.fieldAddr 1 rfl Tryz.underlying26 rfl sz24 rfl rfl) ?_
      refine O.p rfl rfl rfl (Pu.load rfl pl24 rfl (Ld.blk 0 rfl rfl)) ?_
      refine O.p rfl rfl rfl (Pu.move rfl rfl) ?_
      refine O.p rfl rfl rfl (Pu.indexAddr (i) rfl Tryz.underlying24 sz51 rfl rfl (by omega) (by omega) (hx.some (by omega))) ?_
      have e1 : i < bs.length := by omega
      refine O.p rfl rfl rfl (Pu.loadAgg' (v := B3.v (bs[i]'e1)) rfl rfl ag51 sz51 rfl rfl (Ld.rds (Ld.old hx) (k := i) e1 rfl)) ?_
      refine O.e rfl rfl rfl (Ef.callP call191 rfl rfl (fun w hw => l05Bits_ok (bs[i]'e1) w (hg _ (List.getElem_mem _)))) ?_
      rintro _ _ ⟨rfl, rfl⟩
      have hbm := bmask_lt15 (hg (bs[i]'e1) (List.getElem_mem e1))
      have hs2 := hR.lt
      have hba : bmask (bs[i]'e1) &&& s2 ≤ s2 := Nat.and_le_right
      refine O.p rfl rfl rfl (Pu.assign rfl rfl) ?_
      refine O.nil ?_
      refine X.next ?_
      refine V.seq ?_
      refine V.region ?_
      refine O.p rfl rfl rfl (Pu.move rfl rfl) ?_
      refine O.p rfl rfl rfl (Pu.move rfl rfl) ?_
      refine O.p rfl rfl rfl (Pu.and (m := (bmask (bs[i]'e1))) (n := s2) K64.i (by omega) (by omega) rfl rfl rfl) ?_
      refine O.e rfl rfl rfl (Ef.callP call111 rfl rfl (fun w hw => l05Ones_ok ((bmask (bs[i]'e1)) &&& s2) w (by omega))) ?_
      rintro _ _ ⟨rfl, rfl⟩
      refine O.p rfl rfl rfl (Pu.eql rfl rfl rfl) ?_
      refine O.nil ?_
      refine X.next ?_
      refine V.condD rfl (fun c3 => ?_) (fun c3 => ?_)
      · skip
        refine V.seq ?_
        refine V.region ?_
        refine O.p rfl rfl rfl (Pu.move rfl rfl) ?_
        refine O.p rfl rfl rfl (Pu.move rfl rfl) ?_
        refine O.p rfl rfl rfl (Pu.or (m := s2) (n := (bmask (bs[i]'e1))) K64.i (by omega) (by omega) rfl rfl rfl) ?_
        refine O.p rfl rfl rfl (Pu.assign rfl rfl) ?_
        refine O.nil ?_
        refine X.next ?_
        refine V.region ?_
        refine O.p rfl rfl rfl (Pu.assign rfl rfl) ?_
        refine O.nil ?_
        refine X.blockNormal ?_
        refine X.next ?_
        refine V.region ?_
        refine O.p rfl rfl rfl (Pu.move rfl rfl) ?_
        refine O.p rfl rfl rfl (Pu.add64 (r := ((i + 1 : Nat) : Int)) rfl (by omega) rfl rfl rfl) ?_
        refine O.p rfl rfl rfl (Pu.assign rfl rfl) ?_
        refine O.nil ?_
        exact X.back3 ((s2 ||| (bmask (bs[i]'e1))), true, i + 1) (by (try dsimp only); exact ⟨by omega, rds_yes hR e1 (hg _ (List.getElem_mem _)) (by omega)⟩) (by first | omega | (dsimp only; omega)) (Ent.cons rfl (Ent.cons rfl (Ent.cons rfl (Ent.nil _)))) (Ent.cons (t := 2) rfl (Ent.nil _)) (Sub.keep 0 rfl (Sub.nil _))
      · skip
        refine V.skip ?_
        refine X.blockNormal ?_
        refine X.next ?_
        refine V.region ?_
        refine O.p rfl rfl rfl (Pu.move rfl rfl) ?_
        refine O.p rfl rfl rfl (Pu.add64 (r := ((i + 1 : Nat) : Int)) rfl (by omega) rfl rfl rfl) ?_
        refine O.p rfl rfl rfl (Pu.assign rfl rfl) ?_
        refine O.nil ?_
        exact X.back3 (s2, more2, i + 1) (by (try dsimp only); exact ⟨by omega, rds_no hR e1 (by omega)⟩) (by first | omega | (dsimp only; omega)) (Ent.cons rfl (Ent.cons rfl (Ent.cons rfl (Ent.nil _)))) (Ent.cons (t := 2) rfl (Ent.nil _)) (Sub.keep 0 rfl (Sub.nil _))
    · skip
      refine V.exit ?_
      refine X.thenExit ?_
      refine X.thenExit ?_
      refine X.blockHit ?_
      refine X.blockNormal ?_
      have hend := rds_end hR (by omega)
      have hmm := hend.2
      exact X.back3 (s2, more2) (by (try dsimp only); exact ⟨hR.lt, hR.sp, hend.1⟩) (by first | omega | (dsimp only; omega)) (Ent.cons rfl (Ent.cons rfl (Ent.nil _))) (Ent.cons (t := 2) rfl (Ent.nil _)) (Sub.keep 0 rfl (Sub.nil _))
  · skip
    subst c1
    refine V.exit ?_
    refine X.thenExit ?_
    refine X.thenExit ?_
    refine X.blockHit ?_
    refine X.next ?_
    refine V.seq ?_
    refine V.region ?_
    refine O.p rfl rfl rfl (Pu.move rfl rfl) ?_
    refine O.p rfl rfl rfl (Pu.assign rfl rfl) ?_
    refine O.nil ?_
    refine X.next ?_
    refine V.ret ?_
    refine X.ret1 rfl rfl ?_
    exact fun w hw => St.mkExi sr (St.addPur ⟨rfl, ⟨hl, fun hS => ⟨hI hS, hc rfl⟩⟩⟩ (hw.sub (Sub.nil _)))
set_option maxRecDepth 100000 in
set_option maxHeartbeats 1000000 in
theorem l01PointsD_ok (v : Int) (bs : List B3) (list : List Int) (A : Option Addr) (c : Nat) (listA : Option Addr) (listc : Nat) (w : World) (hx : Rd B3C w A bs) (hlist : Rd I64 w listA list) (lx : bs.length ≤ 4611686018427387904) (llist : list.length ≤ 1099511627776) : Does Tryz.prog 190 [.agg #[.int .i64 v, .slice A bs.length c], .slice listA list.length listc] w [] (fun r => [.pur (r = .int .i64 (if STS v bs then if ∀ q ∈ list, Pt v q then 0 else 2 else 1))]) := by
  refine Does.enter Tryz.func190 rfl rfl [(0, .agg #[.int .i64 v, .slice A bs.length c]), (1, .slice listA list.length listc)] rfl ?_
  refine V.seq ?_
  refine V.region ?_
  refine O.e rfl rfl rfl (Ef.box rfl rfl rfl) ?_
  rintro _ _ ⟨b1, rfl, rfl⟩
  refine O.p rfl rfl rfl (Pu.assign rfl rfl) ?_
  refine O.nil ?_
  refine X.next ?_
  refine V.seq ?_
  refine V.seq ?_
  refine V.region ?_
  refine O.p rfl rfl rfl (Pu.loadAgg rfl ag26 sz26 rfl rfl (Ld.whole 0 rfl)) ?_
  refine O.e rfl rfl rfl (Ef.callP call79 rfl rfl (fun w hw => l01Is_ok _ bs _ _ w ((Ld.old hx) w hw) (by omega))) ?_
  rintro _ _ ⟨rfl, rfl⟩
  refine O.p rfl rfl rfl (Pu.not rfl rfl) ?_
  refine O.nil ?_
  refine X.next ?_
  refine V.condNot rfl (fun c1 => ?_) (fun c1 => ?_)
  · skip
    refine V.seq ?_
    refine V.region ?_
    refine O.p rfl rfl rfl (Pu.assign rfl rfl) ?_
    refine O.nil ?_
    refine X.next ?_
    refine V.ret ?_
    refine X.thenRet ?_
    refine X.ret1 rfl rfl ?_
    exact fun w hw => St.retP (iv (by rw [if_neg c1])) hw
  · skip
    have hlo := c1.lo
    have hhi := c1.hi
    refine V.skip ?_
    refine X.next ?_
    refine V.seq ?_
    refine V.seq ?_
    refine V.region ?_
    refine O.p rfl rfl rfl (Pu.assign rfl rfl) ?_
    refine O.nil ?_
    refine X.next ?_
    refine V.block ?_
    refine V.loop3 (β := Nat) (fun i => [(5, .int .i64 (i : Int))]) _ (fun i => []) _ (fun i => i ≤ list.length ∧ ∀ j (hj : j < list.length), j < i → Pt v list[j]) (fun i => list.length - i) 0 ⟨by omega, fun j hj h => by omega⟩ (Ent.cons rfl (Ent.nil _)) (Ent.cons (t := 1) rfl (Ent.cons (t := 2) rfl (Ent.nil _))) (Sub.keep 0 rfl (Sub.nil _)) ?_
    rintro i ⟨hi, hp⟩
    refine V.seq ?_
    refine V.seq ?_
    refine V.region ?_
    refine O.p rfl rfl rfl (Pu.move rfl rfl) ?_
    refine O.p rfl rfl rfl (Pu.move rfl rfl) ?_
    refine O.p rfl rfl rfl (Pu.len rfl Tryz.underlying34 rfl) ?_
    refine O.p rfl rfl rfl (Pu.lss rfl rfl rfl) ?_
    refine O.nil ?_
    refine X.next ?_
    refine V.condD rfl (fun c2 => ?_) (fun c2 => ?_)
    · skip
      refine V.skip ?_
      refine X.next ?_
      refine V.seq ?_
      refine V.block ?_
      refine V.seq ?_
      refine V.draw mo (by kernel_rfl) (fun hwf => ?_)
      refine D.p 0 rfl rfl rfl rfl rfl rfl (Pu.move rfl rfl) ?_
      refine D.p 1 rfl rfl rfl rfl rfl rfl (Pu.move rfl rfl) ?_
      refine D.p 2 rfl rfl rfl rfl rfl rfl (Pu.indexAddr (i) rfl Tryz.underlying34 sz2 rfl rfl (by omega) (by omega) (hlist.some (by omega))) ?_
      have e1 : i < list.length := by omega
      refine D.p 3 rfl rfl rfl rfl rfl rfl (Pu.load rfl pl2 rfl (Ld.rd (Ld.old hlist) (k := i) e1 rfl rfl)) ?_
      refine D.p 4 rfl rfl rfl rfl rfl rfl (Pu.fieldAddr 0 rfl Tryz.underlying26 rfl sz2 rfl rfl) ?_
      refine D.p 5 rfl rfl rfl rfl rfl rfl (Pu.load rfl pl2 rfl (Ld.blk 0 rfl rfl)) ?_
      refine D.p 6 rfl rfl rfl rfl rfl rfl (Pu.sub64 rfl (by omega) rfl rfl rfl) ?_
      refine D.eff hwf (e := 7) rfl rfl rfl rfl (Ef.callP call160 rfl rfl (fun w hw => l01In_ok _ _ _ _)) rfl rfl rfl ?_
      rintro _ _ ⟨rfl, rfl⟩ hs
      refine ⟨fun w hw => hw, ?_⟩
      refine D.p 8 rfl rfl rfl rfl rfl rfl (Pu.not rfl rfl) ?_
      refine D.done hwf rfl ?_
      refine X.next ?_
      refine V.condNot rfl (fun c3 => ?_) (fun c3 => ?_)
      · skip
        refine V.seq ?_
        refine V.region ?_
        refine O.p rfl rfl rfl (Pu.assign rfl rfl) ?_
        refine O.nil ?_
        refine X.next ?_
        refine V.ret ?_
        refine X.blockRet ?_
        refine X.thenRet ?_
        refine X.thenRet ?_
        refine X.blockRet ?_
        refine X.thenRet ?_
        refine X.ret1 rfl rfl ?_
        exact fun w hw => St.retP (iv (by rw [if_pos c1, if_neg (fun h => by have := h _ (List.getElem_mem e1); unfold Pt at this; omega)])) hw
      · skip
        refine V.skip ?_
        refine X.blockNormal ?_
        refine X.next ?_
        refine V.region ?_
        refine O.p rfl rfl rfl (Pu.move rfl rfl) ?_
        refine O.p rfl rfl rfl (Pu.add64 (r := ((i + 1 : Nat) : Int)) rfl (by omega) rfl rfl rfl) ?_
        refine O.p rfl rfl rfl (Pu.assign rfl rfl) ?_
        refine O.nil ?_
        exact X.back3 (i + 1) ⟨by omega, fun j hj h => by by_cases e : j = i; (· subst e; unfold Pt; omega); (· exact hp j hj (by omega))⟩ (by first | omega | (dsimp only; omega)) (Ent.cons rfl (Ent.nil _)) (Ent.cons (t := 1) rfl (Ent.cons (t := 2) rfl (Ent.nil _))) (Sub.keep 0 rfl (Sub.nil _))
    · skip
      refine V.exit ?_
      refine X.thenExit ?_
      refine X.thenExit ?_
      refine X.blockHit ?_
      refine X.next ?_
      refine V.seq ?_
      refine V.region ?_
      refine O.p rfl rfl rfl (Pu.assign rfl rfl) ?_
      refine O.nil ?_
      refine X.next ?_
      refine V.ret ?_
      refine X.ret1 rfl rfl ?_
      exact fun w hw => St.retP (iv (by rw [if_pos c1, if_pos (fun q hq => by obtain ⟨j, hj, rfl⟩ := List.mem_iff_getElem.1 hq; exact hp j hj (by omega))])) hw
set_option maxRecDepth 100000 in
set_option maxHeartbeats 1000000 in
theorem setCode_ok (v : Int) (bs : List B3) (points : List Int) (A : Option Addr) (c : Nat) (pointsA : Option Addr) (pointsc : Nat) (w : World) (hx : Rd B3C w A bs) (hpoints : Rd I64 w pointsA points) (lx : bs.length ≤ 4611686018427387904) (lpoints : points.length ≤ 1099511627776) : Does Tryz.prog 95 [.agg #[.int .i64 v, .slice A bs.length c], .slice pointsA points.length pointsc] w [] (fun r => [.pur (r = .int .i64 (scode v bs points))]) := by
  refine Does.enter Tryz.func95 rfl rfl [(0, .agg #[.int .i64 v, .slice A bs.length c]), (1, .slice pointsA points.length pointsc)] rfl ?_
  refine V.seq ?_
  refine V.region ?_
  refine O.e rfl rfl rfl (Ef.box rfl rfl rfl) ?_
  rintro _ _ ⟨b1, rfl, rfl⟩
  refine O.p rfl rfl rfl (Pu.assign rfl rfl) ?_
  refine O.nil ?_
  refine X.next ?_
  refine V.seq ?_
  refine V.block ?_
  refine V.seq ?_
  refine V.region ?_
  refine O.p rfl rfl rfl (Pu.loadAgg rfl ag26 sz26 rfl rfl (Ld.whole 0 rfl)) ?_
  refine O.e rfl rfl rfl (Ef.callP call77 rfl rfl (fun w hw => IsSystem_ok _ bs _ _ w ((Ld.old hx) w hw) (by omega))) ?_
  rintro _ _ ⟨rfl, rfl⟩
  refine O.p rfl rfl rfl (Pu.not rfl rfl) ?_
  refine O.p rfl rfl rfl (Pu.assign rfl rfl) ?_
  refine O.nil ?_
  refine X.next ?_
  refine V.condNot rfl (fun c1 => ?_) (fun c1 => ?_)
  · skip
    refine V.seq ?_
    refine V.region ?_
    refine O.p rfl rfl rfl (Pu.assign rfl rfl) ?_
    refine O.nil ?_
    refine X.next ?_
    refine V.ret ?_
    refine X.blockRet ?_
    refine X.thenRet ?_
    refine X.ret1 rfl rfl ?_
    exact fun w hw => St.retP (iv (by rw [sc_1 c1])) hw
  · skip
    have hlo := c1.lo
    have hhi := c1.hi
    refine V.seq ?_
    refine V.region ?_
    refine O.p rfl rfl rfl (Pu.move rfl rfl) ?_
    refine O.p rfl rfl rfl (Pu.fieldAddr 0 rfl Tryz.underlying26 rfl sz2 rfl rfl) ?_
    refine O.p rfl rfl rfl (Pu.load rfl pl2 rfl (Ld.blk 0 rfl rfl)) ?_
    refine O.e rfl rfl rfl (Ef.callP call114 rfl rfl (fun w hw => rises_ok _ _ _ _ w ((Ld.old hpoints) w hw) (by omega) (by omega))) ?_
    rintro _ _ ⟨rfl, rfl⟩
    refine O.p rfl rfl rfl (Pu.not rfl rfl) ?_
    refine O.p rfl rfl rfl (Pu.assign rfl rfl) ?_
    refine O.nil ?_
    refine X.next ?_
    refine V.condNot rfl (fun c2 => ?_) (fun c2 => ?_)
    · skip
      refine V.seq ?_
      refine V.region ?_
      refine O.p rfl rfl rfl (Pu.assign rfl rfl) ?_
      refine O.nil ?_
      refine X.next ?_
      refine V.ret ?_
      refine X.blockRet ?_
      refine X.thenRet ?_
      refine X.ret1 rfl rfl ?_
      exact fun w hw => St.retP (iv (by rw [sc_2 c1 (fun h => c2 (rises_set.2 h))])) hw
    · skip
      refine V.skip ?_
      refine X.blockNormal ?_
      refine X.next ?_
      refine V.seq ?_
      refine V.region ?_
      refine O.p rfl rfl rfl (Pu.assign rfl rfl) ?_
      refine O.nil ?_
      refine X.next ?_
      refine V.ret ?_
      refine X.ret1 rfl rfl ?_
      exact fun w hw => St.retP (iv (by rw [sc_0 c1 (rises_set.1 c2)])) hw
set_option maxRecDepth 100000 in
set_option maxHeartbeats 1000000 in
theorem l01Set_ok (v : Int) (bs : List B3) (points : List Int) (A : Option Addr) (c : Nat) (pointsA : Option Addr) (pointsc : Nat) (w : World) (hx : Rd B3C w A bs) (hpoints : Rd I64 w pointsA points) (lx : bs.length ≤ 4611686018427387904) (lpoints : points.length ≤ 1099511627776) : Does Tryz.prog 100 [.agg #[.int .i64 v, .slice A bs.length c], .slice pointsA points.length pointsc] w [] (fun r => [.pur (r = .int .i64 (scode v bs points))]) := by
  refine Does.enter Tryz.func100 rfl rfl [(0, .agg #[.int .i64 v, .slice A bs.length c]), (1, .slice pointsA points.length pointsc)] rfl ?_
  refine V.seq ?_
  refine V.region ?_
  refine O.e rfl rfl rfl (Ef.box rfl rfl rfl) ?_
  rintro _ _ ⟨b1, rfl, rfl⟩
  refine O.p rfl rfl rfl (Pu.assign rfl rfl) ?_
  refine O.nil ?_
  refine X.next ?_
  refine V.seq ?_
  refine V.seq ?_
  refine V.region ?_
  refine O.p rfl rfl rfl (Pu.loadAgg rfl ag26 sz26 rfl rfl (Ld.whole 0 rfl)) ?_
  refine O.p rfl rfl rfl (Pu.move rfl rfl) ?_
  refine O.e rfl rfl rfl (Ef.callP call190 rfl rfl (fun w hw => l01PointsD_ok  v bs points _ _ _ _ w ((Ld.old hx) w hw) ((Ld.old hpoints) w hw) (by first | omega | (simp only [tops_len, conts_len, bl, List.length_append, List.length_cons, List.length_nil] at *; omega)) (by first | omega | (simp only [tops_len, conts_len, bl, List.length_append, List.length_cons, List.length_nil] at *; omega)) )) ?_
  rintro _ _ ⟨rfl, rfl⟩
  refine O.p rfl rfl rfl (Pu.assign rfl rfl) ?_
  refine O.nil ?_
  refine X.next ?_
  refine V.seq ?_
  refine V.region ?_
  refine O.p rfl rfl rfl (Pu.move rfl rfl) ?_
  refine O.p rfl rfl rfl (Pu.neq rfl rfl rfl) ?_
  refine O.nil ?_
  refine X.next ?_
  refine V.condNot rfl (fun c1 => ?_) (fun c1 => ?_)
  · skip
    refine V.seq ?_
    refine V.region ?_
    refine O.p rfl rfl rfl (Pu.move rfl rfl) ?_
    refine O.p rfl rfl rfl (Pu.assign rfl rfl) ?_
    refine O.nil ?_
    refine X.next ?_
    refine V.ret ?_
    refine X.thenRet ?_
    refine X.ret1 rfl rfl ?_
    exact fun w hw => St.retP (iv (by first | (by_cases h : STS v bs; (· rw [if_pos h] at c1 ⊢; by_cases h2 : ∀ q ∈ points, Pt v q; (· rw [if_pos h2] at c1; exact absurd rfl c1); (· rw [if_neg h2, sc_2 h (fun hh => h2 hh.2)])); (· rw [if_neg h, sc_1 h])) | skip)) hw
  · skip
    refine V.skip ?_
    refine X.next ?_
    refine V.seq ?_
    refine V.seq ?_
    refine V.region ?_
    refine O.p rfl rfl rfl (Pu.assign rfl rfl) ?_
    refine O.nil ?_
    refine X.next ?_
    refine V.block ?_
    refine V.loop3 (β := Nat) (fun i => [(6, .int .i64 (i : Int))]) _ (fun i => []) _ (fun i => 1 ≤ i ∧ (i ≤ points.length ∨ i = 1) ∧ ∀ j (hj : j < points.length), j + 1 < i → ∀ (h2 : j + 1 < points.length), points[j] < points[j + 1]) (fun i => points.length + 1 - i) 1 ⟨by omega, by omega, fun j hj h => by omega⟩ (Ent.cons rfl (Ent.nil _)) (Ent.cons (t := 1) rfl (Ent.nil _)) (Sub.keep 0 rfl (Sub.nil _)) ?_
    rintro i ⟨hi1, hi, hn⟩
    refine V.seq ?_
    refine V.seq ?_
    refine V.region ?_
    refine O.p rfl rfl rfl (Pu.move rfl rfl) ?_
    refine O.p rfl rfl rfl (Pu.move rfl rfl) ?_
    refine O.p rfl rfl rfl (Pu.len rfl Tryz.underlying34 rfl) ?_
    refine O.p rfl rfl rfl (Pu.lss rfl rfl rfl) ?_
    refine O.nil ?_
    refine X.next ?_
    refine V.condD rfl (fun c2 => ?_) (fun c2 => ?_)
    · skip
      refine V.skip ?_
      refine X.next ?_
      refine V.seq ?_
      refine V.block ?_
      refine V.seq ?_
      refine V.draw mo (by kernel_rfl) (fun hwf => ?_)
      refine D.p 0 rfl rfl rfl rfl rfl rfl (Pu.move rfl rfl) ?_
      refine D.p 1 rfl rfl rfl rfl rfl rfl (Pu.move rfl rfl) ?_
      refine D.p 2 rfl rfl rfl rfl rfl rfl (Pu.indexAddr (i) rfl Tryz.underlying34 sz2 rfl rfl (by omega) (by omega) (hpoints.some (by omega))) ?_
      have e1 : i < points.length := by omega
      refine D.p 3 rfl rfl rfl rfl rfl rfl (Pu.load rfl pl2 rfl (Ld.rd (Ld.old hpoints) (k := i) e1 rfl rfl)) ?_
      refine D.p 4 rfl rfl rfl rfl rfl rfl (Pu.move rfl rfl) ?_
      refine D.p 5 rfl rfl rfl rfl rfl rfl (Pu.move rfl rfl) ?_
      refine D.p 6 rfl rfl rfl rfl rfl rfl (Pu.sub64 (r := ((i - 1 : Nat) : Int)) (by omega) (by omega) rfl rfl rfl) ?_
      refine D.p 7 rfl rfl rfl rfl rfl rfl (Pu.indexAddr (i - 1) rfl Tryz.underlying34 sz2 rfl rfl (by omega) (by omega) (hpoints.some (by omega))) ?_
      have e2 : i - 1 < points.length := by omega
      refine D.p 8 rfl rfl rfl rfl rfl rfl (Pu.load rfl pl2 rfl (Ld.rd (Ld.old hpoints) (k := i - 1) e2 rfl rfl)) ?_
      refine D.p 9 rfl rfl rfl rfl rfl rfl (Pu.leq rfl rfl rfl) ?_
      refine D.done hwf rfl ?_
      refine X.next ?_
      refine V.condD rfl (fun c3 => ?_) (fun c3 => ?_)
      · skip
        refine V.seq ?_
        refine V.region ?_
        refine O.p rfl rfl rfl (Pu.assign rfl rfl) ?_
        refine O.nil ?_
        refine X.next ?_
        refine V.ret ?_
        refine X.blockRet ?_
        refine X.thenRet ?_
        refine X.thenRet ?_
        refine X.blockRet ?_
        refine X.thenRet ?_
        refine X.ret1 rfl rfl ?_
        exact fun w hw => St.retP (iv (by obtain ⟨hS, hP⟩ := pts_code c1; rw [sc_2 hS (fun hh => by have := List.pairwise_iff_getElem.1 hh.1 (i - 1) i (by omega) (by omega) (by omega); omega)])) hw
      · skip
        refine V.skip ?_
        refine X.blockNormal ?_
        refine X.next ?_
        refine V.region ?_
        refine O.p rfl rfl rfl (Pu.move rfl rfl) ?_
        refine O.p rfl rfl rfl (Pu.add64 (r := ((i + 1 : Nat) : Int)) rfl (by omega) rfl rfl rfl) ?_
        refine O.p rfl rfl rfl (Pu.assign rfl rfl) ?_
        refine O.nil ?_
        exact X.back3 (i + 1) ⟨by omega, by omega, fun j hj h h2 => by by_cases e : j + 1 = i; (· subst e; have := c3; simp only [Nat.add_sub_cancel] at this; omega); (· exact hn j hj (by omega) h2)⟩ (by first | omega | (dsimp only; omega)) (Ent.cons rfl (Ent.nil _)) (Ent.cons (t := 1) rfl (Ent.nil _)) (Sub.keep 0 rfl (Sub.nil _))
    · skip
      refine V.exit ?_
      refine X.thenExit ?_
      refine X.thenExit ?_
      refine X.blockHit ?_
      refine X.next ?_
      refine V.seq ?_
      refine V.region ?_
      refine O.p rfl rfl rfl (Pu.assign rfl rfl) ?_
      refine O.nil ?_
      refine X.next ?_
      refine V.ret ?_
      refine X.ret1 rfl rfl ?_
      exact fun w hw => St.retP (iv (by obtain ⟨hS, hP⟩ := pts_code c1; rw [sc_0 hS (set_of_chain hP (fun j hj h2 => hn j hj (by omega) h2))])) hw
set_option maxRecDepth 100000 in
set_option maxHeartbeats 1000000 in
theorem implSpanOf_ok (v : Int) (bs : List B3) (points : List Int) (A : Option Addr) (c : Nat) (pointsA : Option Addr) (pointsc : Nat) (w : World) (hx : Rd B3C w A bs) (hpoints : Rd I64 w pointsA points) (lx : bs.length ≤ 4611686018427387904) (lpoints : points.length ≤ 1099511627776) : Does Tryz.prog 29 [.agg #[.int .i64 v, .slice A bs.length c], .slice pointsA points.length pointsc] w [] (fun r => [.exi fun (oA : Option Addr) => .exi fun (oc : Nat) => .exi fun (o : List Int) => .sep (.pur (r = .tuple #[.slice oA o.length oc, .int .i64 (scode v bs points)] ∧ SpanL v bs points o)) (Own 2 I64 oA oc o)]) := by
  refine Does.enter Tryz.func29 rfl rfl [(0, .agg #[.int .i64 v, .slice A bs.length c]), (1, .slice pointsA points.length pointsc)] rfl ?_
  refine V.seq ?_
  refine V.region ?_
  refine O.e rfl rfl rfl (Ef.box rfl rfl rfl) ?_
  rintro _ _ ⟨b1, rfl, rfl⟩
  refine O.p rfl rfl rfl (Pu.assign rfl rfl) ?_
  refine O.p rfl rfl rfl (Pu.assign rfl rfl) ?_
  refine O.nil ?_
  refine X.next ?_
  refine V.seq ?_
  refine V.seq ?_
  refine V.region ?_
  refine O.p rfl rfl rfl (Pu.loadAgg rfl ag26 sz26 rfl rfl (Ld.whole 0 rfl)) ?_
  refine O.p rfl rfl rfl (Pu.move rfl rfl) ?_
  refine O.e rfl rfl rfl (Ef.callP call95 rfl rfl (fun w hw => setCode_ok  v bs points _ _ _ _ w ((Ld.old hx) w hw) ((Ld.old hpoints) w hw) (by first | omega | (simp only [tops_len, conts_len, bl, List.length_append, List.length_cons, List.length_nil] at *; omega)) (by first | omega | (simp only [tops_len, conts_len, bl, List.length_append, List.length_cons, List.length_nil] at *; omega)) )) ?_
  rintro _ _ ⟨rfl, rfl⟩
  refine O.p rfl rfl rfl (Pu.assign rfl rfl) ?_
  refine O.nil ?_
  refine X.next ?_
  refine V.seq ?_
  refine V.region ?_
  refine O.p rfl rfl rfl (Pu.move rfl rfl) ?_
  refine O.p rfl rfl rfl (Pu.neq rfl rfl rfl) ?_
  refine O.nil ?_
  refine X.next ?_
  refine V.condNot rfl (fun c1 => ?_) (fun c1 => ?_)
  · skip
    refine V.seq ?_
    refine V.region ?_
    refine O.p rfl rfl rfl (Pu.move rfl rfl) ?_
    refine O.p rfl rfl rfl (Pu.assign rfl rfl) ?_
    refine O.p rfl rfl rfl (Pu.assign rfl rfl) ?_
    refine O.nil ?_
    refine X.next ?_
    refine V.ret ?_
    refine X.thenRet ?_
    refine X.ret2 rfl rfl rfl ?_
    exact fun w hw => St.mkExi none (St.mkExi 0 (St.mkExi [] (St.unsep (St.addPur ⟨rfl, ⟨fun h => absurd h c1, fun _ => rfl⟩⟩ (St.addNil (T := 2) (C := I64) (hw.sub (Sub.nil _)))))))
  · skip
    obtain ⟨hS, hL⟩ := sc_ok c1
    have hlo := hS.lo
    have hhi := hS.hi
    have hfew := hS.few
    have hg : ∀ b ∈ bs, good 15 b := fun b h => (hS.good b h).mono hS.hi
    have hpl := setL_lt hL hS.hi
    have hml := maskL_lt hpl
    have hpln := setL_len hL hS.hi
    refine V.skip ?_
    refine X.next ?_
    refine V.seq ?_
    refine V.region ?_
    refine O.p rfl rfl rfl (Pu.loadAgg rfl ag26 sz26 rfl rfl (Ld.whole 0 rfl)) ?_
    refine O.e rfl rfl rfl (Ef.call1 call96 rfl rfl (fun w hw => sysGrid_ok  v bs _ _ w ((Ld.old hx) w hw) (by first | omega | (simp only [tops_len, conts_len, bl, List.length_append, List.length_cons, List.length_nil] at *; omega)) hg hS.fits)) ?_
    rintro _ _ rfl
    refine O.exi (fun g1 => ?_)
    refine O.sep ?_
    refine O.pur ?_
    rintro rfl
    refine O.p rfl rfl rfl (Pu.move rfl rfl) ?_
    refine O.e rfl rfl rfl (Ef.callP call98 rfl rfl (fun w hw => setOf_ok points _ _ w ((Ld.old hpoints) w hw) (by omega) hpl)) ?_
    rintro _ _ ⟨rfl, rfl⟩
    refine O.e rfl rfl rfl (Ef.call1 call97 rfl rfl (fun w hw => gridSpan_ok v bs _ (tab bs) (maskL points) w (GridAt.of (i := 0) hw (by exact rfl))  hS rfl hml)) ?_
    rintro _ _ rfl
    refine O.exi (fun t1 => ?_)
    refine O.pur ?_
    rintro ⟨rfl, ht1_1⟩
    have htl := ht1_1.lt
    refine O.e rfl rfl rfl (Ef.call1 call99 rfl rfl (fun w hw => list_ok t1 w (by omega))) ?_
    rintro _ _ rfl
    refine O.exi (fun p1 => ?_)
    refine O.sep ?_
    refine O.pur ?_
    rintro ⟨rfl, hp1⟩
    refine O.p rfl rfl rfl (Pu.assign rfl rfl) ?_
    refine O.p rfl rfl rfl (Pu.assign rfl rfl) ?_
    refine O.nil ?_
    refine X.next ?_
    refine V.ret ?_
    refine X.ret2 rfl rfl rfl ?_
    exact fun w hw => St.mkExi (p1.1.1) (St.mkExi (p1.1.2) (St.mkExi (p1.2) (St.unsep (St.addPur ⟨by rw [c1], ⟨fun _ => ⟨t1, ht1_1, hp1⟩, fun h => absurd c1 h⟩⟩ (hw.sub (Sub.keep 0 rfl (Sub.nil _)))))))
set_option maxRecDepth 100000 in
set_option maxHeartbeats 1000000 in
theorem specSpanOf_ok (v : Int) (bs : List B3) (points : List Int) (A : Option Addr) (c : Nat) (pointsA : Option Addr) (pointsc : Nat) (w : World) (hx : Rd B3C w A bs) (hpoints : Rd I64 w pointsA points) (lx : bs.length ≤ 4611686018427387904) (lpoints : points.length ≤ 1099511627776) : Does Tryz.prog 30 [.agg #[.int .i64 v, .slice A bs.length c], .slice pointsA points.length pointsc] w [] (fun r => [.exi fun (oA : Option Addr) => .exi fun (oc : Nat) => .exi fun (o : List Int) => .sep (.pur (r = .tuple #[.slice oA o.length oc, .int .i64 (scode v bs points)] ∧ SpanL v bs points o)) (Own 2 I64 oA oc o)]) := by
  refine Does.enter Tryz.func30 rfl rfl [(0, .agg #[.int .i64 v, .slice A bs.length c]), (1, .slice pointsA points.length pointsc)] rfl ?_
  refine V.seq ?_
  refine V.region ?_
  refine O.e rfl rfl rfl (Ef.box rfl rfl rfl) ?_
  rintro _ _ ⟨b1, rfl, rfl⟩
  refine O.p rfl rfl rfl (Pu.assign rfl rfl) ?_
  refine O.p rfl rfl rfl (Pu.assign rfl rfl) ?_
  refine O.nil ?_
  refine X.next ?_
  refine V.seq ?_
  refine V.seq ?_
  refine V.region ?_
  refine O.p rfl rfl rfl (Pu.loadAgg rfl ag26 sz26 rfl rfl (Ld.whole 0 rfl)) ?_
  refine O.p rfl rfl rfl (Pu.move rfl rfl) ?_
  refine O.e rfl rfl rfl (Ef.callP call100 rfl rfl (fun w hw => l01Set_ok  v bs points _ _ _ _ w ((Ld.old hx) w hw) ((Ld.old hpoints) w hw) (by first | omega | (simp only [tops_len, conts_len, bl, List.length_append, List.length_cons, List.length_nil] at *; omega)) (by first | omega | (simp only [tops_len, conts_len, bl, List.length_append, List.length_cons, List.length_nil] at *; omega)) )) ?_
  rintro _ _ ⟨rfl, rfl⟩
  refine O.p rfl rfl rfl (Pu.assign rfl rfl) ?_
  refine O.nil ?_
  refine X.next ?_
  refine V.seq ?_
  refine V.region ?_
  refine O.p rfl rfl rfl (Pu.move rfl rfl) ?_
  refine O.p rfl rfl rfl (Pu.neq rfl rfl rfl) ?_
  refine O.nil ?_
  refine X.next ?_
  refine V.condNot rfl (fun c1 => ?_) (fun c1 => ?_)
  · skip
    refine V.seq ?_
    refine V.region ?_
    refine O.p rfl rfl rfl (Pu.move rfl rfl) ?_
    refine O.p rfl rfl rfl (Pu.assign rfl rfl) ?_
    refine O.p rfl rfl rfl (Pu.assign rfl rfl) ?_
    refine O.nil ?_
    refine X.next ?_
    refine V.ret ?_
    refine X.thenRet ?_
    refine X.ret2 rfl rfl rfl ?_
    exact fun w hw => St.mkExi none (St.mkExi 0 (St.mkExi [] (St.unsep (St.addPur ⟨rfl, ⟨fun h => absurd h c1, fun _ => rfl⟩⟩ (St.addNil (T := 2) (C := I64) (hw.sub (Sub.nil _)))))))
  · skip
    obtain ⟨hS, hL⟩ := sc_ok c1
    have hlo := hS.lo
    have hhi := hS.hi
    have hfew := hS.few
    have hg : ∀ b ∈ bs, good 15 b := fun b h => (hS.good b h).mono hS.hi
    have hpl := setL_lt hL hS.hi
    have hml := maskL_lt hpl
    have hpln := setL_len hL hS.hi
    refine V.skip ?_
    refine X.next ?_
    refine V.seq ?_
    refine V.ent (Ent.cons (t := 1) rfl (Ent.cons (t := 2) rfl (Ent.nil _))) ?_
    refine V.draw mo (by kernel_rfl) (fun hwf => ?_)
    refine D.p 0 rfl rfl rfl rfl rfl rfl (Pu.loadAgg rfl ag26 sz26 rfl rfl (Ld.whole 0 rfl)) ?_
    refine D.p 1 rfl rfl rfl rfl rfl rfl (Pu.move rfl rfl) ?_
    refine D.eff hwf (e := 2) rfl rfl rfl rfl (Ef.callP call103 rfl rfl (fun w hw => l07Bits_ok  points _ _ w ((Ld.old hpoints) w hw) (by first | omega | (simp only [tops_len, conts_len, bl, List.length_append, List.length_cons, List.length_nil] at *; omega)) hpl)) rfl rfl rfl ?_
    rintro _ _ ⟨rfl, rfl⟩ hs
    refine ⟨fun w hw => hw, ?_⟩
    refine D.eff hwf (e := 3) rfl rfl rfl rfl (Ef.call1 call102 rfl rfl (fun w hw => l07Span_ok  v bs (maskL points) _ _ w ((Ld.old hx) w hw) (by first | omega | (simp only [tops_len, conts_len, bl, List.length_append, List.length_cons, List.length_nil] at *; omega)) hg hml)) rfl rfl rfl ?_
    rintro _ _ rfl hs
    refine ⟨fun w hw => hs w hw.tail, ?_⟩
    refine D.exi (fun t1 => ?_)
    refine D.pur1 ?_
    rintro ⟨rfl, ht1_1, ht1_2⟩
    have htl := ht1_1
    refine D.eff hwf (e := 4) rfl rfl rfl rfl (Ef.call1 call101 rfl rfl (fun w hw => l07Points_ok t1 w (by omega))) rfl rfl rfl ?_
    rintro _ _ rfl hs
    refine ⟨fun w hw => hs w hw.tail, ?_⟩
    refine D.exi (fun p1 => ?_)
    refine D.sep ?_
    refine D.pur1 ?_
    rintro ⟨rfl, hp1⟩
    refine D.p 5 rfl rfl rfl rfl rfl rfl (Pu.assign rfl rfl) ?_
    refine D.p 6 rfl rfl rfl rfl rfl rfl (Pu.assign rfl rfl) ?_
    refine D.done hwf rfl ?_
    refine X.next ?_
    refine V.ret ?_
    refine X.ret2 rfl rfl rfl ?_
    exact fun w hw => St.mkExi (p1.1.1) (St.mkExi (p1.1.2) (St.mkExi (p1.2) (St.unsep (St.addPur ⟨by rw [c1], ⟨fun _ => ⟨t1, ht1_2 hS, hp1⟩, fun h => absurd c1 h⟩⟩ (hw.sub (Sub.keep 0 rfl (Sub.nil _)))))))
set_option maxRecDepth 100000 in
set_option maxHeartbeats 1000000 in
theorem implIsClosed_ok (v : Int) (bs : List B3) (points : List Int) (A : Option Addr) (c : Nat) (pointsA : Option Addr) (pointsc : Nat) (w : World) (hx : Rd B3C w A bs) (hpoints : Rd I64 w pointsA points) (lx : bs.length ≤ 4611686018427387904) (lpoints : points.length ≤ 1099511627776) : Does Tryz.prog 31 [.agg #[.int .i64 v, .slice A bs.length c], .slice pointsA points.length pointsc] w [] (fun r => [.pur (r = .tuple #[.bool (decide (scode v bs points = 0 ∧ Clo bs (maskL points))), .int .i64 (scode v bs points)])]) := by
  refine Does.enter Tryz.func31 rfl rfl [(0, .agg #[.int .i64 v, .slice A bs.length c]), (1, .slice pointsA points.length pointsc)] rfl ?_
  refine V.seq ?_
  refine V.region ?_
  refine O.e rfl rfl rfl (Ef.box rfl rfl rfl) ?_
  rintro _ _ ⟨b1, rfl, rfl⟩
  refine O.p rfl rfl rfl (Pu.assign rfl rfl) ?_
  refine O.p rfl rfl rfl (Pu.assign rfl rfl) ?_
  refine O.nil ?_
  refine X.next ?_
  refine V.seq ?_
  refine V.seq ?_
  refine V.region ?_
  refine O.p rfl rfl rfl (Pu.loadAgg rfl ag26 sz26 rfl rfl (Ld.whole 0 rfl)) ?_
  refine O.p rfl rfl rfl (Pu.move rfl rfl) ?_
  refine O.e rfl rfl rfl (Ef.callP call95 rfl rfl (fun w hw => setCode_ok  v bs points _ _ _ _ w ((Ld.old hx) w hw) ((Ld.old hpoints) w hw) (by first | omega | (simp only [tops_len, conts_len, bl, List.length_append, List.length_cons, List.length_nil] at *; omega)) (by first | omega | (simp only [tops_len, conts_len, bl, List.length_append, List.length_cons, List.length_nil] at *; omega)) )) ?_
  rintro _ _ ⟨rfl, rfl⟩
  refine O.p rfl rfl rfl (Pu.assign rfl rfl) ?_
  refine O.nil ?_
  refine X.next ?_
  refine V.seq ?_
  refine V.region ?_
  refine O.p rfl rfl rfl (Pu.move rfl rfl) ?_
  refine O.p rfl rfl rfl (Pu.neq rfl rfl rfl) ?_
  refine O.nil ?_
  refine X.next ?_
  refine V.condNot rfl (fun c1 => ?_) (fun c1 => ?_)
  · skip
    refine V.seq ?_
    refine V.region ?_
    refine O.p rfl rfl rfl (Pu.move rfl rfl) ?_
    refine O.p rfl rfl rfl (Pu.assign rfl rfl) ?_
    refine O.p rfl rfl rfl (Pu.assign rfl rfl) ?_
    refine O.nil ?_
    refine X.next ?_
    refine V.ret ?_
    refine X.thenRet ?_
    refine X.ret2 rfl rfl rfl ?_
    exact fun w hw => St.addPur (by simp [c1]) (hw.sub (Sub.nil _))
  · skip
    obtain ⟨hS, hL⟩ := sc_ok c1
    have hlo := hS.lo
    have hhi := hS.hi
    have hfew := hS.few
    have hg : ∀ b ∈ bs, good 15 b := fun b h => (hS.good b h).mono hS.hi
    have hpl := setL_lt hL hS.hi
    have hml := maskL_lt hpl
    have hpln := setL_len hL hS.hi
    refine V.skip ?_
    refine X.next ?_
    refine V.seq ?_
    refine V.region ?_
    refine O.p rfl rfl rfl (Pu.move rfl rfl) ?_
    refine O.e rfl rfl rfl (Ef.callP call98 rfl rfl (fun w hw => setOf_ok points _ _ w ((Ld.old hpoints) w hw) (by omega) hpl)) ?_
    rintro _ _ ⟨rfl, rfl⟩
    refine O.p rfl rfl rfl (Pu.assign rfl rfl) ?_
    refine O.nil ?_
    refine X.next ?_
    refine V.seq ?_
    refine V.region ?_
    refine O.p rfl rfl rfl (Pu.loadAgg rfl ag26 sz26 rfl rfl (Ld.whole 0 rfl)) ?_
    refine O.e rfl rfl rfl (Ef.call1 call96 rfl rfl (fun w hw => sysGrid_ok  v bs _ _ w ((Ld.old hx) w hw) (by first | omega | (simp only [tops_len, conts_len, bl, List.length_append, List.length_cons, List.length_nil] at *; omega)) hg hS.fits)) ?_
    rintro _ _ rfl
    refine O.exi (fun g1 => ?_)
    refine O.sep ?_
    refine O.pur ?_
    rintro rfl
    refine O.p rfl rfl rfl (Pu.move rfl rfl) ?_
    refine O.e rfl rfl rfl (Ef.call1 call97 rfl rfl (fun w hw => gridSpan_ok v bs _ (tab bs) (maskL points) w (GridAt.of (i := 0) hw (by exact rfl))  hS rfl hml)) ?_
    rintro _ _ rfl
    refine O.exi (fun t1 => ?_)
    refine O.pur ?_
    rintro ⟨rfl, ht1_1⟩
    have htl := ht1_1.lt
    refine O.p rfl rfl rfl (Pu.move rfl rfl) ?_
    refine O.p rfl rfl rfl (Pu.eql rfl rfl rfl) ?_
    refine O.p rfl rfl rfl (Pu.assign rfl rfl) ?_
    refine O.p rfl rfl rfl (Pu.assign rfl rfl) ?_
    refine O.nil ?_
    refine X.next ?_
    refine V.ret ?_
    refine X.ret2 rfl rfl rfl ?_
    exact fun w hw => St.addPur (by have e := span_self ht1_1; rw [c1, show decide ((t1 : Int) = (maskL points : Int)) = decide ((0 : Int) = 0 ∧ Clo bs (maskL points)) from decide_eq_decide.2 ⟨fun h => ⟨rfl, e.1 (by omega)⟩, fun h => by have := e.2 h.2; omega⟩]) (hw.sub (Sub.nil _))
set_option maxRecDepth 100000 in
set_option maxHeartbeats 1000000 in
theorem specIsClosed_ok (v : Int) (bs : List B3) (points : List Int) (A : Option Addr) (c : Nat) (pointsA : Option Addr) (pointsc : Nat) (w : World) (hx : Rd B3C w A bs) (hpoints : Rd I64 w pointsA points) (lx : bs.length ≤ 4611686018427387904) (lpoints : points.length ≤ 1099511627776) : Does Tryz.prog 39 [.agg #[.int .i64 v, .slice A bs.length c], .slice pointsA points.length pointsc] w [] (fun r => [.pur (r = .tuple #[.bool (decide (scode v bs points = 0 ∧ Clo bs (maskL points))), .int .i64 (scode v bs points)])]) := by
  refine Does.enter Tryz.func39 rfl rfl [(0, .agg #[.int .i64 v, .slice A bs.length c]), (1, .slice pointsA points.length pointsc)] rfl ?_
  refine V.seq ?_
  refine V.region ?_
  refine O.e rfl rfl rfl (Ef.box rfl rfl rfl) ?_
  rintro _ _ ⟨b1, rfl, rfl⟩
  refine O.p rfl rfl rfl (Pu.assign rfl rfl) ?_
  refine O.p rfl rfl rfl (Pu.assign rfl rfl) ?_
  refine O.nil ?_
  refine X.next ?_
  refine V.seq ?_
  refine V.seq ?_
  refine V.region ?_
  refine O.p rfl rfl rfl (Pu.loadAgg rfl ag26 sz26 rfl rfl (Ld.whole 0 rfl)) ?_
  refine O.p rfl rfl rfl (Pu.move rfl rfl) ?_
  refine O.e rfl rfl rfl (Ef.callP call100 rfl rfl (fun w hw => l01Set_ok  v bs points _ _ _ _ w ((Ld.old hx) w hw) ((Ld.old hpoints) w hw) (by first | omega | (simp only [tops_len, conts_len, bl, List.length_append, List.length_cons, List.length_nil] at *; omega)) (by first | omega | (simp only [tops_len, conts_len, bl, List.length_append, List.length_cons, List.length_nil] at *; omega)) )) ?_
  rintro _ _ ⟨rfl, rfl⟩
  refine O.p rfl rfl rfl (Pu.assign rfl rfl) ?_
  refine O.nil ?_
  refine X.next ?_
  refine V.seq ?_
  refine V.region ?_
  refine O.p rfl rfl rfl (Pu.move rfl rfl) ?_
  refine O.p rfl rfl rfl (Pu.neq rfl rfl rfl) ?_
  refine O.nil ?_
  refine X.next ?_
  refine V.condNot rfl (fun c1 => ?_) (fun c1 => ?_)
  · skip
    refine V.seq ?_
    refine V.region ?_
    refine O.p rfl rfl rfl (Pu.move rfl rfl) ?_
    refine O.p rfl rfl rfl (Pu.assign rfl rfl) ?_
    refine O.p rfl rfl rfl (Pu.assign rfl rfl) ?_
    refine O.nil ?_
    refine X.next ?_
    refine V.ret ?_
    refine X.thenRet ?_
    refine X.ret2 rfl rfl rfl ?_
    exact fun w hw => St.addPur (by simp [c1]) (hw.sub (Sub.nil _))
  · skip
    obtain ⟨hS, hL⟩ := sc_ok c1
    have hlo := hS.lo
    have hhi := hS.hi
    have hfew := hS.few
    have hg : ∀ b ∈ bs, good 15 b := fun b h => (hS.good b h).mono hS.hi
    have hpl := setL_lt hL hS.hi
    have hml := maskL_lt hpl
    have hpln := setL_len hL hS.hi
    refine V.skip ?_
    refine X.next ?_
    refine V.seq ?_
    refine V.ent (Ent.cons (t := 1) rfl (Ent.cons (t := 2) rfl (Ent.nil _))) ?_
    refine V.draw mo (by kernel_rfl) (fun hwf => ?_)
    refine D.p 0 rfl rfl rfl rfl rfl rfl (Pu.loadAgg rfl ag26 sz26 rfl rfl (Ld.whole 0 rfl)) ?_
    refine D.p 1 rfl rfl rfl rfl rfl rfl (Pu.move rfl rfl) ?_
    refine D.eff hwf (e := 2) rfl rfl rfl rfl (Ef.callP call103 rfl rfl (fun w hw => l07Bits_ok  points _ _ w ((Ld.old hpoints) w hw) (by first | omega | (simp only [tops_len, conts_len, bl, List.length_append, List.length_cons, List.length_nil] at *; omega)) hpl)) rfl rfl rfl ?_
    rintro _ _ ⟨rfl, rfl⟩ hs
    refine ⟨fun w hw => hw, ?_⟩
    refine D.eff hwf (e := 3) rfl rfl rfl rfl (Ef.callP call118 rfl rfl (fun w hw => l07Closed_ok  v bs (maskL points) _ _ w ((Ld.old hx) w hw) (by first | omega | (simp only [tops_len, conts_len, bl, List.length_append, List.length_cons, List.length_nil] at *; omega)) hg hml hfew)) rfl rfl rfl ?_
    rintro _ _ ⟨rfl, rfl⟩ hs
    refine ⟨fun w hw => hw, ?_⟩
    refine D.p 4 rfl rfl rfl rfl rfl rfl (Pu.assign rfl rfl) ?_
    refine D.p 5 rfl rfl rfl rfl rfl rfl (Pu.assign rfl rfl) ?_
    refine D.done hwf rfl ?_
    refine X.next ?_
    refine V.ret ?_
    refine X.ret2 rfl rfl rfl ?_
    exact fun w hw => St.addPur (by simp [c1]) (hw.sub (Sub.nil _))
set_option maxRecDepth 100000 in
set_option maxHeartbeats 1000000 in
theorem indexV_ok (s : List Int) (v_ : Int) (sA : Option Addr) (sc : Nat) (w : World) (hs : Rd I64 w sA s) (ls : s.length ≤ 1099511627776) : Does Tryz.prog 115 [.slice sA s.length sc, .int .i64 v_] w [] (fun r => [.pur (r = .int .i64 (posQ s v_))]) := by
  refine Does.enter Tryz.func115 rfl rfl [(0, .slice sA s.length sc), (1, .int .i64 v_)] rfl ?_
  refine V.seq ?_
  refine V.region ?_
  refine O.p rfl rfl rfl (Pu.assign rfl rfl) ?_
  refine O.nil ?_
  refine X.next ?_
  refine V.seq ?_
  refine V.seq ?_
  refine V.region ?_
  refine O.p rfl rfl rfl (Pu.move rfl rfl) ?_
  refine O.p rfl rfl rfl (Pu.len rfl Tryz.underlying34 rfl) ?_
  refine O.p rfl rfl rfl (Pu.move rfl rfl) ?_
  refine O.nil ?_
  refine X.next ?_
  refine V.block ?_
  refine V.loop2 (β := Nat) (fun i => [(8, .int .i64 (i : Int))]) _ (fun i => []) (fun i => i ≤ s.length ∧ ∀ j (hj : j < s.length), j < i → ¬ s[j] = v_) (fun i => s.length - i) 0 ⟨by omega, fun j hj h => by omega⟩ (Ent.cons rfl (Ent.nil _)) (Ent.cons (t := 0) rfl (Ent.cons (t := 1) rfl (Ent.cons (t := 7) rfl (Ent.nil _)))) (Sub.nil _) ?_
  rintro i ⟨hi, hn⟩
  refine V.seq ?_
  refine V.region ?_
  refine O.p rfl rfl rfl (Pu.lss rfl rfl rfl) ?_
  refine O.nil ?_
  refine X.next ?_
  refine V.seq ?_
  refine V.condD rfl (fun c1 => ?_) (fun c1 => ?_)
  · skip
    refine V.skip ?_
    refine X.next ?_
    refine V.seq ?_
    refine V.block ?_
    refine V.seq ?_
    refine V.region ?_
    refine O.p rfl rfl rfl (Pu.move rfl rfl) ?_
    refine O.p rfl rfl rfl (Pu.assign rfl rfl) ?_
    refine O.nil ?_
    refine X.next ?_
    refine V.seq ?_
    refine V.region ?_
    refine O.p rfl rfl rfl (Pu.move rfl rfl) ?_
    refine O.p rfl rfl rfl (Pu.move rfl rfl) ?_
    refine O.p rfl rfl rfl (Pu.move rfl rfl) ?_
    refine O.p rfl rfl rfl (Pu.indexAddr (i) rfl Tryz.underlying34 sz2 rfl rfl (by omega) (by omega) (hs.some (by omega))) ?_
    have e1 : i < s.length := by omega
    refine O.p rfl rfl rfl (Pu.load rfl pl2 rfl (Ld.rd (Ld.old hs) (k := i) e1 rfl rfl)) ?_
    refine O.p rfl rfl rfl (Pu.eql rfl rfl rfl) ?_
    refine O.nil ?_
    refine X.next ?_
    refine V.condD rfl (fun c2 => ?_) (fun c2 => ?_)
    · skip
      refine V.seq ?_
      refine V.region ?_
      refine O.p rfl rfl rfl (Pu.move rfl rfl) ?_
      refine O.p rfl rfl rfl (Pu.assign rfl rfl) ?_
      refine O.nil ?_
      refine X.next ?_
      refine V.ret ?_
      refine X.blockRet ?_
      refine X.thenRet ?_
      refine X.thenRet ?_
      refine X.blockRet ?_
      refine X.thenRet ?_
      refine X.ret1 rfl rfl ?_
      exact fun w hw => St.retP (iv ((idxP_found (p := fun x => x = v_) e1 c2.symm hn).symm)) hw
    · skip
      refine V.skip ?_
      refine X.blockNormal ?_
      refine X.next ?_
      refine V.region ?_
      refine O.p rfl rfl rfl (Pu.add64 (r := ((i + 1 : Nat) : Int)) rfl (by omega) rfl rfl rfl) ?_
      refine O.p rfl rfl rfl (Pu.move rfl rfl) ?_
      refine O.nil ?_
      exact X.back2 (i + 1) ⟨by omega, fun j hj h => by by_cases e : j = i; (· subst e; exact fun e2 => c2 e2.symm); (· exact hn j hj (by omega))⟩ (by first | omega | (dsimp only; omega)) (Ent.cons rfl (Ent.nil _)) (Ent.cons (t := 0) rfl (Ent.cons (t := 1) rfl (Ent.cons (t := 7) rfl (Ent.nil _)))) (Sub.nil _)
  · skip
    refine V.exit ?_
    refine X.thenExit ?_
    refine X.thenExit ?_
    refine X.blockHit ?_
    refine X.next ?_
    refine V.seq ?_
    refine V.region ?_
    refine O.p rfl rfl rfl (Pu.assign rfl rfl) ?_
    refine O.nil ?_
    refine X.next ?_
    refine V.ret ?_
    refine X.ret1 rfl rfl ?_
    exact fun w hw => St.retP (iv ((idxP_none (p := fun x => x = v_) (fun j hj => hn j hj (by omega))).symm)) hw
set_option maxRecDepth 100000 in
set_option maxHeartbeats 1000000 in
theorem blocksOnV_ok (v : Int) (bs : List B3) (points : List Int) (A : Option Addr) (c : Nat) (pointsA : Option Addr) (pointsc : Nat) (w : World) (hx : Rd B3C w A bs) (hpoints : Rd I64 w pointsA points) (lx : bs.length ≤ 4611686018427387904) (lpoints : points.length ≤ 1099511627776) (hS : STS v bs) (hq : SetL v points) (h3 : 3 ≤ points.length) : Does Tryz.prog 36 [.agg #[.int .i64 v, .slice A bs.length c], .slice pointsA points.length pointsc] w [] (fun rv_ => [.exi fun (rA : Option Addr) => .exi fun (rc : Nat) => .exi fun (r : List B3) => .sep (.pur (rv_ = .tuple #[.agg #[.int .i64 (points.length : Int), .slice rA r.length rc], .int .i64 0] ∧ r = onB points bs)) (Own 51 B3C rA rc r)]) := by
  refine Does.enter Tryz.func36 rfl rfl [(0, .agg #[.int .i64 v, .slice A bs.length c]), (1, .slice pointsA points.length pointsc)] rfl ?_
  have hlo := hS.lo
  have hhi := hS.hi
  have hfew := hS.few
  have hpln := setL_len hq hS.hi
  refine V.seq ?_
  refine V.region ?_
  refine O.e rfl rfl rfl (Ef.box rfl rfl rfl) ?_
  rintro _ _ ⟨b1, rfl, rfl⟩
  refine O.e rfl rfl rfl (Ef.alloc rfl zr26 rfl) ?_
  rintro _ _ ⟨b2, rfl, rfl⟩
  refine O.p rfl rfl rfl (Pu.assign rfl rfl) ?_
  refine O.nil ?_
  refine X.next ?_
  refine V.seq ?_
  refine V.seq ?_
  refine V.region ?_
  refine O.p rfl rfl rfl (Pu.loadAgg rfl ag26 sz26 rfl rfl (Ld.whole 1 rfl)) ?_
  refine O.e rfl rfl rfl (Ef.callP call77 rfl rfl (fun w hw => IsSystem_ok _ bs _ _ w ((Ld.old hx) w hw) (by omega))) ?_
  rintro _ _ ⟨rfl, rfl⟩
  refine O.p rfl rfl rfl (Pu.not rfl rfl) ?_
  refine O.nil ?_
  refine X.next ?_
  refine V.condNot rfl (fun c1 => ?_) (fun c1 => ?_)
  · skip
    exact absurd hS c1
  · skip
    refine V.skip ?_
    refine X.next ?_
    refine V.seq ?_
    refine V.seq ?_
    refine V.region ?_
    refine O.p rfl rfl rfl (Pu.move rfl rfl) ?_
    refine O.p rfl rfl rfl (Pu.len rfl Tryz.underlying34 rfl) ?_
    refine O.p rfl rfl rfl (Pu.lss rfl rfl rfl) ?_
    refine O.p rfl rfl rfl (Pu.move rfl rfl) ?_
    refine O.splitD 21 rfl (fun c2 => ?_) (fun c2 => ?_)
    · skip
      omega
    · skip
      refine O.gp rfl rfl rfl rfl rfl (Pu.move rfl rfl) ?_
      refine O.gp rfl rfl rfl rfl rfl (Pu.fieldAddr 0 rfl Tryz.underlying26 rfl sz2 rfl rfl) ?_
      refine O.gp rfl rfl rfl rfl rfl (Pu.load rfl pl2 rfl (Ld.blk 1 rfl rfl)) ?_
      refine O.ge rfl rfl rfl rfl rfl (Ef.callP call114 rfl rfl (fun w hw => rises_ok _ _ _ _ w ((Ld.old hpoints) w hw) (by omega) (by omega))) ?_
      rintro _ _ ⟨rfl, rfl⟩
      refine O.gp rfl rfl rfl rfl rfl (Pu.not rfl rfl) ?_
      refine O.p rfl rfl rfl (Pu.pickF rfl rfl rfl) ?_
      refine O.nil ?_
      refine X.next ?_
      refine V.condNot rfl (fun c3 => ?_) (fun c3 => ?_)
      · skip
        exact absurd (rises_set.2 hq) c3
      · skip
        refine V.skip ?_
        refine X.next ?_
        refine V.seq ?_
        refine V.region ?_
        refine O.p rfl rfl rfl (Pu.move rfl rfl) ?_
        refine O.p rfl rfl rfl (Pu.len rfl Tryz.underlying34 rfl) ?_
        refine O.p rfl rfl rfl (Pu.buildS (cs := [.int .i64 (↑points.length : Int), .slice none 0 0]) rfl rfl Tryz.underlying26 zr26 (by kernel_rfl) rfl (by kernel_rfl)) ?_
        refine O.e rfl rfl rfl (Ef.alloc rfl zr26 rfl) ?_
        rintro _ _ ⟨b3, rfl, rfl⟩
        refine O.s rfl rfl (Ef.storeAll 0 rfl sz26 rfl rfl rfl rfl (by simp [Value.oneCell']) rfl) ?_
        rintro _ _ rfl
        refine O.nil ?_
        refine X.next ?_
        refine V.seq ?_
        refine V.seq ?_
        refine V.region ?_
        refine O.p rfl rfl rfl (Pu.fieldAddr 1 rfl Tryz.underlying26 rfl sz24 rfl rfl) ?_
        refine O.p rfl rfl rfl (Pu.load rfl pl24 rfl (Ld.blk 2 rfl rfl)) ?_
        refine O.p rfl rfl rfl (Pu.len rfl Tryz.underlying24 rfl) ?_
        refine O.p rfl rfl rfl (Pu.move rfl rfl) ?_
        refine O.nil ?_
        refine X.next ?_
        refine V.block ?_
        refine V.map (fun w hw => St.addNil (T := 51) (C := B3C) hw) ?_
        refine V.loop3 (β := Nat × (Option Addr) × Nat × (List B3)) (fun x => [(35, .int .i64 (x.1 : Int))]) _ (fun x => [Blk b3 [.int .i64 (↑points.length : Int), .slice x.2.1 x.2.2.2.length x.2.2.1] 26, Own 51 B3C x.2.1 x.2.2.1 x.2.2.2]) _ (fun x => x.1 ≤ bs.length ∧ x.2.2.2 = ((bs.take x.1).filter fun d => decide (onQ points d)).map (renI points) ∧ x.2.2.2.length ≤ x.1) (fun x => bs.length - x.1) (0, none, 0, []) (by (try dsimp only); exact ⟨by omega, rfl, by simp⟩) (Ent.cons rfl (Ent.nil _)) (Ent.cons (t := 1) rfl (Ent.cons (t := 4) rfl (Ent.cons (t := 6) rfl (Ent.cons (t := 33) rfl (Ent.cons (t := 34) rfl (Ent.nil _)))))) (Sub.keep 1 rfl (Sub.keep 0 rfl (Sub.keep 0 rfl (Sub.keep 0 rfl (Sub.nil _))))) ?_
        rintro ⟨k, outA, outc, out⟩ ⟨hk, ho, hl⟩
        dsimp only at hk ho hl ⊢
        refine V.seq ?_
        refine V.region ?_
        refine O.p rfl rfl rfl (Pu.lss rfl rfl rfl) ?_
        refine O.nil ?_
        refine X.next ?_
        refine V.seq ?_
        refine V.condD rfl (fun c4 => ?_) (fun c4 => ?_)
        · skip
          refine V.skip ?_
          refine X.next ?_
          refine V.seq ?_
          refine V.block ?_
          refine V.seq ?_
          refine V.region ?_
          refine O.p rfl rfl rfl (Pu.indexAddr (k) rfl Tryz.underlying24 sz51 rfl rfl (by omega) (by omega) (hx.some (by omega))) ?_
          have e1 : k < bs.length := by omega
          refine O.p rfl rfl rfl (Pu.loadAgg' (v := B3.v (bs[k]'e1)) rfl rfl ag51 sz51 rfl rfl (Ld.rds (Ld.old hx) (k := k) e1 rfl)) ?_
          refine O.e rfl rfl rfl (Ef.alloc rfl zr51 rfl) ?_
          rintro _ _ ⟨b4, rfl, rfl⟩
          refine O.s rfl rfl (Ef.storeAll 0 rfl sz51 rfl rfl rfl rfl (by simp [Value.oneCell']) rfl) ?_
          rintro _ _ rfl
          refine O.nil ?_
          refine X.next ?_
          refine V.seq ?_
          refine V.region ?_
          refine O.e rfl rfl rfl (Ef.alloc rfl zr51 rfl) ?_
          rintro _ _ ⟨b5, rfl, rfl⟩
          refine O.nil ?_
          refine X.next ?_
          refine V.seq ?_
          refine V.region ?_
          refine O.p rfl rfl rfl (Pu.assign rfl rfl) ?_
          refine O.nil ?_
          refine X.next ?_
          refine V.seq ?_
          refine V.seq ?_
          refine V.region ?_
          refine O.p rfl rfl rfl (Pu.loadAgg' (v := B3.v (bs[k]'e1)) rfl rfl ag51 sz51 rfl rfl (Ld.whole 1 rfl)) ?_
          refine O.p rfl rfl rfl (Pu.move rfl rfl) ?_
          refine O.nil ?_
          refine X.next ?_
          refine V.block ?_
          refine V.unroll 3 ?_
          refine V.seq ?_
          refine V.region ?_
          refine O.p rfl rfl rfl (Pu.isT (by decide) (Pu.lss rfl rfl rfl)) ?_
          refine O.nil ?_
          refine X.next ?_
          refine V.seq ?_
          refine V.condT rfl ?_
          refine V.skip ?_
          refine X.next ?_
          refine V.seq ?_
          refine V.block ?_
          refine V.seq ?_
          refine V.region ?_
          refine O.p rfl rfl rfl (Pu.move rfl rfl) ?_
          refine O.p rfl rfl rfl (Pu.indexAgg 0 rfl Tryz.underlying51 sz2 pl2 rfl rfl (by decide) (by decide) rfl) ?_
          refine O.p rfl rfl rfl (Pu.assign rfl rfl) ?_
          refine O.p rfl rfl rfl (Pu.assign rfl rfl) ?_
          refine O.nil ?_
          refine X.next ?_
          refine V.seq ?_
          refine V.region ?_
          refine O.p rfl rfl rfl (Pu.move rfl rfl) ?_
          refine O.p rfl rfl rfl (Pu.move rfl rfl) ?_
          refine O.e rfl rfl rfl (Ef.callP call115 rfl rfl (fun w hw => indexV_ok  points ((bs[k]'e1).1) _ _ w ((Ld.old hpoints) w hw) (by first | omega | (simp only [tops_len, conts_len, bl, List.length_append, List.length_cons, List.length_nil] at *; omega)) )) ?_
          rintro _ _ ⟨rfl, rfl⟩
          refine O.p rfl rfl rfl (Pu.assign rfl rfl) ?_
          refine O.nil ?_
          refine X.next ?_
          refine V.seq ?_
          refine V.region ?_
          refine O.p rfl rfl rfl (Pu.move rfl rfl) ?_
          refine O.p rfl rfl rfl (Pu.move rfl rfl) ?_
          refine O.gp rfl rfl rfl rfl rfl (Pu.move rfl rfl) ?_
          refine O.gp rfl rfl rfl rfl rfl (Pu.geq rfl rfl rfl) ?_
          refine O.p rfl rfl rfl (Pu.pickT rfl rfl rfl) ?_
          refine O.p rfl rfl rfl (Pu.assign rfl rfl) ?_
          refine O.nil ?_
          refine X.next ?_
          refine V.region ?_
          refine O.p rfl rfl rfl (Pu.move rfl rfl) ?_
          refine O.p rfl rfl rfl (Pu.move rfl rfl) ?_
          refine O.p rfl rfl rfl (Pu.indexArr 0 0 rfl Tryz.underlying51 sz2 rfl rfl (by decide) (by decide) (by decide)) ?_
          refine O.s rfl rfl (Ef.store1 (cs' := [_, _, _]) 0 rfl sz2 rfl rfl rfl rfl rfl (ltb rfl) rfl) ?_
          rintro _ _ rfl
          refine O.nil ?_
          refine X.blockNormal ?_
          refine X.next ?_
          refine V.region ?_
          refine O.p rfl rfl rfl (Pu.add64 (r := 1) (by decide) (by decide) rfl rfl rfl) ?_
          refine O.p rfl rfl rfl (Pu.move rfl rfl) ?_
          refine O.nil ?_
          refine X.again 2 ?_
          refine V.seq ?_
          refine V.region ?_
          refine O.p rfl rfl rfl (Pu.isT (by decide) (Pu.lss rfl rfl rfl)) ?_
          refine O.nil ?_
          refine X.next ?_
          refine V.seq ?_
          refine V.condT rfl ?_
          refine V.skip ?_
          refine X.next ?_
          refine V.seq ?_
          refine V.block ?_
          refine V.seq ?_
          refine V.region ?_
          refine O.p rfl rfl rfl (Pu.move rfl rfl) ?_
          refine O.p rfl rfl rfl (Pu.indexAgg 1 rfl Tryz.underlying51 sz2 pl2 rfl rfl (by decide) (by decide) rfl) ?_
          refine O.p rfl rfl rfl (Pu.assign rfl rfl) ?_
          refine O.p rfl rfl rfl (Pu.assign rfl rfl) ?_
          refine O.nil ?_
          refine X.next ?_
          refine V.seq ?_
          refine V.region ?_
          refine O.p rfl rfl rfl (Pu.move rfl rfl) ?_
          refine O.p rfl rfl rfl (Pu.move rfl rfl) ?_
          refine O.e rfl rfl rfl (Ef.callP call115 rfl rfl (fun w hw => indexV_ok  points ((bs[k]'e1).2.1) _ _ w ((Ld.old hpoints) w hw) (by first | omega | (simp only [tops_len, conts_len, bl, List.length_append, List.length_cons, List.length_nil] at *; omega)) )) ?_
          rintro _ _ ⟨rfl, rfl⟩
          refine O.p rfl rfl rfl (Pu.assign rfl rfl) ?_
          refine O.nil ?_
          refine X.next ?_
          refine V.seq ?_
          refine V.region ?_
          refine O.p rfl rfl rfl (Pu.move rfl rfl) ?_
          refine O.p rfl rfl rfl (Pu.move rfl rfl) ?_
          refine O.splitD 48 rfl (fun c5 => ?_) (fun c5 => ?_)
          · skip
            refine O.gp rfl rfl rfl rfl rfl (Pu.move rfl rfl) ?_
            refine O.gp rfl rfl rfl rfl rfl (Pu.geq rfl rfl rfl) ?_
            refine O.p rfl rfl rfl (Pu.pickT rfl rfl rfl) ?_
            refine O.p rfl rfl rfl (Pu.assign rfl rfl) ?_
            refine O.nil ?_
            refine X.next ?_
            refine V.region ?_
            refine O.p rfl rfl rfl (Pu.move rfl rfl) ?_
            refine O.p rfl rfl rfl (Pu.move rfl rfl) ?_
            refine O.p rfl rfl rfl (Pu.indexArr 1 1 rfl Tryz.underlying51 sz2 rfl rfl (by decide) (by decide) (by decide)) ?_
            refine O.s rfl rfl (Ef.store1 (cs' := [_, _, _]) 0 rfl sz2 rfl rfl rfl rfl rfl (ltb rfl) rfl) ?_
            rintro _ _ rfl
            refine O.nil ?_
            refine X.blockNormal ?_
            refine X.next ?_
            refine V.region ?_
            refine O.p rfl rfl rfl (Pu.add64 (r := 2) (by decide) (by decide) rfl rfl rfl) ?_
            refine O.p rfl rfl rfl (Pu.move rfl rfl) ?_
            refine O.nil ?_
            refine X.again 1 ?_
            refine V.seq ?_
            refine V.region ?_
            refine O.p rfl rfl rfl (Pu.isT (by decide) (Pu.lss rfl rfl rfl)) ?_
            refine O.nil ?_
            refine X.next ?_
            refine V.seq ?_
            refine V.condT rfl ?_
            refine V.skip ?_
            refine X.next ?_
            refine V.seq ?_
            refine V.block ?_
            refine V.seq ?_
            refine V.region ?_
            refine O.p rfl rfl rfl (Pu.move rfl rfl) ?_
            refine O.p rfl rfl rfl (Pu.indexAgg 2 rfl Tryz.underlying51 sz2 pl2 rfl rfl (by decide) (by decide) rfl) ?_
            refine O.p rfl rfl rfl (Pu.assign rfl rfl) ?_
            refine O.p rfl rfl rfl (Pu.assign rfl rfl) ?_
            refine O.nil ?_
            refine X.next ?_
            refine V.seq ?_
            refine V.region ?_
            refine O.p rfl rfl rfl (Pu.move rfl rfl) ?_
            refine O.p rfl rfl rfl (Pu.move rfl rfl) ?_
            refine O.e rfl rfl rfl (Ef.callP call115 rfl rfl (fun w hw => indexV_ok  points ((bs[k]'e1).2.2) _ _ w ((Ld.old hpoints) w hw) (by first | omega | (simp only [tops_len, conts_len, bl, List.length_append, List.length_cons, List.length_nil] at *; omega)) )) ?_
            rintro _ _ ⟨rfl, rfl⟩
            refine O.p rfl rfl rfl (Pu.assign rfl rfl) ?_
            refine O.nil ?_
            refine X.next ?_
            refine V.seq ?_
            refine V.region ?_
            refine O.p rfl rfl rfl (Pu.move rfl rfl) ?_
            refine O.p rfl rfl rfl (Pu.move rfl rfl) ?_
            refine O.splitD 48 rfl (fun c6 => ?_) (fun c6 => ?_)
            · skip
              refine O.gp rfl rfl rfl rfl rfl (Pu.move rfl rfl) ?_
              refine O.gp rfl rfl rfl rfl rfl (Pu.geq rfl rfl rfl) ?_
              refine O.p rfl rfl rfl (Pu.pickT rfl rfl rfl) ?_
              refine O.p rfl rfl rfl (Pu.assign rfl rfl) ?_
              refine O.nil ?_
              refine X.next ?_
              refine V.region ?_
              refine O.p rfl rfl rfl (Pu.move rfl rfl) ?_
              refine O.p rfl rfl rfl (Pu.move rfl rfl) ?_
              refine O.p rfl rfl rfl (Pu.indexArr 2 2 rfl Tryz.underlying51 sz2 rfl rfl (by decide) (by decide) (by decide)) ?_
              refine O.s rfl rfl (Ef.store1 (cs' := [_, _, _]) 0 rfl sz2 rfl rfl rfl rfl rfl (ltb rfl) rfl) ?_
              rintro _ _ rfl
              refine O.nil ?_
              refine X.blockNormal ?_
              refine X.next ?_
              refine V.region ?_
              refine O.p rfl rfl rfl (Pu.add64 (r := 3) (by decide) (by decide) rfl rfl rfl) ?_
              refine O.p rfl rfl rfl (Pu.move rfl rfl) ?_
              refine O.nil ?_
              refine X.again 0 ?_
              refine V.seq ?_
              refine V.region ?_
              refine O.p rfl rfl rfl (Pu.isF (by decide) (Pu.lss rfl rfl rfl)) ?_
              refine O.nil ?_
              refine X.next ?_
              refine V.seq ?_
              refine V.condF rfl ?_
              refine V.exit ?_
              refine X.thenExit ?_
              refine X.thenExit ?_
              refine X.blockHit ?_
              refine X.next ?_
              refine V.seq ?_
              refine V.region ?_
              refine O.p rfl rfl rfl (Pu.move rfl rfl) ?_
              refine O.nil ?_
              refine X.next ?_
              refine V.condD rfl (fun c7 => ?_) (fun c7 => ?_)
              · skip
                refine V.region ?_
                refine O.p rfl rfl rfl (Pu.fieldAddr 1 rfl Tryz.underlying26 rfl sz24 rfl rfl) ?_
                refine O.p rfl rfl rfl (Pu.load rfl pl24 rfl (Ld.blk 2 rfl rfl)) ?_
                refine O.p rfl rfl rfl (Pu.loadAgg' (v := B3.v (renI points (bs[k]'e1))) rfl rfl ag51 sz51 rfl rfl (Ld.whole 0 rfl)) ?_
                refine O.e rfl rfl rfl (Ef.build B3C ([(renI points (bs[k]'e1))] : List B3) rfl Tryz.underlying24 inf51 rfl rfl rfl (by first | decide | (simp; done)) (by kernel_rfl)) ?_
                rintro _ _ ⟨A1, hA1, rfl, rfl⟩
                refine O.e rfl rfl rfl (Ef.append (xs := out) (ys := ([(renI points (bs[k]'e1))] : List B3)) 4 rfl Tryz.underlying24 inf51 rfl rfl rfl rfl rfl rfl hA1 (Ld.own 0 (by exact rfl)) (by simp only [List.length_append, List.length_cons, List.length_nil] at *; omega) (by decide)) ?_
                rintro _ _ ⟨A2, k1, rfl, rfl, hA2⟩
                replace hA2 := hA2 (.inr (by simp))
                refine O.p rfl rfl rfl (Pu.fieldAddr 1 rfl Tryz.underlying26 rfl sz24 rfl rfl) ?_
                refine O.s rfl rfl (Ef.store1 (cs' := [_, _]) 3 rfl sz24 rfl rfl rfl rfl rfl (ltb rfl) rfl) ?_
                rintro _ _ rfl
                refine O.nil ?_
                refine X.blockNormal ?_
                refine X.next ?_
                refine V.region ?_
                refine O.p rfl rfl rfl (Pu.add64 (r := ((k + 1 : Nat) : Int)) rfl (by omega) rfl rfl rfl) ?_
                refine O.p rfl rfl rfl (Pu.move rfl rfl) ?_
                refine O.nil ?_
                exact X.back3 (k + 1, A2, k1, (out ++ ([(renI points (bs[k]'e1))] : List B3))) (by (try dsimp only); exact ⟨by omega, by rw [take_snoc e1, List.filter_append, List.map_append, ho]; have hon : onQ points (bs[k]'e1) := ⟨(pos_iff hq.1).1 (by omega), (pos_iff hq.1).1 (by omega), (pos_iff hq.1).1 (by omega)⟩; simp [hon], by simp only [List.length_append, List.length_singleton]; omega⟩) (by first | omega | (dsimp only; omega)) (Ent.cons rfl (Ent.nil _)) (Ent.cons (t := 1) rfl (Ent.cons (t := 4) rfl (Ent.cons (t := 6) rfl (Ent.cons (t := 33) rfl (Ent.cons (t := 34) rfl (Ent.nil _)))))) (Sub.keep 3 rfl (Sub.keep 3 rfl (Sub.keep 3 rfl (Sub.keep 3 rfl (Sub.nil _)))))
              · skip
                refine V.skip ?_
                refine X.blockNormal ?_
                refine X.next ?_
                refine V.region ?_
                refine O.p rfl rfl rfl (Pu.add64 (r := ((k + 1 : Nat) : Int)) rfl (by omega) rfl rfl rfl) ?_
                refine O.p rfl rfl rfl (Pu.move rfl rfl) ?_
                refine O.nil ?_
                exact X.back3 (k + 1, outA, outc, out) (by (try dsimp only); exact ⟨by omega, by rw [take_snoc e1, List.filter_append, List.map_append, ho]; have hno : ¬ onQ points (bs[k]'e1) := (fun h => by have h1 := (pos_iff hq.1).2 h.1; have h2 := (pos_iff hq.1).2 h.2.1; have h3 := (pos_iff hq.1).2 h.2.2; omega); simp [hno], by omega⟩) (by first | omega | (dsimp only; omega)) (Ent.cons rfl (Ent.nil _)) (Ent.cons (t := 1) rfl (Ent.cons (t := 4) rfl (Ent.cons (t := 6) rfl (Ent.cons (t := 33) rfl (Ent.cons (t := 34) rfl (Ent.nil _)))))) (Sub.keep 2 rfl (Sub.keep 2 rfl (Sub.keep 2 rfl (Sub.keep 2 rfl (Sub.nil _)))))
            · skip
              refine O.gs rfl rfl rfl rfl rfl rfl ?_
              refine O.gs rfl rfl rfl rfl rfl rfl ?_
              refine O.p rfl rfl rfl (Pu.pickF rfl rfl rfl) ?_
              refine O.p rfl rfl rfl (Pu.assign rfl rfl) ?_
              refine O.nil ?_
              refine X.next ?_
              refine V.region ?_
              refine O.p rfl rfl rfl (Pu.move rfl rfl) ?_
              refine O.p rfl rfl rfl (Pu.move rfl rfl) ?_
              refine O.p rfl rfl rfl (Pu.indexArr 2 2 rfl Tryz.underlying51 sz2 rfl rfl (by decide) (by decide) (by decide)) ?_
              refine O.s rfl rfl (Ef.store1 (cs' := [_, _, _]) 0 rfl sz2 rfl rfl rfl rfl rfl (ltb rfl) rfl) ?_
              rintro _ _ rfl
              refine O.nil ?_
              refine X.blockNormal ?_
              refine X.next ?_
              refine V.region ?_
              refine O.p rfl rfl rfl (Pu.add64 (r := 3) (by decide) (by decide) rfl rfl rfl) ?_
              refine O.p rfl rfl rfl (Pu.move rfl rfl) ?_
              refine O.nil ?_
              refine X.again 0 ?_
              refine V.seq ?_
              refine V.region ?_
              refine O.p rfl rfl rfl (Pu.isF (by decide) (Pu.lss rfl rfl rfl)) ?_
              refine O.nil ?_
              refine X.next ?_
              refine V.seq ?_
              refine V.condF rfl ?_
              refine V.exit ?_
              refine X.thenExit ?_
              refine X.thenExit ?_
              refine X.blockHit ?_
              refine X.next ?_
              refine V.seq ?_
              refine V.region ?_
              refine O.p rfl rfl rfl (Pu.move rfl rfl) ?_
              refine O.nil ?_
              refine X.next ?_
              refine V.condF rfl ?_
              refine V.skip ?_
              refine X.blockNormal ?_
              refine X.next ?_
              refine V.region ?_
              refine O.p rfl rfl rfl (Pu.add64 (r := ((k + 1 : Nat) : Int)) rfl (by omega) rfl rfl rfl) ?_
              refine O.p rfl rfl rfl (Pu.move rfl rfl) ?_
              refine O.nil ?_
              exact X.back3 (k + 1, outA, outc, out) (by (try dsimp only); exact ⟨by omega, by rw [take_snoc e1, List.filter_append, List.map_append, ho]; have hno : ¬ onQ points (bs[k]'e1) := (fun h => by have h1 := (pos_iff hq.1).2 h.1; have h2 := (pos_iff hq.1).2 h.2.1; have h3 := (pos_iff hq.1).2 h.2.2; omega); simp [hno], by omega⟩) (by first | omega | (dsimp only; omega)) (Ent.cons rfl (Ent.nil _)) (Ent.cons (t := 1) rfl (Ent.cons (t := 4) rfl (Ent.cons (t := 6) rfl (Ent.cons (t := 33) rfl (Ent.cons (t := 34) rfl (Ent.nil _)))))) (Sub.keep 2 rfl (Sub.keep 2 rfl (Sub.keep 2 rfl (Sub.keep 2 rfl (Sub.nil _)))))
          · skip
            refine O.gs rfl rfl rfl rfl rfl rfl ?_
            refine O.gs rfl rfl rfl rfl rfl rfl ?_
            refine O.p rfl rfl rfl (Pu.pickF rfl rfl rfl) ?_
            refine O.p rfl rfl rfl (Pu.assign rfl rfl) ?_
            refine O.nil ?_
            refine X.next ?_
            refine V.region ?_
            refine O.p rfl rfl rfl (Pu.move rfl rfl) ?_
            refine O.p rfl rfl rfl (Pu.move rfl rfl) ?_
            refine O.p rfl rfl rfl (Pu.indexArr 1 1 rfl Tryz.underlying51 sz2 rfl rfl (by decide) (by decide) (by decide)) ?_
            refine O.s rfl rfl (Ef.store1 (cs' := [_, _, _]) 0 rfl sz2 rfl rfl rfl rfl rfl (ltb rfl) rfl) ?_
            rintro _ _ rfl
            refine O.nil ?_
            refine X.blockNormal ?_
            refine X.next ?_
            refine V.region ?_
            refine O.p rfl rfl rfl (Pu.add64 (r := 2) (by decide) (by decide) rfl rfl rfl) ?_
            refine O.p rfl rfl rfl (Pu.move rfl rfl) ?_
            refine O.nil ?_
            refine X.again 1 ?_
            refine V.seq ?_
            refine V.region ?_
            refine O.p rfl rfl rfl (Pu.isT (by decide) (Pu.lss rfl rfl rfl)) ?_
            refine O.nil ?_
            refine X.next ?_
            refine V.seq ?_
            refine V.condT rfl ?_
            refine V.skip ?_
            refine X.next ?_
            refine V.seq ?_
            refine V.block ?_
            refine V.seq ?_
            refine V.region ?_
            refine O.p rfl rfl rfl (Pu.move rfl rfl) ?_
            refine O.p rfl rfl rfl (Pu.indexAgg 2 rfl Tryz.underlying51 sz2 pl2 rfl rfl (by decide) (by decide) rfl) ?_
            refine O.p rfl rfl rfl (Pu.assign rfl rfl) ?_
            refine O.p rfl rfl rfl (Pu.assign rfl rfl) ?_
            refine O.nil ?_
            refine X.next ?_
            refine V.seq ?_
            refine V.region ?_
            refine O.p rfl rfl rfl (Pu.move rfl rfl) ?_
            refine O.p rfl rfl rfl (Pu.move rfl rfl) ?_
            refine O.e rfl rfl rfl (Ef.callP call115 rfl rfl (fun w hw => indexV_ok  points ((bs[k]'e1).2.2) _ _ w ((Ld.old hpoints) w hw) (by first | omega | (simp only [tops_len, conts_len, bl, List.length_append, List.length_cons, List.length_nil] at *; omega)) )) ?_
            rintro _ _ ⟨rfl, rfl⟩
            refine O.p rfl rfl rfl (Pu.assign rfl rfl) ?_
            refine O.nil ?_
            refine X.next ?_
            refine V.seq ?_
            refine V.region ?_
            refine O.p rfl rfl rfl (Pu.move rfl rfl) ?_
            refine O.p rfl rfl rfl (Pu.move rfl rfl) ?_
            refine O.gs rfl rfl rfl rfl rfl rfl ?_
            refine O.gs rfl rfl rfl rfl rfl rfl ?_
            refine O.p rfl rfl rfl (Pu.pickF rfl rfl rfl) ?_
            refine O.p rfl rfl rfl (Pu.assign rfl rfl) ?_
            refine O.nil ?_
            refine X.next ?_
            refine V.region ?_
            refine O.p rfl rfl rfl (Pu.move rfl rfl) ?_
            refine O.p rfl rfl rfl (Pu.move rfl rfl) ?_
            refine O.p rfl rfl rfl (Pu.indexArr 2 2 rfl Tryz.underlying51 sz2 rfl rfl (by decide) (by decide) (by decide)) ?_
            refine O.s rfl rfl (Ef.store1 (cs' := [_, _, _]) 0 rfl sz2 rfl rfl rfl rfl rfl (ltb rfl) rfl) ?_
            rintro _ _ rfl
            refine O.nil ?_
            refine X.blockNormal ?_
            refine X.next ?_
            refine V.region ?_
            refine O.p rfl rfl rfl (Pu.add64 (r := 3) (by decide) (by decide) rfl rfl rfl) ?_
            refine O.p rfl rfl rfl (Pu.move rfl rfl) ?_
            refine O.nil ?_
            refine X.again 0 ?_
            refine V.seq ?_
            refine V.region ?_
            refine O.p rfl rfl rfl (Pu.isF (by decide) (Pu.lss rfl rfl rfl)) ?_
            refine O.nil ?_
            refine X.next ?_
            refine V.seq ?_
            refine V.condF rfl ?_
            refine V.exit ?_
            refine X.thenExit ?_
            refine X.thenExit ?_
            refine X.blockHit ?_
            refine X.next ?_
            refine V.seq ?_
            refine V.region ?_
            refine O.p rfl rfl rfl (Pu.move rfl rfl) ?_
            refine O.nil ?_
            refine X.next ?_
            refine V.condF rfl ?_
            refine V.skip ?_
            refine X.blockNormal ?_
            refine X.next ?_
            refine V.region ?_
            refine O.p rfl rfl rfl (Pu.add64 (r := ((k + 1 : Nat) : Int)) rfl (by omega) rfl rfl rfl) ?_
            refine O.p rfl rfl rfl (Pu.move rfl rfl) ?_
            refine O.nil ?_
            exact X.back3 (k + 1, outA, outc, out) (by (try dsimp only); exact ⟨by omega, by rw [take_snoc e1, List.filter_append, List.map_append, ho]; have hno : ¬ onQ points (bs[k]'e1) := (fun h => by have h1 := (pos_iff hq.1).2 h.1; have h2 := (pos_iff hq.1).2 h.2.1; have h3 := (pos_iff hq.1).2 h.2.2; omega); simp [hno], by omega⟩) (by first | omega | (dsimp only; omega)) (Ent.cons rfl (Ent.nil _)) (Ent.cons (t := 1) rfl (Ent.cons (t := 4) rfl (Ent.cons (t := 6) rfl (Ent.cons (t := 33) rfl (Ent.cons (t := 34) rfl (Ent.nil _)))))) (Sub.keep 2 rfl (Sub.keep 2 rfl (Sub.keep 2 rfl (Sub.keep 2 rfl (Sub.nil _)))))
        · skip
          refine V.exit ?_
          refine X.thenExit ?_
          refine X.thenExit ?_
          refine X.blockHit ?_
          refine X.next ?_
          refine V.seq ?_
          refine V.region ?_
          refine O.p rfl rfl rfl (Pu.loadAgg rfl ag26 sz26 rfl rfl (Ld.whole 0 rfl)) ?_
          refine O.s rfl rfl (Ef.storeAll 2 rfl sz26 rfl rfl rfl rfl (by simp [Value.oneCell']) rfl) ?_
          rintro _ _ rfl
          refine O.p rfl rfl rfl (Pu.assign rfl rfl) ?_
          refine O.nil ?_
          refine X.next ?_
          refine V.ret ?_
          refine X.retCell2 rfl ag26 sz26 rfl rfl rfl (Ld.whole 2 rfl) ?_
          exact fun w hw => St.mkExi outA (St.mkExi outc (St.mkExi out (St.unsep (St.addPur ⟨rfl, by rw [ho, List.take_of_length_le (by omega)]; rfl⟩ (hw.sub (Sub.keep 1 rfl (Sub.nil _)))))))
theorem l03AscN_ok (xs : List Int) (n : Nat) (A : Option Addr) (c : Nat) (w : World) (hn : n = xs.length) (hx : Rd I64 w A xs) (lx : xs.length ≤ 1099511627776) : Does Tryz.prog 91 [.slice A n c] w [] (fun v => [.exi fun p : (Option Addr × Nat) × List Int => .sep (.pur (v = .slice p.1.1 p.2.length p.1.2 ∧ (p.2.Perm xs ∧ p.2.Pairwise (· ≤ ·)))) (Own 2 I64 p.1.1 p.1.2 p.2)]) := by
  subst hn
  exact l03Ascending_ok xs A c w hx lx
set_option maxRecDepth 100000 in
set_option maxHeartbeats 1000000 in
theorem l01Small_ok (cA : Option Addr) (cc : Nat) (code : List UInt8) (s : Nat) (w0 : World) (H : List Assn) (hc : Rd U8C w0 cA code) (lc : code.length ≤ 1048576) : Does Tryz.prog 104 [.pointer (some ⟨s, 0, none⟩)] w0 (SrcK 132 cA cc code s :: H) (fun rv_ => [.exi fun (pv : Int) => .exi fun (rA : Option Addr) => .exi fun (rc : Nat) => .exi fun (r : List B3) => .sep (.pur (rv_ = .agg #[.int .i64 pv, .slice rA r.length rc] ∧ DrS 4000 pv r)) (.sep (Own 51 B3C rA rc r) (SrcK 132 cA cc code s))] ++ H) := by
  refine Does.enter Tryz.func104 rfl rfl [(0, .pointer (some ⟨s, 0, none⟩))] rfl ?_
  refine V.seq ?_
  refine V.region ?_
  refine O.e rfl rfl rfl (Ef.alloc rfl zr26 rfl) ?_
  rintro _ _ ⟨b1, rfl, rfl⟩
  refine O.nil ?_
  refine X.next ?_
  refine V.seq ?_
  refine V.seq ?_
  refine V.region ?_
  refine O.p rfl rfl rfl (Pu.move rfl rfl) ?_
  refine O.e rfl rfl rfl (Ef.call call92 rfl rfl (Does.pre (fun w hw => hw.sub (Sub.keep 1 rfl (Sub.keep 0 rfl (Sub.refl _)))) (l01Next_ok _ _ _ s (3 : Int) w0 _   (by first | assumption | omega | (try dsimp only at *; omega)) (by first | assumption | omega | (try dsimp only at *; omega))))) ?_
  rintro _ _ rfl
  refine O.exi (fun r1 => ?_)
  refine O.sep ?_
  refine O.pur ?_
  rintro ⟨rfl, hr1_1, hr1_2, hr1_3⟩
  refine O.p rfl rfl rfl (Pu.eql rfl rfl rfl) ?_
  refine O.nil ?_
  refine X.next ?_
  refine V.condD rfl (fun c1 => ?_) (fun c1 => ?_)
  · skip
    refine V.seq ?_
    refine V.region ?_
    refine O.e rfl rfl rfl (Ef.call1 call192 rfl rfl (fun w hw => l01Names_ok   w   )) ?_
    rintro _ _ rfl
    refine O.exi (fun r2A => ?_)
    refine O.exi (fun r2c => ?_)
    refine O.exi (fun r2 => ?_)
    refine O.sep ?_
    refine O.pur ?_
    rintro ⟨rfl, hr2_1⟩
    have hnl : r2.length = 6 := by rw [hr2_1]; rfl
    refine O.p rfl rfl rfl (Pu.assign rfl rfl) ?_
    refine O.nil ?_
    refine X.next ?_
    refine V.seq ?_
    refine V.region ?_
    refine O.p rfl rfl rfl (Pu.move rfl rfl) ?_
    refine O.p rfl rfl rfl (Pu.move rfl rfl) ?_
    refine O.e rfl rfl rfl (Ef.call call92 rfl rfl (Does.pre (fun w hw => hw.sub (Sub.keep 1 rfl (Sub.keep 0 rfl (Sub.keep 0 rfl (Sub.refl _))))) (l01Next_ok _ _ _ s (3 : Int) w0 _   (by first | assumption | omega | (try dsimp only at *; omega)) (by first | assumption | omega | (try dsimp only at *; omega))))) ?_
    rintro _ _ rfl
    refine O.exi (fun r3 => ?_)
    refine O.sep ?_
    refine O.pur ?_
    rintro ⟨rfl, hr3_1, hr3_2, hr3_3⟩
    refine O.p rfl rfl rfl (Pu.indexAddrS ((r3).toNat) rfl Tryz.underlying110 sz9 rfl rfl (by omega) (by omega) (fun w hw => Own.some hw (i := 1) (by exact rfl) (by omega))) ?_
    have e1 : (r3).toNat < r2.length := by omega
    refine O.p rfl rfl rfl (Pu.load rfl pl9 rfl (Ld.rd (Ld.own 1 (by exact rfl)) (k := (r3).toNat) e1 rfl rfl)) ?_
    refine O.e rfl rfl rfl (Ef.call1 call125 rfl rfl (fun w hw => l01NamedAny_ok  (r2[(r3).toNat]'e1) w   (by rw [← hr2_1]; exact List.getElem_mem _))) ?_
    rintro _ _ rfl
    refine O.exi (fun pv1 => ?_)
    refine O.exi (fun r4A => ?_)
    refine O.exi (fun r4c => ?_)
    refine O.exi (fun r4 => ?_)
    refine O.sep ?_
    refine O.pur ?_
    rintro ⟨rfl, hpv1_1⟩
    have hDn := hpv1_1
    have hvn := hDn.1
    have hln := hDn.2.2
    refine O.p rfl rfl rfl (Pu.move rfl rfl) ?_
    refine O.p rfl rfl rfl (Pu.extract rfl rfl rfl) ?_
    refine O.p rfl rfl rfl (Pu.extract rfl rfl rfl) ?_
    refine O.e rfl rfl rfl (Ef.alloc rfl zr26 rfl) ?_
    rintro _ _ ⟨b2, rfl, rfl⟩
    refine O.s rfl rfl (Ef.storeAll 0 rfl sz26 rfl rfl rfl rfl (by simp [Value.oneCell']) rfl) ?_
    rintro _ _ rfl
    refine O.p rfl rfl rfl (Pu.assign rfl rfl) ?_
    refine O.nil ?_
    refine X.next ?_
    refine V.seq ?_
    refine V.drawS mo (by kernel_rfl) (Sub.keep 0 rfl (Sub.keep 0 rfl (Sub.keep 1 rfl (Sub.keep 1 rfl (Sub.drop (Sub.refl _)))))) (fun hwf => ?_)
    refine D.p 0 rfl rfl rfl rfl rfl rfl (Pu.loadAgg rfl ag26 sz26 rfl rfl (Ld.whole 0 rfl)) ?_
    refine D.p 1 rfl rfl rfl rfl rfl rfl (Pu.move rfl rfl) ?_
    refine D.p 2 rfl rfl rfl rfl rfl rfl (Pu.fieldAddr 0 rfl Tryz.underlying26 rfl sz2 rfl rfl) ?_
    refine D.p 3 rfl rfl rfl rfl rfl rfl (Pu.load rfl pl2 rfl (Ld.blk 0 rfl rfl)) ?_
    refine D.eff hwf (e := 4) rfl rfl rfl rfl (Ef.call call90 rfl rfl (Does.pre (fun w hw => hw.sub (Sub.keep 2 rfl (Sub.keep 0 rfl (Sub.keep 0 rfl (Sub.keep 0 rfl (Sub.keep 0 rfl (Sub.refl _))))))) (l01DrawOrder_ok _ _ _ s pv1 w0 _   (by first | assumption | omega | (try dsimp only at *; omega)) (by first | assumption | omega | (try dsimp only at *; omega)) (by omega)))) rfl rfl rfl ?_
    rintro _ _ rfl hs
    refine ⟨fun w hw => hw.tail.sub (Sub.keep 0 rfl (Sub.keep 0 rfl (Sub.keep 0 rfl (Sub.keep 0 rfl (Sub.refl _))))), ?_⟩
    refine D.exi (fun r5A => ?_)
    refine D.exi (fun r5c => ?_)
    refine D.exi (fun r5 => ?_)
    refine D.sep ?_
    refine D.pur1 ?_
    rintro ⟨rfl, hr5_1⟩
    refine D.sep ?_
    have hol := hr5_1.1
    refine D.eff hwf (e := 5) rfl rfl rfl rfl (Ef.call1 call126 rfl rfl (fun w hw => l01RenamedD_ok  pv1 r4 r5 _ _ _ _ w ((Ld.own 3 (by exact rfl)) w hw) ((Ld.own 0 (by exact rfl)) w hw) (by first | omega | (simp only [tops_len, conts_len, bl, List.length_append, List.length_cons, List.length_nil] at *; omega)) (by first | omega | (simp only [tops_len, conts_len, bl, List.length_append, List.length_cons, List.length_nil] at *; omega)) (by rw [hr5_1.1]; exact hDn.2.1) (by omega) (fun q hq => by have := hr5_1.2.2 q hq; omega))) rfl rfl rfl ?_
    rintro _ _ rfl hs
    refine ⟨fun w hw => hs w hw.tail, ?_⟩
    refine D.exi (fun r6A => ?_)
    refine D.exi (fun r6c => ?_)
    refine D.exi (fun r6 => ?_)
    refine D.sep ?_
    refine D.pur1 ?_
    rintro ⟨rfl, hr6_1, hr6_2⟩
    have hDr := hDn.ren hr5_1 hr6_1
    refine D.effX (Hs' := []) hwf (e := 6) rfl rfl rfl rfl (Ef.storeAll 6 rfl sz26 rfl rfl rfl rfl (by simp [Value.oneCell']) rfl) rfl [] rfl (List.forall_mem_nil _) ?_
    rintro _ _ rfl
    refine ⟨fun w hw => hw.sub (Sub.nil _), ?_⟩
    refine D.done hwf rfl ?_
    refine X.next ?_
    refine V.ret ?_
    refine X.thenRet ?_
    refine X.retCell rfl ag26 sz26 rfl rfl (Ld.whole 6 rfl) ?_
    exact fun w hw => St.mkExi pv1 (St.mkExi r6A (St.mkExi r6c (St.mkExi r6 (St.unsep (St.addPur ⟨rfl, hDr⟩ (St.unsep (hw.sub (Sub.keep 0 rfl (Sub.keep 1 rfl (Sub.drop (Sub.drop (Sub.drop (Sub.drop (Sub.drop (Sub.refl _)))))))))))))))
  · skip
    refine V.skip ?_
    refine X.next ?_
    refine V.seq ?_
    refine V.region ?_
    refine O.p rfl rfl rfl (Pu.move rfl rfl) ?_
    refine O.p rfl rfl rfl (Pu.move rfl rfl) ?_
    refine O.e rfl rfl rfl (Ef.call call92 rfl rfl (Does.pre (fun w hw => hw.sub (Sub.keep 0 rfl (Sub.keep 0 rfl (Sub.refl _)))) (l01Next_ok _ _ _ s (7 : Int) w0 _   (by first | assumption | omega | (try dsimp only at *; omega)) (by first | assumption | omega | (try dsimp only at *; omega))))) ?_
    rintro _ _ rfl
    refine O.exi (fun r7 => ?_)
    refine O.sep ?_
    refine O.pur ?_
    rintro ⟨rfl, hr7_1, hr7_2, hr7_3⟩
    refine O.p rfl rfl rfl (Pu.add64 rfl (by omega) rfl rfl rfl) ?_
    refine O.e rfl rfl rfl (Ef.call call186 rfl rfl (Does.pre (fun w hw => hw.sub (Sub.keep 0 rfl (Sub.keep 0 rfl (Sub.refl _)))) (l01DrawOf_ok _ _ _ s ((3 : Int) + r7) w0 _   (by first | assumption | omega | (try dsimp only at *; omega)) (by first | assumption | omega | (try dsimp only at *; omega)) (by omega)))) ?_
    rintro _ _ rfl
    refine O.exi (fun r8A => ?_)
    refine O.exi (fun r8c => ?_)
    refine O.exi (fun r8 => ?_)
    refine O.sep ?_
    refine O.pur ?_
    rintro ⟨rfl, hr8_1⟩
    refine O.sep ?_
    refine O.s rfl rfl (Ef.storeAll 2 rfl sz26 rfl rfl rfl rfl (by simp [Value.oneCell']) rfl) ?_
    rintro _ _ rfl
    refine O.nil ?_
    refine X.next ?_
    refine V.ret ?_
    refine X.retCell rfl ag26 sz26 rfl rfl (Ld.whole 2 rfl) ?_
    exact fun w hw => St.mkExi ((3 : Int) + r7) (St.mkExi r8A (St.mkExi r8c (St.mkExi r8 (St.unsep (St.addPur ⟨rfl, DrS.mono hr8_1 (by decide)⟩ (St.unsep (hw.sub (Sub.keep 0 rfl (Sub.keep 0 rfl (Sub.drop (Sub.refl _)))))))))))
set_option maxRecDepth 100000 in
set_option maxHeartbeats 1000000 in
theorem DrawSubsystems_ok (code : List UInt8) (codeA : Option Addr) (codec : Nat) (w : World) (hcode : Rd U8C w codeA code) (lcode : code.length ≤ 1099511627776) (lc : code.length ≤ 1048576) : Does Tryz.prog 33 [.slice codeA code.length codec] w [] (fun rv_ => [.exi fun (pv : Int) => .exi fun (rA : Option Addr) => .exi fun (rc : Nat) => .exi fun (r : List B3) => .sep (.pur (rv_ = .agg #[.int .i64 pv, .slice rA r.length rc] ∧ r.length ≤ 4200)) (Own 51 B3C rA rc r)]) := by
  refine Does.enter Tryz.func33 rfl rfl [(0, .slice codeA code.length codec)] rfl ?_
  refine V.seq ?_
  refine V.region ?_
  refine O.e rfl rfl rfl (Ef.alloc rfl zr26 rfl) ?_
  rintro _ _ ⟨b1, rfl, rfl⟩
  refine O.nil ?_
  refine X.next ?_
  refine V.seq ?_
  refine V.region ?_
  refine O.p rfl rfl rfl (Pu.move rfl rfl) ?_
  refine O.e rfl rfl rfl (Ef.call1 call76 rfl rfl (fun w hw => l01From_ok  code _ _ w ((Ld.old hcode) w hw) (by first | omega | (simp only [tops_len, conts_len, bl, List.length_append, List.length_cons, List.length_nil] at *; omega)) (by first | assumption | omega | (try dsimp only at *; omega)))) ?_
  rintro _ _ rfl
  refine O.exi (fun s1 => ?_)
  refine O.sep ?_
  refine O.pur ?_
  rintro rfl
  refine O.p rfl rfl rfl (Pu.assign rfl rfl) ?_
  refine O.nil ?_
  refine X.next ?_
  refine V.seq ?_
  refine V.seq ?_
  refine V.region ?_
  refine O.p rfl rfl rfl (Pu.move rfl rfl) ?_
  refine O.e rfl rfl rfl (Ef.call call92 rfl rfl (Does.pre (fun w hw => hw.sub (Sub.keep 0 rfl (Sub.keep 0 rfl (Sub.nil _)))) (l01Next_ok _ _ _ s1 (3 : Int) w _   (by first | assumption | omega | (try dsimp only at *; omega)) (by first | assumption | omega | (try dsimp only at *; omega))))) ?_
  rintro _ _ rfl
  refine O.exi (fun r1 => ?_)
  refine O.sep ?_
  refine O.pur ?_
  rintro ⟨rfl, hr1_1, hr1_2, hr1_3⟩
  refine O.p rfl rfl rfl (Pu.gtr rfl rfl rfl) ?_
  refine O.nil ?_
  refine X.next ?_
  refine V.condD rfl (fun c1 => ?_) (fun c1 => ?_)
  · skip
    refine V.seq ?_
    refine V.region ?_
    refine O.p rfl rfl rfl (Pu.move rfl rfl) ?_
    refine O.p rfl rfl rfl (Pu.move rfl rfl) ?_
    refine O.e rfl rfl rfl (Ef.call call104 rfl rfl (Does.pre (fun w hw => hw.sub (Sub.keep 0 rfl (Sub.keep 0 rfl (Sub.nil _)))) (l01Small_ok _ _ _ s1 w _   (by first | assumption | omega | (try dsimp only at *; omega)) (by first | assumption | omega | (try dsimp only at *; omega))))) ?_
    rintro _ _ rfl
    refine O.exi (fun pv1 => ?_)
    refine O.exi (fun r2A => ?_)
    refine O.exi (fun r2c => ?_)
    refine O.exi (fun r2 => ?_)
    refine O.sep ?_
    refine O.pur ?_
    rintro ⟨rfl, hpv1_1⟩
    refine O.sep ?_
    refine O.e rfl rfl rfl (Ef.call call94 rfl rfl (Does.pre (fun w hw => hw.sub (Sub.keep 1 rfl (Sub.keep 0 rfl (Sub.keep 0 rfl (Sub.nil _))))) (l01Bad_ok _ _ _ s1 pv1 r2 _ _ w _   (by first | assumption | omega | (try dsimp only at *; omega)) (by first | assumption | omega | (try dsimp only at *; omega)) (by first | exact DrS.mono hpv1_1 (by decide) | exact DrS.mono hpv2_1 (by decide))))) ?_
    rintro _ _ rfl
    refine O.exi (fun pv2 => ?_)
    refine O.exi (fun r3A => ?_)
    refine O.exi (fun r3c => ?_)
    refine O.exi (fun r3 => ?_)
    refine O.sep ?_
    refine O.pur ?_
    rintro ⟨rfl, hpv2_1, hpv2_2⟩
    refine O.sep ?_
    refine O.s rfl rfl (Ef.storeAll 2 rfl sz26 rfl rfl rfl rfl (by simp [Value.oneCell']) rfl) ?_
    rintro _ _ rfl
    refine O.nil ?_
    refine X.next ?_
    refine V.ret ?_
    refine X.thenRet ?_
    refine X.retCell rfl ag26 sz26 rfl rfl (Ld.whole 2 rfl) ?_
    exact fun w hw => St.mkExi pv2 (St.mkExi r3A (St.mkExi r3c (St.mkExi r3 (St.unsep (St.addPur ⟨rfl, by omega⟩ (hw.sub (Sub.keep 0 rfl (Sub.nil _))))))))
  · skip
    refine V.skip ?_
    refine X.next ?_
    refine V.seq ?_
    refine V.region ?_
    refine O.p rfl rfl rfl (Pu.move rfl rfl) ?_
    refine O.e rfl rfl rfl (Ef.call call75 rfl rfl (Does.pre (fun w hw => hw.sub (Sub.keep 0 rfl (Sub.keep 0 rfl (Sub.nil _)))) (l01Spoil_ok _ _ _ s1 w _   (by first | assumption | omega | (try dsimp only at *; omega)) (by first | assumption | omega | (try dsimp only at *; omega))))) ?_
    rintro _ _ rfl
    refine O.exi (fun pv3 => ?_)
    refine O.exi (fun r4A => ?_)
    refine O.exi (fun r4c => ?_)
    refine O.exi (fun r4 => ?_)
    refine O.sep ?_
    refine O.pur ?_
    rintro ⟨rfl, hpv3_1, hpv3_2⟩
    refine O.sep ?_
    refine O.s rfl rfl (Ef.storeAll 2 rfl sz26 rfl rfl rfl rfl (by simp [Value.oneCell']) rfl) ?_
    rintro _ _ rfl
    refine O.nil ?_
    refine X.next ?_
    refine V.ret ?_
    refine X.retCell rfl ag26 sz26 rfl rfl (Ld.whole 2 rfl) ?_
    exact fun w hw => St.mkExi pv3 (St.mkExi r4A (St.mkExi r4c (St.mkExi r4 (St.unsep (St.addPur ⟨rfl, by omega⟩ (hw.sub (Sub.keep 0 rfl (Sub.nil _))))))))
set_option maxRecDepth 100000 in
set_option maxHeartbeats 1000000 in
theorem DrawSpanOf_ok (code : List UInt8) (codeA : Option Addr) (codec : Nat) (w : World) (hcode : Rd U8C w codeA code) (lcode : code.length ≤ 1099511627776) (lc : code.length ≤ 1048576) : Does Tryz.prog 28 [.slice codeA code.length codec] w [] (fun rv_ => [.exi fun (pv : Int) => .exi fun (rA : Option Addr) => .exi fun (rc : Nat) => .exi fun (r : List B3) => .exi fun (oA : Option Addr) => .exi fun (oc : Nat) => .exi fun (o : List Int) => .sep (.pur (rv_ = .tuple #[.agg #[.int .i64 pv, .slice rA r.length rc], .slice oA o.length oc] ∧ r.length ≤ 4200 ∧ o.length ≤ 100)) (.sep (Own 51 B3C rA rc r) (Own 2 I64 oA oc o))]) := by
  refine Does.enter Tryz.func28 rfl rfl [(0, .slice codeA code.length codec)] rfl ?_
  refine V.seq ?_
  refine V.region ?_
  refine O.e rfl rfl rfl (Ef.alloc rfl zr26 rfl) ?_
  rintro _ _ ⟨b1, rfl, rfl⟩
  refine O.p rfl rfl rfl (Pu.assign rfl rfl) ?_
  refine O.nil ?_
  refine X.next ?_
  refine V.seq ?_
  refine V.region ?_
  refine O.p rfl rfl rfl (Pu.move rfl rfl) ?_
  refine O.e rfl rfl rfl (Ef.call1 call76 rfl rfl (fun w hw => l01From_ok  code _ _ w ((Ld.old hcode) w hw) (by first | omega | (simp only [tops_len, conts_len, bl, List.length_append, List.length_cons, List.length_nil] at *; omega)) (by first | assumption | omega | (try dsimp only at *; omega)))) ?_
  rintro _ _ rfl
  refine O.exi (fun s1 => ?_)
  refine O.sep ?_
  refine O.pur ?_
  rintro rfl
  refine O.p rfl rfl rfl (Pu.assign rfl rfl) ?_
  refine O.nil ?_
  refine X.next ?_
  refine V.seq ?_
  refine V.region ?_
  refine O.p rfl rfl rfl (Pu.move rfl rfl) ?_
  refine O.e rfl rfl rfl (Ef.call call89 rfl rfl (Does.pre (fun w hw => hw.sub (Sub.keep 0 rfl (Sub.keep 0 rfl (Sub.nil _)))) (l01Draw_ok _ _ _ s1 w _   (by first | assumption | omega | (try dsimp only at *; omega)) (by first | assumption | omega | (try dsimp only at *; omega))))) ?_
  rintro _ _ rfl
  refine O.exi (fun pv1 => ?_)
  refine O.exi (fun r1A => ?_)
  refine O.exi (fun r1c => ?_)
  refine O.exi (fun r1 => ?_)
  refine O.sep ?_
  refine O.pur ?_
  rintro ⟨rfl, hpv1_1⟩
  refine O.sep ?_
  have hvn := hpv1_1.1
  refine O.e rfl rfl rfl (Ef.alloc rfl zr26 rfl) ?_
  rintro _ _ ⟨b2, rfl, rfl⟩
  refine O.s rfl rfl (Ef.storeAll 0 rfl sz26 rfl rfl rfl rfl (by simp [Value.oneCell']) rfl) ?_
  rintro _ _ rfl
  refine O.nil ?_
  refine X.next ?_
  refine V.seq ?_
  refine V.region ?_
  refine O.p rfl rfl rfl (Pu.move rfl rfl) ?_
  refine O.p rfl rfl rfl (Pu.fieldAddr 0 rfl Tryz.underlying26 rfl sz2 rfl rfl) ?_
  refine O.p rfl rfl rfl (Pu.load rfl pl2 rfl (Ld.blk 0 rfl rfl)) ?_
  refine O.e rfl rfl rfl (Ef.call call90 rfl rfl (Does.pre (fun w hw => hw.sub (Sub.keep 2 rfl (Sub.keep 0 rfl (Sub.keep 0 rfl (Sub.keep 0 rfl (Sub.nil _)))))) (l01DrawOrder_ok _ _ _ s1 pv1 w _   (by first | assumption | omega | (try dsimp only at *; omega)) (by first | assumption | omega | (try dsimp only at *; omega)) (by omega)))) ?_
  rintro _ _ rfl
  refine O.exi (fun r2A => ?_)
  refine O.exi (fun r2c => ?_)
  refine O.exi (fun r2 => ?_)
  refine O.sep ?_
  refine O.pur ?_
  rintro ⟨rfl, hr2_1⟩
  refine O.sep ?_
  have hol := hr2_1.1
  refine O.p rfl rfl rfl (Pu.assign rfl rfl) ?_
  refine O.nil ?_
  refine X.next ?_
  refine V.seq ?_
  refine V.fact (fun w hw => Own.cap hw (i := 0) rfl) (fun hcap => ?_)
  refine V.drawS mo (by kernel_rfl) (Sub.keep 0 rfl (Sub.keep 1 rfl (Sub.keep 1 rfl (Sub.keep 1 rfl (Sub.nil _))))) (fun hwf => ?_)
  refine D.p 0 rfl rfl rfl rfl rfl rfl (Pu.move rfl rfl) ?_
  refine D.p 1 rfl rfl rfl rfl rfl rfl (Pu.move rfl rfl) ?_
  refine D.p 3 rfl rfl rfl rfl rfl rfl (Pu.fieldAddr 0 rfl Tryz.underlying26 rfl sz2 rfl rfl) ?_
  refine D.p 4 rfl rfl rfl rfl rfl rfl (Pu.load rfl pl2 rfl (Ld.blk 1 rfl rfl)) ?_
  refine D.eff hwf (e := 2) rfl rfl rfl rfl (Ef.call call92 rfl rfl (Does.pre (fun w hw => hw.sub (Sub.keep 1 rfl (Sub.keep 0 rfl (Sub.keep 0 rfl (Sub.keep 0 rfl (Sub.keep 0 rfl (Sub.nil _))))))) (l01Next_ok _ _ _ s1 (5 : Int) w _   (by first | assumption | omega | (try dsimp only at *; omega)) (by first | assumption | omega | (try dsimp only at *; omega))))) rfl rfl rfl ?_
  rintro _ _ rfl hs
  refine ⟨fun w hw => hw.tail.sub (Sub.keep 0 rfl (Sub.keep 0 rfl (Sub.keep 0 rfl (Sub.keep 0 rfl (Sub.nil _))))), ?_⟩
  refine D.exi (fun r3 => ?_)
  refine D.sep ?_
  refine D.pur1 ?_
  rintro ⟨rfl, hr3_1, hr3_2, hr3_3⟩
  have hm1 := Int.emod_nonneg r3 (show pv1 ≠ 0 by omega)
  have hm2 := Int.emod_lt_of_pos r3 (show 0 < pv1 by omega)
  refine D.p 5 rfl rfl rfl rfl rfl rfl (Pu.rem64 (by omega) (by omega) rfl rfl rfl) ?_
  refine D.p 6 rfl rfl rfl rfl rfl rfl (Pu.sliceH (((r3 % pv1)).toNat) rfl Tryz.underlying34 sz2 rfl rfl (by omega) (by omega)) ?_
  refine D.eff hwf (e := 7) rfl rfl rfl rfl (Ef.call1 call91 rfl rfl (fun w hw => l03AscN_ok (r2.take (((r3 % pv1)).toNat)) _ _ _ w (by rw [List.length_take]; omega) ((fun w hw => ((Ld.own 1 (by exact rfl)) w hw).take (((r3 % pv1)).toNat)) w hw) (by rw [List.length_take]; omega))) rfl rfl rfl ?_
  rintro _ _ rfl hs
  refine ⟨fun w hw => hs w hw.tail, ?_⟩
  refine D.exi (fun p1 => ?_)
  refine D.sep ?_
  refine D.pur1 ?_
  rintro ⟨rfl, hp1⟩
  have hpl := hp1.1.length_eq
  rw [List.length_take] at hpl
  refine D.p 8 rfl rfl rfl rfl rfl rfl (Pu.assign rfl rfl) ?_
  refine D.done hwf rfl ?_
  refine X.next ?_
  refine V.seq ?_
  refine V.seq ?_
  refine V.region ?_
  refine O.p rfl rfl rfl (Pu.move rfl rfl) ?_
  refine O.e rfl rfl rfl (Ef.call call92 rfl rfl (Does.pre (fun w hw => hw.sub (Sub.keep 1 rfl (Sub.keep 0 rfl (Sub.keep 0 rfl (Sub.keep 0 rfl (Sub.keep 0 rfl (Sub.keep 0 rfl (Sub.nil _)))))))) (l01Next_ok _ _ _ s1 (16 : Int) w _   (by first | assumption | omega | (try dsimp only at *; omega)) (by first | assumption | omega | (try dsimp only at *; omega))))) ?_
  rintro _ _ rfl
  refine O.exi (fun r4 => ?_)
  refine O.sep ?_
  refine O.pur ?_
  rintro ⟨rfl, hr4_1, hr4_2, hr4_3⟩
  refine O.p rfl rfl rfl (Pu.eql rfl rfl rfl) ?_
  refine O.nil ?_
  refine X.next ?_
  refine V.condD rfl (fun c1 => ?_) (fun c1 => ?_)
  · skip
    refine V.region ?_
    refine O.p rfl rfl rfl (Pu.move rfl rfl) ?_
    refine O.p rfl rfl rfl (Pu.move rfl rfl) ?_
    refine O.p rfl rfl rfl (Pu.fieldAddr 0 rfl Tryz.underlying26 rfl sz2 rfl rfl) ?_
    refine O.p rfl rfl rfl (Pu.load rfl pl2 rfl (Ld.blk 3 rfl rfl)) ?_
    refine O.e rfl rfl rfl (Ef.build I64 ([(0 : Int), (-1 : Int), pv1] : List Int) rfl Tryz.underlying34 inf2 rfl rfl rfl (by first | decide | (simp; done)) (by kernel_rfl)) ?_
    rintro _ _ ⟨A1, hA1, rfl, rfl⟩
    refine O.e rfl rfl rfl (Ef.call call93 rfl rfl (Does.pre (fun w hw => hw.sub (Sub.keep 1 rfl (Sub.keep 0 rfl (Sub.keep 0 rfl (Sub.keep 0 rfl (Sub.keep 0 rfl (Sub.keep 0 rfl (Sub.keep 0 rfl (Sub.nil _))))))))) (l01Pick_ok _ _ _ s1 ([(0 : Int), (-1 : Int), pv1] : List Int) _ _ w _ (Ld.own 0 (by exact rfl)) (by first | omega | (simp only [tops_len, conts_len, bl, List.length_append, List.length_cons, List.length_nil] at *; omega)) (by first | assumption | omega | (try dsimp only at *; omega)) (by first | assumption | omega | (try dsimp only at *; omega)) (by first | (simp; done) | omega)))) ?_
    rintro _ _ rfl
    refine O.exi (fun r5 => ?_)
    refine O.sep ?_
    refine O.pur ?_
    rintro ⟨rfl, hr5_1⟩
    refine O.e rfl rfl rfl (Ef.build I64 ([r5] : List Int) rfl Tryz.underlying34 inf2 rfl rfl rfl (by first | decide | (simp; done)) (by kernel_rfl)) ?_
    rintro _ _ ⟨A2, hA2, rfl, rfl⟩
    refine O.e rfl rfl rfl (Ef.append (xs := p1.2) (ys := ([r5] : List Int)) 3 rfl Tryz.underlying34 inf2 rfl rfl rfl rfl rfl rfl hA2 (Ld.own 0 (by exact rfl)) (by simp only [List.length_append, List.length_cons, List.length_nil] at *; omega) (by decide)) ?_
    rintro _ _ ⟨A3, k1, rfl, rfl, hA3⟩
    replace hA3 := hA3 (.inr (by simp))
    refine O.p rfl rfl rfl (Pu.assign rfl rfl) ?_
    refine O.nil ?_
    refine X.next ?_
    refine V.seq ?_
    refine V.region ?_
    refine O.p rfl rfl rfl (Pu.move rfl rfl) ?_
    refine O.p rfl rfl rfl (Pu.loadAgg rfl ag26 sz26 rfl rfl (Ld.whole 5 rfl)) ?_
    refine O.e rfl rfl rfl (Ef.call call94 rfl rfl (Does.pre (fun w hw => hw.sub (Sub.keep 1 rfl (Sub.keep 5 rfl (Sub.keep 0 rfl (Sub.keep 0 rfl (Sub.keep 0 rfl (Sub.keep 0 rfl (Sub.keep 0 rfl (Sub.keep 0 rfl (Sub.nil _)))))))))) (l01Bad_ok _ _ _ s1 pv1 r1 _ _ w _   (by first | assumption | omega | (try dsimp only at *; omega)) (by first | assumption | omega | (try dsimp only at *; omega)) hpv1_1))) ?_
    rintro _ _ rfl
    refine O.exi (fun pv2 => ?_)
    refine O.exi (fun r6A => ?_)
    refine O.exi (fun r6c => ?_)
    refine O.exi (fun r6 => ?_)
    refine O.sep ?_
    refine O.pur ?_
    rintro ⟨rfl, hpv2_1, hpv2_2⟩
    refine O.sep ?_
    refine O.p rfl rfl rfl (Pu.move rfl rfl) ?_
    refine O.s rfl rfl (Ef.storeAll 7 rfl sz26 rfl rfl rfl rfl (by simp [Value.oneCell']) rfl) ?_
    rintro _ _ rfl
    refine O.p rfl rfl rfl (Pu.assign rfl rfl) ?_
    refine O.nil ?_
    refine X.next ?_
    refine V.ret ?_
    refine X.retCell2 rfl ag26 sz26 rfl rfl rfl (Ld.whole 7 rfl) ?_
    exact fun w hw => St.mkExi pv2 (St.mkExi r6A (St.mkExi r6c (St.mkExi r6 (St.mkExi A3 (St.mkExi k1 (St.mkExi (p1.2 ++ ([r5] : List Int)) (St.unsep (St.addPur ⟨rfl, by omega, by first | omega | (simp only [List.length_append, List.length_cons, List.length_nil]; omega)⟩ (St.unsep (hw.sub (Sub.keep 0 rfl (Sub.keep 3 rfl (Sub.nil _)))))))))))))
  · skip
    refine V.skip ?_
    refine X.next ?_
    refine V.seq ?_
    refine V.region ?_
    refine O.p rfl rfl rfl (Pu.move rfl rfl) ?_
    refine O.p rfl rfl rfl (Pu.loadAgg rfl ag26 sz26 rfl rfl (Ld.whole 3 rfl)) ?_
    refine O.e rfl rfl rfl (Ef.call call94 rfl rfl (Does.pre (fun w hw => hw.sub (Sub.keep 0 rfl (Sub.keep 3 rfl (Sub.keep 0 rfl (Sub.keep 0 rfl (Sub.keep 0 rfl (Sub.keep 0 rfl (Sub.nil _)))))))) (l01Bad_ok _ _ _ s1 pv1 r1 _ _ w _   (by first | assumption | omega | (try dsimp only at *; omega)) (by first | assumption | omega | (try dsimp only at *; omega)) hpv1_1))) ?_
    rintro _ _ rfl
    refine O.exi (fun pv3 => ?_)
    refine O.exi (fun r7A => ?_)
    refine O.exi (fun r7c => ?_)
    refine O.exi (fun r7 => ?_)
    refine O.sep ?_
    refine O.pur ?_
    rintro ⟨rfl, hpv3_1, hpv3_2⟩
    refine O.sep ?_
    refine O.p rfl rfl rfl (Pu.move rfl rfl) ?_
    refine O.s rfl rfl (Ef.storeAll 5 rfl sz26 rfl rfl rfl rfl (by simp [Value.oneCell']) rfl) ?_
    rintro _ _ rfl
    refine O.p rfl rfl rfl (Pu.assign rfl rfl) ?_
    refine O.nil ?_
    refine X.next ?_
    refine V.ret ?_
    refine X.retCell2 rfl ag26 sz26 rfl rfl rfl (Ld.whole 5 rfl) ?_
    exact fun w hw => St.mkExi pv3 (St.mkExi r7A (St.mkExi r7c (St.mkExi r7 (St.mkExi (p1.1.1) (St.mkExi (p1.1.2) (St.mkExi (p1.2) (St.unsep (St.addPur ⟨rfl, by omega, by first | omega | (simp only [List.length_append, List.length_cons, List.length_nil]; omega)⟩ (St.unsep (hw.sub (Sub.keep 0 rfl (Sub.keep 1 rfl (Sub.nil _)))))))))))))
set_option maxRecDepth 100000 in
set_option maxHeartbeats 1000000 in
theorem l01DrawSet_ok (cA : Option Addr) (cc : Nat) (code : List UInt8) (s : Nat) (v_ : Int) (w0 : World) (H : List Assn) (hc : Rd U8C w0 cA code) (lc : code.length ≤ 1048576) (hv : 0 ≤ v_ ∧ v_ ≤ 15) : Does Tryz.prog 198 [.pointer (some ⟨s, 0, none⟩), .int .i64 v_] w0 (SrcK 132 cA cc code s :: H) (fun r => [.exi fun (oA : Option Addr) => .exi fun (oc : Nat) => .exi fun (o : List Int) => .sep (.pur (r = .slice oA o.length oc ∧ o.length ≤ 100)) (.sep (Own 2 I64 oA oc o) (SrcK 132 cA cc code s))] ++ H) := by
  refine Does.enter Tryz.func198 rfl rfl [(0, .pointer (some ⟨s, 0, none⟩)), (1, .int .i64 v_)] rfl ?_
  refine V.seq ?_
  refine V.region ?_
  refine O.p rfl rfl rfl (Pu.assign rfl rfl) ?_
  refine O.nil ?_
  refine X.next ?_
  refine V.seq ?_
  refine V.region ?_
  refine O.e rfl rfl rfl (Ef.build I64 ([] : List Int) rfl Tryz.underlying34 inf2 rfl rfl rfl (by first | decide | (simp; done)) (by kernel_rfl)) ?_
  rintro _ _ ⟨A1, hA1, rfl, rfl⟩
  refine O.p rfl rfl rfl (Pu.move rfl rfl) ?_
  refine O.e rfl rfl rfl (Ef.build I64 ([(1 : Int), (2 : Int), (3 : Int)] : List Int) rfl Tryz.underlying34 inf2 rfl rfl rfl (by first | decide | (simp; done)) (by kernel_rfl)) ?_
  rintro _ _ ⟨A2, hA2, rfl, rfl⟩
  refine O.e rfl rfl rfl (Ef.call call93 rfl rfl (Does.pre (fun w hw => hw.sub (Sub.keep 2 rfl (Sub.keep 0 rfl (Sub.keep 0 rfl (Sub.refl _))))) (l01Pick_ok _ _ _ s ([(1 : Int), (2 : Int), (3 : Int)] : List Int) _ _ w0 _ (Ld.own 0 (by exact rfl)) (by first | omega | (simp only [tops_len, conts_len, bl, List.length_append, List.length_cons, List.length_nil] at *; omega)) (by first | assumption | omega | (try dsimp only at *; omega)) (by first | assumption | omega | (try dsimp only at *; omega)) (by first | (simp; done) | omega)))) ?_
  rintro _ _ rfl
  refine O.exi (fun r1 => ?_)
  refine O.sep ?_
  refine O.pur ?_
  rintro ⟨rfl, hr1_1⟩
  refine O.p rfl rfl rfl (Pu.assign rfl rfl) ?_
  refine O.p rfl rfl rfl (Pu.assign rfl rfl) ?_
  refine O.nil ?_
  refine X.next ?_
  refine V.seq ?_
  refine V.seq ?_
  refine V.region ?_
  refine O.p rfl rfl rfl (Pu.assign rfl rfl) ?_
  refine O.nil ?_
  refine X.next ?_
  refine V.block ?_
  refine V.loop3 (β := (Option Addr) × Nat × (List Int) × Nat) (fun x => [(5, .slice x.1 x.2.2.1.length x.2.1), (7, .int .i64 (x.2.2.2 : Int))]) _ (fun x => [Own 2 I64 x.1 x.2.1 x.2.2.1]) _ (fun x => x.2.2.2 ≤ v_.toNat ∧ x.2.2.1.length ≤ x.2.2.2) (fun x => v_.toNat - x.2.2.2) (A1, 0, ([] : List Int), 0) (by (try dsimp only); exact ⟨by omega, by simp⟩) (Ent.cons rfl (Ent.cons rfl (Ent.nil _))) (Ent.cons (t := 0) rfl (Ent.cons (t := 1) rfl (Ent.cons (t := 6) rfl (Ent.nil _)))) (Sub.keep 2 rfl (Sub.keep 0 rfl (Sub.keep 0 rfl (Sub.refl _)))) ?_
  rintro ⟨outA, outc, out, p⟩ ⟨hp, hl⟩
  dsimp only at hp hl ⊢
  refine V.seq ?_
  refine V.seq ?_
  refine V.region ?_
  refine O.p rfl rfl rfl (Pu.move rfl rfl) ?_
  refine O.p rfl rfl rfl (Pu.move rfl rfl) ?_
  refine O.p rfl rfl rfl (Pu.lss rfl rfl rfl) ?_
  refine O.nil ?_
  refine X.next ?_
  refine V.condD rfl (fun c1 => ?_) (fun c1 => ?_)
  · skip
    refine V.skip ?_
    refine X.next ?_
    refine V.seq ?_
    refine V.block ?_
    refine V.seq ?_
    refine V.region ?_
    refine O.p rfl rfl rfl (Pu.move rfl rfl) ?_
    refine O.e rfl rfl rfl (Ef.call call92 rfl rfl (Does.pre (fun w hw => hw.sub (Sub.keep 1 rfl (Sub.keep 0 rfl (Sub.keep 0 rfl (Sub.refl _))))) (l01Next_ok _ _ _ s (4 : Int) w0 _   (by first | assumption | omega | (try dsimp only at *; omega)) (by first | assumption | omega | (try dsimp only at *; omega))))) ?_
    rintro _ _ rfl
    refine O.exi (fun r2 => ?_)
    refine O.sep ?_
    refine O.pur ?_
    rintro ⟨rfl, hr2_1, hr2_2, hr2_3⟩
    refine O.p rfl rfl rfl (Pu.move rfl rfl) ?_
    refine O.p rfl rfl rfl (Pu.lss rfl rfl rfl) ?_
    refine O.nil ?_
    refine X.next ?_
    refine V.condD rfl (fun c2 => ?_) (fun c2 => ?_)
    · skip
      refine V.region ?_
      refine O.p rfl rfl rfl (Pu.move rfl rfl) ?_
      refine O.p rfl rfl rfl (Pu.move rfl rfl) ?_
      refine O.e rfl rfl rfl (Ef.build I64 ([(↑p : Int)] : List Int) rfl Tryz.underlying34 inf2 rfl rfl rfl (by first | decide | (simp; done)) (by kernel_rfl)) ?_
      rintro _ _ ⟨A3, hA3, rfl, rfl⟩
      refine O.e rfl rfl rfl (Ef.append (xs := out) (ys := ([(↑p : Int)] : List Int)) 2 rfl Tryz.underlying34 inf2 rfl rfl rfl rfl rfl rfl hA3 (Ld.own 0 (by exact rfl)) (by simp only [List.length_append, List.length_cons, List.length_nil] at *; omega) (by decide)) ?_
      rintro _ _ ⟨A4, k1, rfl, rfl, hA4⟩
      replace hA4 := hA4 (.inr (by simp))
      refine O.p rfl rfl rfl (Pu.assign rfl rfl) ?_
      refine O.nil ?_
      refine X.blockNormal ?_
      refine X.next ?_
      refine V.region ?_
      refine O.p rfl rfl rfl (Pu.move rfl rfl) ?_
      refine O.p rfl rfl rfl (Pu.add64 (r := ((p + 1 : Nat) : Int)) rfl (by omega) rfl rfl rfl) ?_
      refine O.p rfl rfl rfl (Pu.assign rfl rfl) ?_
      refine O.nil ?_
      exact X.back3 (A4, k1, (out ++ ([(↑p : Int)] : List Int)), p + 1) (by (try dsimp only); exact ⟨by omega, by first | omega | (simp only [List.length_append, List.length_cons, List.length_nil]; omega)⟩) (by first | omega | (dsimp only; omega)) (Ent.cons rfl (Ent.cons rfl (Ent.nil _))) (Ent.cons (t := 0) rfl (Ent.cons (t := 1) rfl (Ent.cons (t := 6) rfl (Ent.nil _)))) (Sub.keep 2 rfl (Sub.keep 1 rfl (Sub.keep 1 rfl (Sub.drop (Sub.refl _)))))
    · skip
      refine V.skip ?_
      refine X.blockNormal ?_
      refine X.next ?_
      refine V.region ?_
      refine O.p rfl rfl rfl (Pu.move rfl rfl) ?_
      refine O.p rfl rfl rfl (Pu.add64 (r := ((p + 1 : Nat) : Int)) rfl (by omega) rfl rfl rfl) ?_
      refine O.p rfl rfl rfl (Pu.assign rfl rfl) ?_
      refine O.nil ?_
      exact X.back3 (outA, outc, out, p + 1) (by (try dsimp only); exact ⟨by omega, by first | omega | (simp only [List.length_append, List.length_cons, List.length_nil]; omega)⟩) (by first | omega | (dsimp only; omega)) (Ent.cons rfl (Ent.cons rfl (Ent.nil _))) (Ent.cons (t := 0) rfl (Ent.cons (t := 1) rfl (Ent.cons (t := 6) rfl (Ent.nil _)))) (Sub.keep 1 rfl (Sub.keep 0 rfl (Sub.keep 0 rfl (Sub.refl _))))
  · skip
    refine V.exit ?_
    refine X.thenExit ?_
    refine X.thenExit ?_
    refine X.blockHit ?_
    refine X.next ?_
    refine V.seq ?_
    refine V.seq ?_
    refine V.region ?_
    refine O.p rfl rfl rfl (Pu.move rfl rfl) ?_
    refine O.e rfl rfl rfl (Ef.call call92 rfl rfl (Does.pre (fun w hw => hw.sub (Sub.keep 1 rfl (Sub.keep 0 rfl (Sub.keep 0 rfl (Sub.refl _))))) (l01Next_ok _ _ _ s (24 : Int) w0 _   (by first | assumption | omega | (try dsimp only at *; omega)) (by first | assumption | omega | (try dsimp only at *; omega))))) ?_
    rintro _ _ rfl
    refine O.exi (fun r3 => ?_)
    refine O.sep ?_
    refine O.pur ?_
    rintro ⟨rfl, hr3_1, hr3_2, hr3_3⟩
    refine O.p rfl rfl rfl (Pu.eql rfl rfl rfl) ?_
    refine O.nil ?_
    refine X.next ?_
    refine V.condD rfl (fun c3 => ?_) (fun c3 => ?_)
    · skip
      refine V.region ?_
      refine O.p rfl rfl rfl (Pu.move rfl rfl) ?_
      refine O.p rfl rfl rfl (Pu.move rfl rfl) ?_
      refine O.p rfl rfl rfl (Pu.move rfl rfl) ?_
      refine O.e rfl rfl rfl (Ef.build I64 ([(0 : Int), (-1 : Int), v_] : List Int) rfl Tryz.underlying34 inf2 rfl rfl rfl (by first | decide | (simp; done)) (by kernel_rfl)) ?_
      rintro _ _ ⟨A5, hA5, rfl, rfl⟩
      refine O.e rfl rfl rfl (Ef.call call93 rfl rfl (Does.pre (fun w hw => hw.sub (Sub.keep 1 rfl (Sub.keep 0 rfl (Sub.keep 0 rfl (Sub.keep 0 rfl (Sub.refl _)))))) (l01Pick_ok _ _ _ s ([(0 : Int), (-1 : Int), v_] : List Int) _ _ w0 _ (Ld.own 0 (by exact rfl)) (by first | omega | (simp only [tops_len, conts_len, bl, List.length_append, List.length_cons, List.length_nil] at *; omega)) (by first | assumption | omega | (try dsimp only at *; omega)) (by first | assumption | omega | (try dsimp only at *; omega)) (by first | (simp; done) | omega)))) ?_
      rintro _ _ rfl
      refine O.exi (fun r4 => ?_)
      refine O.sep ?_
      refine O.pur ?_
      rintro ⟨rfl, hr4_1⟩
      refine O.e rfl rfl rfl (Ef.build I64 ([r4] : List Int) rfl Tryz.underlying34 inf2 rfl rfl rfl (by first | decide | (simp; done)) (by kernel_rfl)) ?_
      rintro _ _ ⟨A6, hA6, rfl, rfl⟩
      refine O.e rfl rfl rfl (Ef.append (xs := out) (ys := ([r4] : List Int)) 3 rfl Tryz.underlying34 inf2 rfl rfl rfl rfl rfl rfl hA6 (Ld.own 0 (by exact rfl)) (by simp only [List.length_append, List.length_cons, List.length_nil] at *; omega) (by decide)) ?_
      rintro _ _ ⟨A7, k2, rfl, rfl, hA7⟩
      replace hA7 := hA7 (.inr (by simp))
      refine O.p rfl rfl rfl (Pu.assign rfl rfl) ?_
      refine O.nil ?_
      refine X.next ?_
      refine V.seq ?_
      refine V.region ?_
      refine O.p rfl rfl rfl (Pu.move rfl rfl) ?_
      refine O.p rfl rfl rfl (Pu.assign rfl rfl) ?_
      refine O.nil ?_
      refine X.next ?_
      refine V.ret ?_
      refine X.ret1 rfl rfl ?_
      exact fun w hw => St.mkExi A7 (St.mkExi k2 (St.mkExi (out ++ ([r4] : List Int)) (St.unsep (St.addPur ⟨rfl, by first | omega | (simp only [List.length_append, List.length_cons, List.length_nil]; omega)⟩ (St.unsep (hw.sub (Sub.keep 3 rfl (Sub.keep 1 rfl (Sub.drop (Sub.drop (Sub.drop (Sub.refl _))))))))))))
    · skip
      refine V.skip ?_
      refine X.next ?_
      refine V.seq ?_
      refine V.region ?_
      refine O.p rfl rfl rfl (Pu.move rfl rfl) ?_
      refine O.p rfl rfl rfl (Pu.assign rfl rfl) ?_
      refine O.nil ?_
      refine X.next ?_
      refine V.ret ?_
      refine X.ret1 rfl rfl ?_
      exact fun w hw => St.mkExi outA (St.mkExi outc (St.mkExi out (St.unsep (St.addPur ⟨rfl, by first | omega | (simp only [List.length_append, List.length_cons, List.length_nil]; omega)⟩ (St.unsep (hw.sub (Sub.keep 1 rfl (Sub.keep 0 rfl (Sub.drop (Sub.refl _))))))))))
end Go.Proofs.YtgjfcepnkllklaaGreat
