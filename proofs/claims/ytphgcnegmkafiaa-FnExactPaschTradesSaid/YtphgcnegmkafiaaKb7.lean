/-
  Contracts, part 7.
-/
import Derived.Test.YtphgcnegmkafiaaKb6
set_option linter.unusedVariables false
set_option linter.unusedSimpArgs false
namespace Go.Proofs.Ytphgcnegmkafiaa
open Go Go.RowKit Go.Vc Go.Proofs
set_option maxRecDepth 100000 in
set_option maxHeartbeats 1000000 in
theorem specPaschTrades_ok (v : Int) (bs : List B3) (A : Option Addr) (c : Nat) (w : World) (hx : Rd B3C w A bs) (lx : bs.length ≤ 4611686018427387904) : Does Try.prog 18 [.agg #[.int .i64 v, .slice A bs.length c]] w [] (fun rv_ => [.exi fun (rA : Option Addr) => .exi fun (rc : Nat) => .exi fun (r : TrL) => .sep (.pur (rv_ = .tuple #[.slice rA (topT r).length rc, .int .i64 (if STS v bs then 0 else 1)] ∧ TRL v bs (contT r) ∧ r.length ≤ 1500625)) (.sep (Own 74 (TrC v) rA rc (topT r)) (TrsA 67 r))]) := by
  refine Does.enter Try.func18 rfl rfl [(0, .agg #[.int .i64 v, .slice A bs.length c])] rfl ?_
  refine V.seq ?_
  refine V.region ?_
  refine O.e rfl rfl rfl (Ef.box rfl rfl rfl) ?_
  rintro _ _ ⟨b1, rfl, rfl⟩
  refine O.p rfl rfl rfl (Pu.assign rfl rfl) ?_
  refine O.p rfl rfl rfl (Pu.assign rfl rfl) ?_
  refine O.nil ?_
  refine X.next ?_
  refine V.seq ?_
  refine V.seq ?_
  refine V.region ?_
  refine O.p rfl rfl rfl (Pu.loadAgg rfl ag30 sz30 rfl rfl (Ld.whole 0 rfl)) ?_
  refine O.e rfl rfl rfl (Ef.callP call41 rfl rfl (fun w hw => l01Is_ok _ bs _ _ w ((Ld.old hx) w hw) (by omega))) ?_
  rintro _ _ ⟨rfl, rfl⟩
  refine O.p rfl rfl rfl (Pu.not rfl rfl) ?_
  refine O.nil ?_
  refine X.next ?_
  refine V.condNot rfl (fun c1 => ?_) (fun c1 => ?_)
  · skip
    refine V.seq ?_
    refine V.region ?_
    refine O.p rfl rfl rfl (Pu.assign rfl rfl) ?_
    refine O.p rfl rfl rfl (Pu.assign rfl rfl) ?_
    refine O.nil ?_
    refine X.next ?_
    refine V.ret ?_
    refine X.thenRet ?_
    refine X.ret2 rfl rfl rfl ?_
    exact fun w hw => St.mkExi none (St.mkExi 0 (St.mkExi [] (St.unsep (St.addPur ⟨(by rw [if_neg c1]; rfl), ⟨fun h => absurd h c1, fun _ => rfl⟩, by simp⟩ (St.unsep (St.addNil (T := 74) (C := TrC v) (TrsA.nil (T := 67) (hw.sub (Sub.nil _)))))))))
  · skip
    have hS := c1
    have hlo := c1.lo
    have hhi := c1.hi
    have hfew := hS.few
    have hgv := hS.good
    have hg : ∀ b ∈ bs, good 15 b := fun b h => (hS.good b h).mono hS.hi
    refine V.skip ?_
    refine X.next ?_
    refine V.seq ?_
    refine V.draw mo (by kernel_rfl) (fun hwf => ?_)
    refine D.p 1 rfl rfl rfl rfl rfl rfl (Pu.fieldAddr 1 rfl Try.underlying30 rfl sz28 rfl rfl) ?_
    refine D.p 2 rfl rfl rfl rfl rfl rfl (Pu.load rfl pl28 rfl (Ld.blk 0 rfl rfl)) ?_
    refine D.p 3 rfl rfl rfl rfl rfl rfl (Pu.len rfl Try.underlying28 rfl) ?_
    refine D.eff hwf (e := 0) rfl rfl rfl rfl (Ef.build (TrC v) ([] : List (Sl × Sl)) rfl Try.underlying40 inf74 rfl rfl rfl (by first | decide | (simp; done)) (by kernel_rfl)) rfl rfl rfl ?_
    rintro _ _ ⟨A1, hA1, rfl, rfl⟩ hs
    refine ⟨fun w hw => hw.sub (Sub.keep 1 rfl (Sub.nil _)), ?_⟩
    refine D.p 4 rfl rfl rfl rfl rfl rfl (Pu.assign rfl rfl) ?_
    refine D.p 5 rfl rfl rfl rfl rfl rfl (Pu.assign rfl rfl) ?_
    refine D.done hwf rfl ?_
    refine X.next ?_
    refine V.seq ?_
    refine V.seq ?_
    refine V.region ?_
    refine O.p rfl rfl rfl (Pu.assign rfl rfl) ?_
    refine O.nil ?_
    refine X.next ?_
    refine V.block ?_
    refine V.map (fun w hw => TrsA.nil (T := 67) hw) ?_
    refine V.loop3 (β := (Option Addr) × Nat × TrL × Nat) (fun x => [(4, .slice x.1 (topT x.2.2.1).length x.2.1), (6, .int .i64 (x.2.2.2 : Int))]) _ (fun x => [Own 74 (TrC v) x.1 x.2.1 (topT x.2.2.1), TrsA 67 x.2.2.1]) _ (fun x => x.2.2.2 ≤ bs.length ∧ (∃ ls, IsList (PreB (PQ bs) [] x.2.2.2) ls ∧ contT x.2.2.1 = ls.map (trQ v bs)) ∧ x.2.2.1.length ≤ x.2.2.2 * 42875) (fun x => bs.length - x.2.2.2) (A1, 0, [], 0) (by (try dsimp only); exact ⟨by omega, ⟨[], pas0, rfl⟩, by simp⟩) (Ent.cons rfl (Ent.cons rfl (Ent.nil _))) (Ent.cons (t := 1) rfl (Ent.cons (t := 5) rfl (Ent.nil _))) (Sub.keep 1 rfl (Sub.keep 0 rfl (Sub.keep 0 rfl (Sub.nil _)))) ?_
    rintro ⟨z0A, z0c, z0, i⟩ ⟨hi, ⟨ls0, g0, q0⟩, b0⟩
    dsimp only at hi ls0 g0 q0 b0 ⊢
    have htl_z0 := topT_len z0
    have hcl_z0 := contT_len z0
    refine V.seq ?_
    refine V.seq ?_
    refine V.region ?_
    refine O.p rfl rfl rfl (Pu.move rfl rfl) ?_
    refine O.p rfl rfl rfl (Pu.move rfl rfl) ?_
    refine O.p rfl rfl rfl (Pu.lss rfl rfl rfl) ?_
    refine O.nil ?_
    refine X.next ?_
    refine V.condD rfl (fun c2 => ?_) (fun c2 => ?_)
    · skip
      refine V.skip ?_
      refine X.next ?_
      refine V.seq ?_
      refine V.block ?_
      refine V.seq ?_
      refine V.region ?_
      refine O.p rfl rfl rfl (Pu.move rfl rfl) ?_
      refine O.p rfl rfl rfl (Pu.add64 (r := ((i + 1 : Nat) : Int)) rfl (by omega) rfl rfl rfl) ?_
      refine O.p rfl rfl rfl (Pu.assign rfl rfl) ?_
      refine O.nil ?_
      refine X.next ?_
      refine V.block ?_
      refine V.loop3 (β := (Option Addr) × Nat × TrL × Nat) (fun x => [(4, .slice x.1 (topT x.2.2.1).length x.2.1), (7, .int .i64 (x.2.2.2 : Int))]) _ (fun x => [Own 74 (TrC v) x.1 x.2.1 (topT x.2.2.1), TrsA 67 x.2.2.1]) _ (fun x => i < x.2.2.2 ∧ x.2.2.2 ≤ bs.length ∧ (∃ ls, contT x.2.2.1 = contT z0 ++ ls.map (trQ v bs) ∧ IsList (PreB (PQ bs) [(i : Int)] x.2.2.2) ls) ∧ x.2.2.1.length ≤ i * 42875 + x.2.2.2 * 1225) (fun x => bs.length - x.2.2.2) (z0A, z0c, z0, i + 1) (by (try dsimp only); exact ⟨by omega, by omega, ⟨[], by simp, pas1⟩, by omega⟩) (Ent.cons rfl (Ent.cons rfl (Ent.nil _))) (Ent.cons (t := 1) rfl (Ent.cons (t := 5) rfl (Ent.cons (t := 6) rfl (Ent.nil _)))) (Sub.keep 0 rfl (Sub.keep 0 rfl (Sub.keep 0 rfl (Sub.nil _)))) ?_
      rintro ⟨z1A, z1c, z1, j⟩ ⟨hij, hj, ⟨ls1, q1, g1⟩, b1⟩
      dsimp only at hij hj ls1 q1 g1 b1 ⊢
      have htl_z1 := topT_len z1
      have hcl_z1 := contT_len z1
      refine V.seq ?_
      refine V.seq ?_
      refine V.region ?_
      refine O.p rfl rfl rfl (Pu.move rfl rfl) ?_
      refine O.p rfl rfl rfl (Pu.move rfl rfl) ?_
      refine O.p rfl rfl rfl (Pu.lss rfl rfl rfl) ?_
      refine O.nil ?_
      refine X.next ?_
      refine V.condD rfl (fun c3 => ?_) (fun c3 => ?_)
      · skip
        refine V.skip ?_
        refine X.next ?_
        refine V.seq ?_
        refine V.block ?_
        refine V.seq ?_
        refine V.seq ?_
        refine V.draw mo (by kernel_rfl) (fun hwf => ?_)
        refine D.p 0 rfl rfl rfl rfl rfl rfl (Pu.fieldAddr 1 rfl Try.underlying30 rfl sz28 rfl rfl) ?_
        refine D.p 1 rfl rfl rfl rfl rfl rfl (Pu.load rfl pl28 rfl (Ld.blk 2 rfl rfl)) ?_
        refine D.p 2 rfl rfl rfl rfl rfl rfl (Pu.move rfl rfl) ?_
        refine D.p 3 rfl rfl rfl rfl rfl rfl (Pu.indexAddr (i) rfl Try.underlying28 sz67 rfl rfl (by omega) (by omega) (hx.some (by omega))) ?_
        have e1 : i < bs.length := by omega
        refine D.p 4 rfl rfl rfl rfl rfl rfl (Pu.loadAgg' (v := B3.v (bs[i]'e1)) rfl rfl ag67 sz67 rfl rfl (Ld.rds (Ld.old hx) (k := i) e1 rfl)) ?_
        refine D.p 5 rfl rfl rfl rfl rfl rfl (Pu.fieldAddr 1 rfl Try.underlying30 rfl sz28 rfl rfl) ?_
        refine D.p 6 rfl rfl rfl rfl rfl rfl (Pu.load rfl pl28 rfl (Ld.blk 2 rfl rfl)) ?_
        refine D.p 7 rfl rfl rfl rfl rfl rfl (Pu.move rfl rfl) ?_
        refine D.p 8 rfl rfl rfl rfl rfl rfl (Pu.indexAddr (j) rfl Try.underlying28 sz67 rfl rfl (by omega) (by omega) (hx.some (by omega))) ?_
        have e2 : j < bs.length := by omega
        refine D.p 9 rfl rfl rfl rfl rfl rfl (Pu.loadAgg' (v := B3.v (bs[j]'e2)) rfl rfl ag67 sz67 rfl rfl (Ld.rds (Ld.old hx) (k := j) e2 rfl)) ?_
        refine D.eff hwf (e := 10) rfl rfl rfl rfl (Ef.callP call42 rfl rfl (fun w hw => l01Common_ok _ _ _)) rfl rfl rfl ?_
        rintro _ _ ⟨rfl, rfl⟩ hs
        refine ⟨fun w hw => hw, ?_⟩
        refine D.p 11 rfl rfl rfl rfl rfl rfl (Pu.neq rfl rfl rfl) ?_
        refine D.done hwf rfl ?_
        refine X.next ?_
        refine V.condNot rfl (fun c4 => ?_) (fun c4 => ?_)
        · skip
          refine V.exit ?_
          refine X.thenExit ?_
          refine X.blockHit ?_
          refine X.next ?_
          refine V.region ?_
          refine O.p rfl rfl rfl (Pu.move rfl rfl) ?_
          refine O.p rfl rfl rfl (Pu.add64 (r := ((j + 1 : Nat) : Int)) rfl (by omega) rfl rfl rfl) ?_
          refine O.p rfl rfl rfl (Pu.assign rfl rfl) ?_
          refine O.nil ?_
          exact X.back3 (z1A, z1c, z1, j + 1) (by (try dsimp only); exact ⟨by omega, by omega, ⟨ls1, q1, pas_skip1 hS hij (by omega) (common_ne hS (by omega) (by omega) (by omega) c4) g1⟩, by omega⟩) (by first | omega | (dsimp only; omega)) (Ent.cons' rfl (by first | rfl | (simp only [topT_append]; done) | (simp only [topT_append]; rfl)) (Ent.cons rfl (Ent.nil _))) (Ent.cons (t := 1) rfl (Ent.cons (t := 5) rfl (Ent.cons (t := 6) rfl (Ent.nil _)))) (Sub.keep 0 rfl (Sub.keep 0 rfl (Sub.keep 0 rfl (Sub.nil _))))
        · skip
          refine V.skip ?_
          refine X.next ?_
          refine V.seq ?_
          refine V.region ?_
          refine O.p rfl rfl rfl (Pu.move rfl rfl) ?_
          refine O.p rfl rfl rfl (Pu.add64 (r := ((j + 1 : Nat) : Int)) rfl (by omega) rfl rfl rfl) ?_
          refine O.p rfl rfl rfl (Pu.assign rfl rfl) ?_
          refine O.nil ?_
          refine X.next ?_
          refine V.block ?_
          refine V.loop3 (β := (Option Addr) × Nat × TrL × Nat) (fun x => [(4, .slice x.1 (topT x.2.2.1).length x.2.1), (8, .int .i64 (x.2.2.2 : Int))]) _ (fun x => [Own 74 (TrC v) x.1 x.2.1 (topT x.2.2.1), TrsA 67 x.2.2.1]) _ (fun x => j < x.2.2.2 ∧ x.2.2.2 ≤ bs.length ∧ (∃ ls, contT x.2.2.1 = contT z1 ++ ls.map (trQ v bs) ∧ IsList (PreB (PQ bs) [(i : Int), (j : Int)] x.2.2.2) ls) ∧ x.2.2.1.length ≤ i * 42875 + j * 1225 + x.2.2.2 * 35) (fun x => bs.length - x.2.2.2) (z1A, z1c, z1, j + 1) (by (try dsimp only); exact ⟨by omega, by omega, ⟨[], by simp, pas2⟩, by omega⟩) (Ent.cons rfl (Ent.cons rfl (Ent.nil _))) (Ent.cons (t := 1) rfl (Ent.cons (t := 5) rfl (Ent.cons (t := 6) rfl (Ent.cons (t := 7) rfl (Ent.nil _))))) (Sub.keep 0 rfl (Sub.keep 0 rfl (Sub.keep 0 rfl (Sub.nil _)))) ?_
          rintro ⟨z2A, z2c, z2, k⟩ ⟨hjk, hk, ⟨ls2, q2, g2⟩, b2⟩
          dsimp only at hjk hk ls2 q2 g2 b2 ⊢
          have htl_z2 := topT_len z2
          have hcl_z2 := contT_len z2
          refine V.seq ?_
          refine V.seq ?_
          refine V.region ?_
          refine O.p rfl rfl rfl (Pu.move rfl rfl) ?_
          refine O.p rfl rfl rfl (Pu.move rfl rfl) ?_
          refine O.p rfl rfl rfl (Pu.lss rfl rfl rfl) ?_
          refine O.nil ?_
          refine X.next ?_
          refine V.condD rfl (fun c5 => ?_) (fun c5 => ?_)
          · skip
            refine V.skip ?_
            refine X.next ?_
            refine V.seq ?_
            refine V.block ?_
            refine V.seq ?_
            refine V.seq ?_
            refine V.draw mo (by kernel_rfl) (fun hwf => ?_)
            refine D.p 0 rfl rfl rfl rfl rfl rfl (Pu.fieldAddr 1 rfl Try.underlying30 rfl sz28 rfl rfl) ?_
            refine D.p 1 rfl rfl rfl rfl rfl rfl (Pu.load rfl pl28 rfl (Ld.blk 2 rfl rfl)) ?_
            refine D.p 2 rfl rfl rfl rfl rfl rfl (Pu.move rfl rfl) ?_
            refine D.p 3 rfl rfl rfl rfl rfl rfl (Pu.indexAddr (i) rfl Try.underlying28 sz67 rfl rfl (by omega) (by omega) (hx.some (by omega))) ?_
            refine D.p 4 rfl rfl rfl rfl rfl rfl (Pu.loadAgg' (v := B3.v (bs[i]'e1)) rfl rfl ag67 sz67 rfl rfl (Ld.rds (Ld.old hx) (k := i) e1 rfl)) ?_
            refine D.p 5 rfl rfl rfl rfl rfl rfl (Pu.fieldAddr 1 rfl Try.underlying30 rfl sz28 rfl rfl) ?_
            refine D.p 6 rfl rfl rfl rfl rfl rfl (Pu.load rfl pl28 rfl (Ld.blk 2 rfl rfl)) ?_
            refine D.p 7 rfl rfl rfl rfl rfl rfl (Pu.move rfl rfl) ?_
            refine D.p 8 rfl rfl rfl rfl rfl rfl (Pu.indexAddr (k) rfl Try.underlying28 sz67 rfl rfl (by omega) (by omega) (hx.some (by omega))) ?_
            have e3 : k < bs.length := by omega
            refine D.p 9 rfl rfl rfl rfl rfl rfl (Pu.loadAgg' (v := B3.v (bs[k]'e3)) rfl rfl ag67 sz67 rfl rfl (Ld.rds (Ld.old hx) (k := k) e3 rfl)) ?_
            refine D.eff hwf (e := 10) rfl rfl rfl rfl (Ef.callP call42 rfl rfl (fun w hw => l01Common_ok _ _ _)) rfl rfl rfl ?_
            rintro _ _ ⟨rfl, rfl⟩ hs
            refine ⟨fun w hw => hw, ?_⟩
            refine D.p 11 rfl rfl rfl rfl rfl rfl (Pu.neq rfl rfl rfl) ?_
            refine D.p 12 rfl rfl rfl rfl rfl rfl (Pu.move rfl rfl) ?_
            refine D.splitN 62 rfl (fun c6 => ?_) (fun c6 => ?_)
            · skip
              refine D.gs 13 rfl rfl rfl rfl rfl rfl rfl rfl rfl ?_
              refine D.gs 14 rfl rfl rfl rfl rfl rfl rfl rfl rfl ?_
              refine D.gs 15 rfl rfl rfl rfl rfl rfl rfl rfl rfl ?_
              refine D.gs 16 rfl rfl rfl rfl rfl rfl rfl rfl rfl ?_
              refine D.gs 17 rfl rfl rfl rfl rfl rfl rfl rfl rfl ?_
              refine D.gs 18 rfl rfl rfl rfl rfl rfl rfl rfl rfl ?_
              refine D.gs 19 rfl rfl rfl rfl rfl rfl rfl rfl rfl ?_
              refine D.gs 20 rfl rfl rfl rfl rfl rfl rfl rfl rfl ?_
              refine D.gs 21 rfl rfl rfl rfl rfl rfl rfl rfl rfl ?_
              refine D.gs 22 rfl rfl rfl rfl rfl rfl rfl rfl rfl ?_
              refine D.gs 23 rfl rfl rfl rfl rfl rfl rfl rfl rfl ?_
              refine D.gs 24 rfl rfl rfl rfl rfl rfl rfl rfl rfl ?_
              refine D.p 25 rfl rfl rfl rfl rfl rfl (Pu.pickT rfl rfl rfl) ?_
              refine D.done hwf rfl ?_
              refine X.next ?_
              refine V.condT rfl ?_
              refine V.exit ?_
              refine X.thenExit ?_
              refine X.blockHit ?_
              refine X.next ?_
              refine V.region ?_
              refine O.p rfl rfl rfl (Pu.move rfl rfl) ?_
              refine O.p rfl rfl rfl (Pu.add64 (r := ((k + 1 : Nat) : Int)) rfl (by omega) rfl rfl rfl) ?_
              refine O.p rfl rfl rfl (Pu.assign rfl rfl) ?_
              refine O.nil ?_
              exact X.back3 (z2A, z2c, z2, k + 1) (by (try dsimp only); exact ⟨by omega, by omega, ⟨ls2, q2, pas_skip2 hS hij hjk (by omega) (.inl (common_ne hS (by omega) (by omega) (by omega) c6)) g2⟩, by omega⟩) (by first | omega | (dsimp only; omega)) (Ent.cons' rfl (by first | rfl | (simp only [topT_append]; done) | (simp only [topT_append]; rfl)) (Ent.cons rfl (Ent.nil _))) (Ent.cons (t := 1) rfl (Ent.cons (t := 5) rfl (Ent.cons (t := 6) rfl (Ent.cons (t := 7) rfl (Ent.nil _))))) (Sub.keep 0 rfl (Sub.keep 0 rfl (Sub.keep 0 rfl (Sub.nil _))))
            · skip
              refine D.gp 13 rfl rfl rfl rfl rfl rfl rfl rfl (Pu.fieldAddr 1 rfl Try.underlying30 rfl sz28 rfl rfl) ?_
              refine D.gp 14 rfl rfl rfl rfl rfl rfl rfl rfl (Pu.load rfl pl28 rfl (Ld.blk 2 rfl rfl)) ?_
              refine D.gp 15 rfl rfl rfl rfl rfl rfl rfl rfl (Pu.move rfl rfl) ?_
              refine D.gp 16 rfl rfl rfl rfl rfl rfl rfl rfl (Pu.indexAddr (j) rfl Try.underlying28 sz67 rfl rfl (by omega) (by omega) (hx.some (by omega))) ?_
              refine D.gp 17 rfl rfl rfl rfl rfl rfl rfl rfl (Pu.loadAgg' (v := B3.v (bs[j]'e2)) rfl rfl ag67 sz67 rfl rfl (Ld.rds (Ld.old hx) (k := j) e2 rfl)) ?_
              refine D.gp 18 rfl rfl rfl rfl rfl rfl rfl rfl (Pu.fieldAddr 1 rfl Try.underlying30 rfl sz28 rfl rfl) ?_
              refine D.gp 19 rfl rfl rfl rfl rfl rfl rfl rfl (Pu.load rfl pl28 rfl (Ld.blk 2 rfl rfl)) ?_
              refine D.gp 20 rfl rfl rfl rfl rfl rfl rfl rfl (Pu.move rfl rfl) ?_
              refine D.gp 21 rfl rfl rfl rfl rfl rfl rfl rfl (Pu.indexAddr (k) rfl Try.underlying28 sz67 rfl rfl (by omega) (by omega) (hx.some (by omega))) ?_
              refine D.gp 22 rfl rfl rfl rfl rfl rfl rfl rfl (Pu.loadAgg' (v := B3.v (bs[k]'e3)) rfl rfl ag67 sz67 rfl rfl (Ld.rds (Ld.old hx) (k := k) e3 rfl)) ?_
              refine D.geff hwf (e := 23) rfl rfl rfl rfl rfl rfl (Ef.callP call42 rfl rfl (fun w hw => l01Common_ok _ _ _)) rfl rfl rfl ?_
              rintro _ _ ⟨rfl, rfl⟩ hs
              refine ⟨fun w hw => hw, ?_⟩
              refine D.gp 24 rfl rfl rfl rfl rfl rfl rfl rfl (Pu.neq rfl rfl rfl) ?_
              refine D.p 25 rfl rfl rfl rfl rfl rfl (Pu.pickF rfl rfl rfl) ?_
              refine D.done hwf rfl ?_
              refine X.next ?_
              refine V.condNot rfl (fun c7 => ?_) (fun c7 => ?_)
              · skip
                refine V.exit ?_
                refine X.thenExit ?_
                refine X.blockHit ?_
                refine X.next ?_
                refine V.region ?_
                refine O.p rfl rfl rfl (Pu.move rfl rfl) ?_
                refine O.p rfl rfl rfl (Pu.add64 (r := ((k + 1 : Nat) : Int)) rfl (by omega) rfl rfl rfl) ?_
                refine O.p rfl rfl rfl (Pu.assign rfl rfl) ?_
                refine O.nil ?_
                exact X.back3 (z2A, z2c, z2, k + 1) (by (try dsimp only); exact ⟨by omega, by omega, ⟨ls2, q2, pas_skip2 hS hij hjk (by omega) (.inr (common_ne hS (by omega) (by omega) (by omega) c7)) g2⟩, by omega⟩) (by first | omega | (dsimp only; omega)) (Ent.cons' rfl (by first | rfl | (simp only [topT_append]; done) | (simp only [topT_append]; rfl)) (Ent.cons rfl (Ent.nil _))) (Ent.cons (t := 1) rfl (Ent.cons (t := 5) rfl (Ent.cons (t := 6) rfl (Ent.cons (t := 7) rfl (Ent.nil _))))) (Sub.keep 0 rfl (Sub.keep 0 rfl (Sub.keep 0 rfl (Sub.nil _))))
              · skip
                refine V.skip ?_
                refine X.next ?_
                refine V.seq ?_
                refine V.region ?_
                refine O.p rfl rfl rfl (Pu.move rfl rfl) ?_
                refine O.p rfl rfl rfl (Pu.add64 (r := ((k + 1 : Nat) : Int)) rfl (by omega) rfl rfl rfl) ?_
                refine O.p rfl rfl rfl (Pu.assign rfl rfl) ?_
                refine O.nil ?_
                refine X.next ?_
                refine V.block ?_
                refine V.loop3 (β := (Option Addr) × Nat × TrL × Nat) (fun x => [(4, .slice x.1 (topT x.2.2.1).length x.2.1), (9, .int .i64 (x.2.2.2 : Int))]) _ (fun x => [Own 74 (TrC v) x.1 x.2.1 (topT x.2.2.1), TrsA 67 x.2.2.1]) _ (fun x => k < x.2.2.2 ∧ x.2.2.2 ≤ bs.length ∧ (∃ ls, contT x.2.2.1 = contT z2 ++ ls.map (trQ v bs) ∧ IsList (PreB (PQ bs) [(i : Int), (j : Int), (k : Int)] x.2.2.2) ls) ∧ x.2.2.1.length ≤ i * 42875 + j * 1225 + k * 35 + x.2.2.2) (fun x => bs.length - x.2.2.2) (z2A, z2c, z2, k + 1) (by (try dsimp only); exact ⟨by omega, by omega, ⟨[], by simp, pas3⟩, by omega⟩) (Ent.cons rfl (Ent.cons rfl (Ent.nil _))) (Ent.cons (t := 1) rfl (Ent.cons (t := 5) rfl (Ent.cons (t := 6) rfl (Ent.cons (t := 7) rfl (Ent.cons (t := 8) rfl (Ent.nil _)))))) (Sub.keep 0 rfl (Sub.keep 0 rfl (Sub.keep 0 rfl (Sub.nil _)))) ?_
                rintro ⟨z3A, z3c, z3, m⟩ ⟨hkm, hm, ⟨ls3, q3, g3⟩, b3⟩
                dsimp only at hkm hm ls3 q3 g3 b3 ⊢
                have htl_z3 := topT_len z3
                have hcl_z3 := contT_len z3
                refine V.seq ?_
                refine V.seq ?_
                refine V.region ?_
                refine O.p rfl rfl rfl (Pu.move rfl rfl) ?_
                refine O.p rfl rfl rfl (Pu.move rfl rfl) ?_
                refine O.p rfl rfl rfl (Pu.lss rfl rfl rfl) ?_
                refine O.nil ?_
                refine X.next ?_
                refine V.condD rfl (fun c8 => ?_) (fun c8 => ?_)
                · skip
                  refine V.skip ?_
                  refine X.next ?_
                  refine V.seq ?_
                  refine V.block ?_
                  refine V.seq ?_
                  have e1 : i < bs.length := by omega
                  have e2 : j < bs.length := by omega
                  have e3 : k < bs.length := by omega
                  have e4 : m < bs.length := by omega
                  refine V.draw mo (by kernel_rfl) (fun hwf => ?_)
                  refine D.p 0 rfl rfl rfl rfl rfl rfl (Pu.fieldAddr 0 rfl Try.underlying30 rfl sz2 rfl rfl) ?_
                  refine D.p 1 rfl rfl rfl rfl rfl rfl (Pu.load rfl pl2 rfl (Ld.blk 2 rfl rfl)) ?_
                  refine D.p 2 rfl rfl rfl rfl rfl rfl (Pu.fieldAddr 1 rfl Try.underlying30 rfl sz28 rfl rfl) ?_
                  refine D.p 3 rfl rfl rfl rfl rfl rfl (Pu.load rfl pl28 rfl (Ld.blk 2 rfl rfl)) ?_
                  refine D.p 4 rfl rfl rfl rfl rfl rfl (Pu.move rfl rfl) ?_
                  refine D.p 5 rfl rfl rfl rfl rfl rfl (Pu.indexAddr (i) rfl Try.underlying28 sz67 rfl rfl (by omega) (by omega) (hx.some (by omega))) ?_
                  refine D.p 6 rfl rfl rfl rfl rfl rfl (Pu.loadAgg' (v := B3.v (bs[i]'e1)) rfl rfl ag67 sz67 rfl rfl (Ld.rds (Ld.old hx) (k := i) e1 rfl)) ?_
                  refine D.p 7 rfl rfl rfl rfl rfl rfl (Pu.fieldAddr 1 rfl Try.underlying30 rfl sz28 rfl rfl) ?_
                  refine D.p 8 rfl rfl rfl rfl rfl rfl (Pu.load rfl pl28 rfl (Ld.blk 2 rfl rfl)) ?_
                  refine D.p 9 rfl rfl rfl rfl rfl rfl (Pu.move rfl rfl) ?_
                  refine D.p 10 rfl rfl rfl rfl rfl rfl (Pu.indexAddr (j) rfl Try.underlying28 sz67 rfl rfl (by omega) (by omega) (hx.some (by omega))) ?_
                  refine D.p 11 rfl rfl rfl rfl rfl rfl (Pu.loadAgg' (v := B3.v (bs[j]'e2)) rfl rfl ag67 sz67 rfl rfl (Ld.rds (Ld.old hx) (k := j) e2 rfl)) ?_
                  refine D.p 12 rfl rfl rfl rfl rfl rfl (Pu.fieldAddr 1 rfl Try.underlying30 rfl sz28 rfl rfl) ?_
                  refine D.p 13 rfl rfl rfl rfl rfl rfl (Pu.load rfl pl28 rfl (Ld.blk 2 rfl rfl)) ?_
                  refine D.p 14 rfl rfl rfl rfl rfl rfl (Pu.move rfl rfl) ?_
                  refine D.p 15 rfl rfl rfl rfl rfl rfl (Pu.indexAddr (k) rfl Try.underlying28 sz67 rfl rfl (by omega) (by omega) (hx.some (by omega))) ?_
                  refine D.p 16 rfl rfl rfl rfl rfl rfl (Pu.loadAgg' (v := B3.v (bs[k]'e3)) rfl rfl ag67 sz67 rfl rfl (Ld.rds (Ld.old hx) (k := k) e3 rfl)) ?_
                  refine D.p 17 rfl rfl rfl rfl rfl rfl (Pu.fieldAddr 1 rfl Try.underlying30 rfl sz28 rfl rfl) ?_
                  refine D.p 18 rfl rfl rfl rfl rfl rfl (Pu.load rfl pl28 rfl (Ld.blk 2 rfl rfl)) ?_
                  refine D.p 19 rfl rfl rfl rfl rfl rfl (Pu.move rfl rfl) ?_
                  refine D.p 20 rfl rfl rfl rfl rfl rfl (Pu.indexAddr (m) rfl Try.underlying28 sz67 rfl rfl (by omega) (by omega) (hx.some (by omega))) ?_
                  refine D.p 21 rfl rfl rfl rfl rfl rfl (Pu.loadAgg' (v := B3.v (bs[m]'e4)) rfl rfl ag67 sz67 rfl rfl (Ld.rds (Ld.old hx) (k := m) e4 rfl)) ?_
                  refine D.either hwf (e1 := 22) (e2 := 27) rfl ?_ ?_
                  · skip
                    refine ⟨_, _, rfl, rfl, fun _ _ => wanted_none rfl _, Ef.build B3C ([(bs[i]'e1), (bs[j]'e2), (bs[k]'e3), (bs[m]'e4)] : List B3) rfl Try.underlying28 inf67 rfl rfl rfl (by first | decide | (simp; done)) (by kernel_rfl), rfl, rfl, ?_⟩
                    rintro _ _ ⟨A2, hA2, rfl, rfl⟩ hs
                    refine ⟨fun w hw => hw.sub (Sub.keep 1 rfl (Sub.keep 1 rfl (Sub.keep 1 rfl (Sub.nil _)))), ?_⟩
                    refine D.either hwf (e1 := 23) (e2 := 27) rfl ?_ ?_
                    · skip
                      refine ⟨_, _, rfl, rfl, fun _ _ => wanted_none rfl _, Ef.call1 call43 rfl rfl (fun w hw => l04Four_ok  v ([(bs[i]'e1), (bs[j]'e2), (bs[k]'e3), (bs[m]'e4)] : List B3) _ _ w ((Ld.own 0 (by exact rfl)) w hw) (by simp only [List.length_cons, List.length_nil]; decide) ⟨by omega, by omega⟩ rfl (fun b hb => by simp only [List.mem_cons, List.not_mem_nil, or_false] at hb; rcases hb with rfl | rfl | rfl | rfl <;> exact hgv _ (List.getElem_mem _)) (four_lt (v := v) (sts_lt hS) hij hjk hkm e4)), rfl, rfl, ?_⟩
                      rintro _ _ rfl hs
                      refine ⟨fun w hw => hs w hw.tail, ?_⟩
                      refine D.exi (fun o1A => ?_)
                      refine D.exi (fun o1c => ?_)
                      refine D.exi (fun o1 => ?_)
                      refine D.exi (fun i1A => ?_)
                      refine D.exi (fun i1c => ?_)
                      refine D.exi (fun i1 => ?_)
                      refine D.sep ?_
                      refine D.pur1 ?_
                      rintro ⟨rfl, ho1_1⟩
                      refine D.sep ?_
                      refine D.p 24 rfl rfl rfl rfl rfl rfl (Pu.move rfl rfl) ?_
                      refine D.p 25 rfl rfl rfl rfl rfl rfl (Pu.extract rfl rfl rfl) ?_
                      refine D.p 26 rfl rfl rfl rfl rfl rfl (Pu.extract rfl rfl rfl) ?_
                      refine D.eff hwf (e := 27) rfl rfl rfl rfl (Ef.alloc rfl zr74 rfl) rfl rfl rfl ?_
                      rintro _ _ ⟨b2, rfl, rfl⟩ hs
                      refine ⟨fun w hw => hw.sub (Sub.keep 4 rfl (Sub.keep 4 rfl (Sub.keep 4 rfl (Sub.nil _)))), ?_⟩
                      refine D.eff hwf (e := 28) rfl rfl rfl rfl (Ef.storeAll 0 rfl sz74 rfl rfl rfl rfl (by simp [Value.oneCell']) rfl) rfl rfl rfl ?_
                      rintro _ _ rfl hs
                      refine ⟨fun w hw => hw.sub (Sub.keep 4 rfl (Sub.keep 4 rfl (Sub.keep 4 rfl (Sub.nil _)))), ?_⟩
                      refine D.p 29 rfl rfl rfl rfl rfl rfl (Pu.assign rfl rfl) ?_
                      refine D.done hwf rfl ?_
                      refine X.next ?_
                      refine V.seq ?_
                      refine V.region ?_
                      refine O.p rfl rfl rfl (Pu.move rfl rfl) ?_
                      refine O.nil ?_
                      refine X.next ?_
                      refine V.condD rfl (fun c9 => ?_) (fun c9 => ?_)
                      · skip
                        refine V.map (fun w hw => hw.sub (Sub.cons 0 rfl (fun w F h => by rw [if_pos c9] at h; exact h) (Sub.keep 0 rfl (Sub.keep 0 rfl (Sub.keep 0 rfl (Sub.keep 0 rfl (Sub.keep 0 rfl (Sub.keep 0 rfl (Sub.nil _))))))))) ?_
                        have htq := trQ_four (v := v) e1 e2 e3 e4 (ho1_1 c9)
                        refine V.region ?_
                        refine O.p rfl rfl rfl (Pu.move rfl rfl) ?_
                        refine O.p rfl rfl rfl (Pu.loadAgg rfl ag74 sz74 rfl rfl (Ld.whole 0 rfl)) ?_
                        refine O.e rfl rfl rfl (Ef.build (TrC v) ([(⟨o1A, o1.length, o1c⟩, ⟨i1A, i1.length, i1c⟩)] : List (Sl × Sl)) rfl Try.underlying40 inf74 rfl rfl rfl (by first | decide | (simp; done)) (by kernel_rfl)) ?_
                        rintro _ _ ⟨A3, hA3, rfl, rfl⟩
                        refine O.e rfl rfl rfl (Ef.append (xs := (topT z3)) (ys := ([(⟨o1A, o1.length, o1c⟩, ⟨i1A, i1.length, i1c⟩)] : List (Sl × Sl))) 5 rfl Try.underlying40 inf74 rfl rfl rfl rfl rfl rfl hA3 (Ld.own 0 (by exact rfl)) (by simp only [List.length_append, List.length_cons, List.length_nil] at *; omega) (by decide)) ?_
                        rintro _ _ ⟨A4, k1, rfl, rfl, hA4⟩
                        replace hA4 := hA4 (.inr (by simp))
                        refine O.p rfl rfl rfl (Pu.assign rfl rfl) ?_
                        refine O.nil ?_
                        refine X.blockNormal ?_
                        refine X.next ?_
                        refine V.region ?_
                        refine O.p rfl rfl rfl (Pu.move rfl rfl) ?_
                        refine O.p rfl rfl rfl (Pu.add64 (r := ((m + 1 : Nat) : Int)) rfl (by omega) rfl rfl rfl) ?_
                        refine O.p rfl rfl rfl (Pu.assign rfl rfl) ?_
                        refine O.nil ?_
                        refine X.map (fun w hw => trs_snoc (ts := z3) (hw.sub (Sub.keep 5 rfl (Sub.keep 5 rfl (Sub.keep 2 rfl (Sub.keep 2 rfl (Sub.keep 0 rfl (Sub.keep 0 rfl (Sub.keep 0 rfl (Sub.keep 0 rfl (Sub.nil _))))))))))) ?_
                        exact X.back3 (A4, k1, (z3 ++ [((⟨o1A, o1.length, o1c⟩, o1), (⟨i1A, i1.length, i1c⟩, i1))]), m + 1) (by (try dsimp only); exact ⟨by omega, by omega, ⟨ls3 ++ [[(i : Int), (j : Int), (k : Int), (m : Int)]], by rw [contT_append, q3, List.append_assoc, List.map_append]; refine congrArg _ (congrArg _ ?_); show [(o1, i1)] = [trQ v bs _]; rw [htq], pas_yes hij hjk hkm (by omega) ((pasB_four (hg _ (List.getElem_mem _)) (hg _ (List.getElem_mem _)) (hg _ (List.getElem_mem _)) (hg _ (List.getElem_mem _))).1 c9) g3⟩, by simp only [List.length_append, List.length_singleton]; omega⟩) (by first | omega | (dsimp only; omega)) (Ent.cons' rfl (by first | rfl | (simp only [topT_append]; done) | (simp only [topT_append]; rfl)) (Ent.cons rfl (Ent.nil _))) (Ent.cons (t := 1) rfl (Ent.cons (t := 5) rfl (Ent.cons (t := 6) rfl (Ent.cons (t := 7) rfl (Ent.cons (t := 8) rfl (Ent.nil _)))))) (Sub.keep 0 rfl (Sub.keep 0 rfl (Sub.keep 3 rfl (Sub.nil _))))
                      · skip
                        refine V.skip ?_
                        refine X.blockNormal ?_
                        refine X.next ?_
                        refine V.region ?_
                        refine O.p rfl rfl rfl (Pu.move rfl rfl) ?_
                        refine O.p rfl rfl rfl (Pu.add64 (r := ((m + 1 : Nat) : Int)) rfl (by omega) rfl rfl rfl) ?_
                        refine O.p rfl rfl rfl (Pu.assign rfl rfl) ?_
                        refine O.nil ?_
                        exact X.back3 (z3A, z3c, z3, m + 1) (by (try dsimp only); exact ⟨by omega, by omega, ⟨ls3, q3, pas_no hij hjk hkm (by omega) (fun h => c9 ((pasB_four (hg _ (List.getElem_mem _)) (hg _ (List.getElem_mem _)) (hg _ (List.getElem_mem _)) (hg _ (List.getElem_mem _))).2 h)) g3⟩, by omega⟩) (by first | omega | (dsimp only; omega)) (Ent.cons' rfl (by first | rfl | (simp only [topT_append]; done) | (simp only [topT_append]; rfl)) (Ent.cons rfl (Ent.nil _))) (Ent.cons (t := 1) rfl (Ent.cons (t := 5) rfl (Ent.cons (t := 6) rfl (Ent.cons (t := 7) rfl (Ent.cons (t := 8) rfl (Ent.nil _)))))) (Sub.keep 4 rfl (Sub.keep 4 rfl (Sub.keep 4 rfl (Sub.nil _))))
                    · skip
                      refine ⟨_, _, rfl, rfl, fun _ _ => wanted_none rfl _, Ef.alloc rfl zr74 rfl, rfl, rfl, ?_⟩
                      rintro _ _ ⟨b2, rfl, rfl⟩ hs
                      refine ⟨fun w hw => hw.sub (Sub.keep 2 rfl (Sub.keep 2 rfl (Sub.keep 2 rfl (Sub.nil _)))), ?_⟩
                      refine D.eff hwf (e := 23) rfl rfl rfl rfl (Ef.call1 call43 rfl rfl (fun w hw => l04Four_ok  v ([(bs[i]'e1), (bs[j]'e2), (bs[k]'e3), (bs[m]'e4)] : List B3) _ _ w ((Ld.own 1 (by exact rfl)) w hw) (by simp only [List.length_cons, List.length_nil]; decide) ⟨by omega, by omega⟩ rfl (fun b hb => by simp only [List.mem_cons, List.not_mem_nil, or_false] at hb; rcases hb with rfl | rfl | rfl | rfl <;> exact hgv _ (List.getElem_mem _)) (four_lt (v := v) (sts_lt hS) hij hjk hkm e4))) rfl rfl rfl ?_
                      rintro _ _ rfl hs
                      refine ⟨fun w hw => hs w hw.tail, ?_⟩
                      refine D.exi (fun o1A => ?_)
                      refine D.exi (fun o1c => ?_)
                      refine D.exi (fun o1 => ?_)
                      refine D.exi (fun i1A => ?_)
                      refine D.exi (fun i1c => ?_)
                      refine D.exi (fun i1 => ?_)
                      refine D.sep ?_
                      refine D.pur1 ?_
                      rintro ⟨rfl, ho1_1⟩
                      refine D.sep ?_
                      refine D.p 24 rfl rfl rfl rfl rfl rfl (Pu.move rfl rfl) ?_
                      refine D.p 25 rfl rfl rfl rfl rfl rfl (Pu.extract rfl rfl rfl) ?_
                      refine D.p 26 rfl rfl rfl rfl rfl rfl (Pu.extract rfl rfl rfl) ?_
                      refine D.eff hwf (e := 28) rfl rfl rfl rfl (Ef.storeAll 2 rfl sz74 rfl rfl rfl rfl (by simp [Value.oneCell']) rfl) rfl rfl rfl ?_
                      rintro _ _ rfl hs
                      refine ⟨fun w hw => hw.sub (Sub.keep 4 rfl (Sub.keep 4 rfl (Sub.keep 4 rfl (Sub.nil _)))), ?_⟩
                      refine D.p 29 rfl rfl rfl rfl rfl rfl (Pu.assign rfl rfl) ?_
                      refine D.done hwf rfl ?_
                      refine X.next ?_
                      refine V.seq ?_
                      refine V.region ?_
                      refine O.p rfl rfl rfl (Pu.move rfl rfl) ?_
                      refine O.nil ?_
                      refine X.next ?_
                      refine V.condD rfl (fun c9 => ?_) (fun c9 => ?_)
                      · skip
                        refine V.map (fun w hw => hw.sub (Sub.cons 2 rfl (fun w F h => by rw [if_pos c9] at h; exact h) (Sub.keep 0 rfl (Sub.keep 0 rfl (Sub.keep 0 rfl (Sub.keep 0 rfl (Sub.keep 0 rfl (Sub.keep 0 rfl (Sub.nil _))))))))) ?_
                        have htq := trQ_four (v := v) e1 e2 e3 e4 (ho1_1 c9)
                        refine V.region ?_
                        refine O.p rfl rfl rfl (Pu.move rfl rfl) ?_
                        refine O.p rfl rfl rfl (Pu.loadAgg rfl ag74 sz74 rfl rfl (Ld.whole 0 rfl)) ?_
                        refine O.e rfl rfl rfl (Ef.build (TrC v) ([(⟨o1A, o1.length, o1c⟩, ⟨i1A, i1.length, i1c⟩)] : List (Sl × Sl)) rfl Try.underlying40 inf74 rfl rfl rfl (by first | decide | (simp; done)) (by kernel_rfl)) ?_
                        rintro _ _ ⟨A3, hA3, rfl, rfl⟩
                        refine O.e rfl rfl rfl (Ef.append (xs := (topT z3)) (ys := ([(⟨o1A, o1.length, o1c⟩, ⟨i1A, i1.length, i1c⟩)] : List (Sl × Sl))) 5 rfl Try.underlying40 inf74 rfl rfl rfl rfl rfl rfl hA3 (Ld.own 0 (by exact rfl)) (by simp only [List.length_append, List.length_cons, List.length_nil] at *; omega) (by decide)) ?_
                        rintro _ _ ⟨A4, k1, rfl, rfl, hA4⟩
                        replace hA4 := hA4 (.inr (by simp))
                        refine O.p rfl rfl rfl (Pu.assign rfl rfl) ?_
                        refine O.nil ?_
                        refine X.blockNormal ?_
                        refine X.next ?_
                        refine V.region ?_
                        refine O.p rfl rfl rfl (Pu.move rfl rfl) ?_
                        refine O.p rfl rfl rfl (Pu.add64 (r := ((m + 1 : Nat) : Int)) rfl (by omega) rfl rfl rfl) ?_
                        refine O.p rfl rfl rfl (Pu.assign rfl rfl) ?_
                        refine O.nil ?_
                        refine X.map (fun w hw => trs_snoc (ts := z3) (hw.sub (Sub.keep 5 rfl (Sub.keep 5 rfl (Sub.keep 2 rfl (Sub.keep 2 rfl (Sub.keep 0 rfl (Sub.keep 0 rfl (Sub.keep 0 rfl (Sub.keep 0 rfl (Sub.nil _))))))))))) ?_
                        exact X.back3 (A4, k1, (z3 ++ [((⟨o1A, o1.length, o1c⟩, o1), (⟨i1A, i1.length, i1c⟩, i1))]), m + 1) (by (try dsimp only); exact ⟨by omega, by omega, ⟨ls3 ++ [[(i : Int), (j : Int), (k : Int), (m : Int)]], by rw [contT_append, q3, List.append_assoc, List.map_append]; refine congrArg _ (congrArg _ ?_); show [(o1, i1)] = [trQ v bs _]; rw [htq], pas_yes hij hjk hkm (by omega) ((pasB_four (hg _ (List.getElem_mem _)) (hg _ (List.getElem_mem _)) (hg _ (List.getElem_mem _)) (hg _ (List.getElem_mem _))).1 c9) g3⟩, by simp only [List.length_append, List.length_singleton]; omega⟩) (by first | omega | (dsimp only; omega)) (Ent.cons' rfl (by first | rfl | (simp only [topT_append]; done) | (simp only [topT_append]; rfl)) (Ent.cons rfl (Ent.nil _))) (Ent.cons (t := 1) rfl (Ent.cons (t := 5) rfl (Ent.cons (t := 6) rfl (Ent.cons (t := 7) rfl (Ent.cons (t := 8) rfl (Ent.nil _)))))) (Sub.keep 0 rfl (Sub.keep 0 rfl (Sub.keep 3 rfl (Sub.nil _))))
                      · skip
                        refine V.skip ?_
                        refine X.blockNormal ?_
                        refine X.next ?_
                        refine V.region ?_
                        refine O.p rfl rfl rfl (Pu.move rfl rfl) ?_
                        refine O.p rfl rfl rfl (Pu.add64 (r := ((m + 1 : Nat) : Int)) rfl (by omega) rfl rfl rfl) ?_
                        refine O.p rfl rfl rfl (Pu.assign rfl rfl) ?_
                        refine O.nil ?_
                        exact X.back3 (z3A, z3c, z3, m + 1) (by (try dsimp only); exact ⟨by omega, by omega, ⟨ls3, q3, pas_no hij hjk hkm (by omega) (fun h => c9 ((pasB_four (hg _ (List.getElem_mem _)) (hg _ (List.getElem_mem _)) (hg _ (List.getElem_mem _)) (hg _ (List.getElem_mem _))).2 h)) g3⟩, by omega⟩) (by first | omega | (dsimp only; omega)) (Ent.cons' rfl (by first | rfl | (simp only [topT_append]; done) | (simp only [topT_append]; rfl)) (Ent.cons rfl (Ent.nil _))) (Ent.cons (t := 1) rfl (Ent.cons (t := 5) rfl (Ent.cons (t := 6) rfl (Ent.cons (t := 7) rfl (Ent.cons (t := 8) rfl (Ent.nil _)))))) (Sub.keep 4 rfl (Sub.keep 4 rfl (Sub.keep 4 rfl (Sub.nil _))))
                  · skip
                    refine ⟨_, _, rfl, rfl, fun _ _ => wanted_none rfl _, Ef.alloc rfl zr74 rfl, rfl, rfl, ?_⟩
                    rintro _ _ ⟨b2, rfl, rfl⟩ hs
                    refine ⟨fun w hw => hw.sub (Sub.keep 1 rfl (Sub.keep 1 rfl (Sub.keep 1 rfl (Sub.nil _)))), ?_⟩
                    refine D.eff hwf (e := 22) rfl rfl rfl rfl (Ef.build B3C ([(bs[i]'e1), (bs[j]'e2), (bs[k]'e3), (bs[m]'e4)] : List B3) rfl Try.underlying28 inf67 rfl rfl rfl (by first | decide | (simp; done)) (by kernel_rfl)) rfl rfl rfl ?_
                    rintro _ _ ⟨A2, hA2, rfl, rfl⟩ hs
                    refine ⟨fun w hw => hw.sub (Sub.keep 2 rfl (Sub.keep 2 rfl (Sub.keep 2 rfl (Sub.nil _)))), ?_⟩
                    refine D.eff hwf (e := 23) rfl rfl rfl rfl (Ef.call1 call43 rfl rfl (fun w hw => l04Four_ok  v ([(bs[i]'e1), (bs[j]'e2), (bs[k]'e3), (bs[m]'e4)] : List B3) _ _ w ((Ld.own 0 (by exact rfl)) w hw) (by simp only [List.length_cons, List.length_nil]; decide) ⟨by omega, by omega⟩ rfl (fun b hb => by simp only [List.mem_cons, List.not_mem_nil, or_false] at hb; rcases hb with rfl | rfl | rfl | rfl <;> exact hgv _ (List.getElem_mem _)) (four_lt (v := v) (sts_lt hS) hij hjk hkm e4))) rfl rfl rfl ?_
                    rintro _ _ rfl hs
                    refine ⟨fun w hw => hs w hw.tail, ?_⟩
                    refine D.exi (fun o1A => ?_)
                    refine D.exi (fun o1c => ?_)
                    refine D.exi (fun o1 => ?_)
                    refine D.exi (fun i1A => ?_)
                    refine D.exi (fun i1c => ?_)
                    refine D.exi (fun i1 => ?_)
                    refine D.sep ?_
                    refine D.pur1 ?_
                    rintro ⟨rfl, ho1_1⟩
                    refine D.sep ?_
                    refine D.p 24 rfl rfl rfl rfl rfl rfl (Pu.move rfl rfl) ?_
                    refine D.p 25 rfl rfl rfl rfl rfl rfl (Pu.extract rfl rfl rfl) ?_
                    refine D.p 26 rfl rfl rfl rfl rfl rfl (Pu.extract rfl rfl rfl) ?_
                    refine D.eff hwf (e := 28) rfl rfl rfl rfl (Ef.storeAll 3 rfl sz74 rfl rfl rfl rfl (by simp [Value.oneCell']) rfl) rfl rfl rfl ?_
                    rintro _ _ rfl hs
                    refine ⟨fun w hw => hw.sub (Sub.keep 4 rfl (Sub.keep 4 rfl (Sub.keep 4 rfl (Sub.nil _)))), ?_⟩
                    refine D.p 29 rfl rfl rfl rfl rfl rfl (Pu.assign rfl rfl) ?_
                    refine D.done hwf rfl ?_
                    refine X.next ?_
                    refine V.seq ?_
                    refine V.region ?_
                    refine O.p rfl rfl rfl (Pu.move rfl rfl) ?_
                    refine O.nil ?_
                    refine X.next ?_
                    refine V.condD rfl (fun c9 => ?_) (fun c9 => ?_)
                    · skip
                      refine V.map (fun w hw => hw.sub (Sub.cons 3 rfl (fun w F h => by rw [if_pos c9] at h; exact h) (Sub.keep 0 rfl (Sub.keep 0 rfl (Sub.keep 0 rfl (Sub.keep 0 rfl (Sub.keep 0 rfl (Sub.keep 0 rfl (Sub.nil _))))))))) ?_
                      have htq := trQ_four (v := v) e1 e2 e3 e4 (ho1_1 c9)
                      refine V.region ?_
                      refine O.p rfl rfl rfl (Pu.move rfl rfl) ?_
                      refine O.p rfl rfl rfl (Pu.loadAgg rfl ag74 sz74 rfl rfl (Ld.whole 0 rfl)) ?_
                      refine O.e rfl rfl rfl (Ef.build (TrC v) ([(⟨o1A, o1.length, o1c⟩, ⟨i1A, i1.length, i1c⟩)] : List (Sl × Sl)) rfl Try.underlying40 inf74 rfl rfl rfl (by first | decide | (simp; done)) (by kernel_rfl)) ?_
                      rintro _ _ ⟨A3, hA3, rfl, rfl⟩
                      refine O.e rfl rfl rfl (Ef.append (xs := (topT z3)) (ys := ([(⟨o1A, o1.length, o1c⟩, ⟨i1A, i1.length, i1c⟩)] : List (Sl × Sl))) 5 rfl Try.underlying40 inf74 rfl rfl rfl rfl rfl rfl hA3 (Ld.own 0 (by exact rfl)) (by simp only [List.length_append, List.length_cons, List.length_nil] at *; omega) (by decide)) ?_
                      rintro _ _ ⟨A4, k1, rfl, rfl, hA4⟩
                      replace hA4 := hA4 (.inr (by simp))
                      refine O.p rfl rfl rfl (Pu.assign rfl rfl) ?_
                      refine O.nil ?_
                      refine X.blockNormal ?_
                      refine X.next ?_
                      refine V.region ?_
                      refine O.p rfl rfl rfl (Pu.move rfl rfl) ?_
                      refine O.p rfl rfl rfl (Pu.add64 (r := ((m + 1 : Nat) : Int)) rfl (by omega) rfl rfl rfl) ?_
                      refine O.p rfl rfl rfl (Pu.assign rfl rfl) ?_
                      refine O.nil ?_
                      refine X.map (fun w hw => trs_snoc (ts := z3) (hw.sub (Sub.keep 5 rfl (Sub.keep 5 rfl (Sub.keep 2 rfl (Sub.keep 2 rfl (Sub.keep 0 rfl (Sub.keep 0 rfl (Sub.keep 0 rfl (Sub.keep 0 rfl (Sub.nil _))))))))))) ?_
                      exact X.back3 (A4, k1, (z3 ++ [((⟨o1A, o1.length, o1c⟩, o1), (⟨i1A, i1.length, i1c⟩, i1))]), m + 1) (by (try dsimp only); exact ⟨by omega, by omega, ⟨ls3 ++ [[(i : Int), (j : Int), (k : Int), (m : Int)]], by rw [contT_append, q3, List.append_assoc, List.map_append]; refine congrArg _ (congrArg _ ?_); show [(o1, i1)] = [trQ v bs _]; rw [htq], pas_yes hij hjk hkm (by omega) ((pasB_four (hg _ (List.getElem_mem _)) (hg _ (List.getElem_mem _)) (hg _ (List.getElem_mem _)) (hg _ (List.getElem_mem _))).1 c9) g3⟩, by simp only [List.length_append, List.length_singleton]; omega⟩) (by first | omega | (dsimp only; omega)) (Ent.cons' rfl (by first | rfl | (simp only [topT_append]; done) | (simp only [topT_append]; rfl)) (Ent.cons rfl (Ent.nil _))) (Ent.cons (t := 1) rfl (Ent.cons (t := 5) rfl (Ent.cons (t := 6) rfl (Ent.cons (t := 7) rfl (Ent.cons (t := 8) rfl (Ent.nil _)))))) (Sub.keep 0 rfl (Sub.keep 0 rfl (Sub.keep 3 rfl (Sub.nil _))))
                    · skip
                      refine V.skip ?_
                      refine X.blockNormal ?_
                      refine X.next ?_
                      refine V.region ?_
                      refine O.p rfl rfl rfl (Pu.move rfl rfl) ?_
                      refine O.p rfl rfl rfl (Pu.add64 (r := ((m + 1 : Nat) : Int)) rfl (by omega) rfl rfl rfl) ?_
                      refine O.p rfl rfl rfl (Pu.assign rfl rfl) ?_
                      refine O.nil ?_
                      exact X.back3 (z3A, z3c, z3, m + 1) (by (try dsimp only); exact ⟨by omega, by omega, ⟨ls3, q3, pas_no hij hjk hkm (by omega) (fun h => c9 ((pasB_four (hg _ (List.getElem_mem _)) (hg _ (List.getElem_mem _)) (hg _ (List.getElem_mem _)) (hg _ (List.getElem_mem _))).2 h)) g3⟩, by omega⟩) (by first | omega | (dsimp only; omega)) (Ent.cons' rfl (by first | rfl | (simp only [topT_append]; done) | (simp only [topT_append]; rfl)) (Ent.cons rfl (Ent.nil _))) (Ent.cons (t := 1) rfl (Ent.cons (t := 5) rfl (Ent.cons (t := 6) rfl (Ent.cons (t := 7) rfl (Ent.cons (t := 8) rfl (Ent.nil _)))))) (Sub.keep 4 rfl (Sub.keep 4 rfl (Sub.keep 4 rfl (Sub.nil _))))
                · skip
                  refine V.exit ?_
                  refine X.thenExit ?_
                  refine X.thenExit ?_
                  refine X.blockHit ?_
                  refine X.blockNormal ?_
                  refine X.next ?_
                  refine V.region ?_
                  refine O.p rfl rfl rfl (Pu.move rfl rfl) ?_
                  refine O.p rfl rfl rfl (Pu.add64 (r := ((k + 1 : Nat) : Int)) rfl (by omega) rfl rfl rfl) ?_
                  refine O.p rfl rfl rfl (Pu.assign rfl rfl) ?_
                  refine O.nil ?_
                  exact X.back3 (z3A, z3c, z3, k + 1) (by (try dsimp only); exact ⟨by omega, by omega, ⟨ls2 ++ ls3, by rw [q3, q2, List.append_assoc, List.map_append], preB_step g2 (pas3_all (by omega) g3)⟩, by omega⟩) (by first | omega | (dsimp only; omega)) (Ent.cons' rfl (by first | rfl | (simp only [topT_append]; done) | (simp only [topT_append]; rfl)) (Ent.cons rfl (Ent.nil _))) (Ent.cons (t := 1) rfl (Ent.cons (t := 5) rfl (Ent.cons (t := 6) rfl (Ent.cons (t := 7) rfl (Ent.nil _))))) (Sub.keep 0 rfl (Sub.keep 0 rfl (Sub.keep 0 rfl (Sub.nil _))))
          · skip
            refine V.exit ?_
            refine X.thenExit ?_
            refine X.thenExit ?_
            refine X.blockHit ?_
            refine X.blockNormal ?_
            refine X.next ?_
            refine V.region ?_
            refine O.p rfl rfl rfl (Pu.move rfl rfl) ?_
            refine O.p rfl rfl rfl (Pu.add64 (r := ((j + 1 : Nat) : Int)) rfl (by omega) rfl rfl rfl) ?_
            refine O.p rfl rfl rfl (Pu.assign rfl rfl) ?_
            refine O.nil ?_
            exact X.back3 (z2A, z2c, z2, j + 1) (by (try dsimp only); exact ⟨by omega, by omega, ⟨ls1 ++ ls2, by rw [q2, q1, List.append_assoc, List.map_append], preB_step g1 (pas2_all (by omega) g2)⟩, by omega⟩) (by first | omega | (dsimp only; omega)) (Ent.cons' rfl (by first | rfl | (simp only [topT_append]; done) | (simp only [topT_append]; rfl)) (Ent.cons rfl (Ent.nil _))) (Ent.cons (t := 1) rfl (Ent.cons (t := 5) rfl (Ent.cons (t := 6) rfl (Ent.nil _)))) (Sub.keep 0 rfl (Sub.keep 0 rfl (Sub.keep 0 rfl (Sub.nil _))))
      · skip
        refine V.exit ?_
        refine X.thenExit ?_
        refine X.thenExit ?_
        refine X.blockHit ?_
        refine X.blockNormal ?_
        refine X.next ?_
        refine V.region ?_
        refine O.p rfl rfl rfl (Pu.move rfl rfl) ?_
        refine O.p rfl rfl rfl (Pu.add64 (r := ((i + 1 : Nat) : Int)) rfl (by omega) rfl rfl rfl) ?_
        refine O.p rfl rfl rfl (Pu.assign rfl rfl) ?_
        refine O.nil ?_
        exact X.back3 (z1A, z1c, z1, i + 1) (by (try dsimp only); exact ⟨by omega, ⟨ls0 ++ ls1, preB_step g0 (pas1_all (by omega) g1), by rw [q1, q0, List.map_append]⟩, by omega⟩) (by first | omega | (dsimp only; omega)) (Ent.cons' rfl (by first | rfl | (simp only [topT_append]; done) | (simp only [topT_append]; rfl)) (Ent.cons rfl (Ent.nil _))) (Ent.cons (t := 1) rfl (Ent.cons (t := 5) rfl (Ent.nil _))) (Sub.keep 0 rfl (Sub.keep 0 rfl (Sub.keep 0 rfl (Sub.nil _))))
    · skip
      refine V.exit ?_
      refine X.thenExit ?_
      refine X.thenExit ?_
      refine X.blockHit ?_
      refine X.next ?_
      refine V.seq ?_
      refine V.region ?_
      refine O.p rfl rfl rfl (Pu.move rfl rfl) ?_
      refine O.p rfl rfl rfl (Pu.assign rfl rfl) ?_
      refine O.p rfl rfl rfl (Pu.assign rfl rfl) ?_
      refine O.nil ?_
      refine X.next ?_
      refine V.ret ?_
      refine X.ret2 rfl rfl rfl ?_
      exact fun w hw => St.mkExi z0A (St.mkExi z0c (St.mkExi z0 (St.unsep (St.addPur ⟨(by rw [if_pos c1]), ⟨fun _ => ⟨ls0, pas0_all (by omega) g0, q0⟩, fun h => absurd c1 h⟩, by omega⟩ (St.unsep (hw.sub (Sub.keep 0 rfl (Sub.keep 0 rfl (Sub.nil _)))))))))
set_option maxRecDepth 100000 in
theorem eqTradeS_ok (v1 v2 : Int) (ts us : TrL) (A A2 : Option Addr) (c c2 : Nat) (w : World) (ht : RdT v1 w A ts) (hu : RdT v2 w A2 us) (hv : v1 = v2) (hsa : ∀ k (h : k < ts.length), (ts[k]).1.2.length ≤ 1000 ∧ (ts[k]).2.2.length ≤ 1000) (hsb : ∀ k (h : k < us.length), (us[k]).1.2.length ≤ 1000 ∧ (us[k]).2.2.length ≤ 1000) (lt : ts.length ≤ 1000000000) (lu : us.length ≤ 1000000000) : Does Try.prog 20 [.slice A (topT ts).length c, .slice A2 (topT us).length c2] w [] (fun rv => [.pur (rv = .bool (decide (contT ts = contT us)))]) := by
  refine Does.enter Try.func20 rfl rfl [(0, .slice A (topT ts).length c), (1, .slice A2 (topT us).length c2)] rfl ?_
  refine V.seq ?_
  have hta := topT_len ts
  have htb := topT_len us
  have hca := contT_len ts
  have hcb := contT_len us
  refine V.region ?_
  refine O.p rfl rfl rfl (Pu.assign rfl rfl) ?_
  refine O.nil ?_
  refine X.next ?_
  refine V.seq ?_
  refine V.seq ?_
  refine V.region ?_
  refine O.p rfl rfl rfl (Pu.move rfl rfl) ?_
  refine O.p rfl rfl rfl (Pu.len rfl Try.underlying40 rfl) ?_
  refine O.p rfl rfl rfl (Pu.move rfl rfl) ?_
  refine O.p rfl rfl rfl (Pu.len rfl Try.underlying40 rfl) ?_
  refine O.p rfl rfl rfl (Pu.neq rfl rfl rfl) ?_
  refine O.nil ?_
  refine X.next ?_
  refine V.condNot rfl (fun c1 => ?_) (fun c1 => ?_)
  · skip
    refine V.seq ?_
    refine V.region ?_
    refine O.p rfl rfl rfl (Pu.assign rfl rfl) ?_
    refine O.nil ?_
    refine X.next ?_
    refine V.ret ?_
    refine X.thenRet ?_
    refine X.ret1 rfl rfl ?_
    exact fun w hw => St.retP (boolF (fun h => c1 (by have := congrArg List.length h; omega))) hw
  · skip
    refine V.skip ?_
    refine X.next ?_
    refine V.seq ?_
    refine V.seq ?_
    refine V.region ?_
    refine O.p rfl rfl rfl (Pu.assign rfl rfl) ?_
    refine O.nil ?_
    refine X.next ?_
    refine V.block ?_
    refine V.loop2 (β := Nat) (fun k => [(5, .int .i64 (k : Int))]) _ (fun k => []) (fun k => k ≤ ts.length ∧ ∀ j (h1 : j < ts.length) (h2 : j < us.length), j < k → (ts[j]).1.2 = (us[j]).1.2 ∧ (ts[j]).2.2 = (us[j]).2.2) (fun k => ts.length - k) 0 ⟨by omega, fun j _ _ h => by omega⟩ (Ent.cons rfl (Ent.nil _)) (Ent.cons (t := 0) rfl (Ent.cons (t := 1) rfl (Ent.nil _))) (Sub.nil _) ?_
    rintro k ⟨hk, he⟩
    refine V.seq ?_
    refine V.seq ?_
    refine V.region ?_
    refine O.p rfl rfl rfl (Pu.move rfl rfl) ?_
    refine O.p rfl rfl rfl (Pu.move rfl rfl) ?_
    refine O.p rfl rfl rfl (Pu.len rfl Try.underlying40 rfl) ?_
    refine O.p rfl rfl rfl (Pu.lss rfl rfl rfl) ?_
    refine O.nil ?_
    refine X.next ?_
    refine V.condD rfl (fun c2 => ?_) (fun c2 => ?_)
    · skip
      refine V.skip ?_
      refine X.next ?_
      refine V.seq ?_
      refine V.block ?_
      refine V.seq ?_
      have e1 : k < ts.length := by omega
      have e2 : k < us.length := by omega
      have hs1 := hsa k e1
      have hs2 := hsb k e2
      refine V.draw mo (by kernel_rfl) (fun hwf => ?_)
      refine D.p 0 rfl rfl rfl rfl rfl rfl (Pu.move rfl rfl) ?_
      refine D.p 1 rfl rfl rfl rfl rfl rfl (Pu.move rfl rfl) ?_
      refine D.p 2 rfl rfl rfl rfl rfl rfl (Pu.indexAddrS (k) rfl Try.underlying40 sz74 rfl rfl (by omega) (by omega) (fun w hw => ((Ld.old ht.top) w hw).some (by omega))) ?_
      refine D.p 3 rfl rfl rfl rfl rfl rfl (Pu.loadAgg' (v := .agg #[.int .i64 v1, .slice (ts[k]'e1).1.1.A (ts[k]'e1).1.2.length (ts[k]'e1).1.1.c, .slice (ts[k]'e1).2.1.A (ts[k]'e1).2.2.length (ts[k]'e1).2.1.c]) rfl rfl ag74 sz74 rfl rfl (Ld.rowT (fun w hw => ht.below hw.below) e1 rfl)) ?_
      refine D.p 4 rfl rfl rfl rfl rfl rfl (Pu.move rfl rfl) ?_
      refine D.p 5 rfl rfl rfl rfl rfl rfl (Pu.move rfl rfl) ?_
      refine D.p 6 rfl rfl rfl rfl rfl rfl (Pu.indexAddrS (k) rfl Try.underlying40 sz74 rfl rfl (by omega) (by omega) (fun w hw => ((Ld.old hu.top) w hw).some (by omega))) ?_
      refine D.p 7 rfl rfl rfl rfl rfl rfl (Pu.loadAgg' (v := .agg #[.int .i64 v2, .slice (us[k]'e2).1.1.A (us[k]'e2).1.2.length (us[k]'e2).1.1.c, .slice (us[k]'e2).2.1.A (us[k]'e2).2.2.length (us[k]'e2).2.1.c]) rfl rfl ag74 sz74 rfl rfl (Ld.rowT (fun w hw => hu.below hw.below) e2 rfl)) ?_
      refine D.eff hwf (e := 8) rfl rfl rfl rfl (Ef.callP call46 rfl rfl (fun w hw => eqTrade_ok _ _ (ts[k]'e1).1.2 (ts[k]'e1).2.2 (us[k]'e2).1.2 (us[k]'e2).2.2 _ _ _ _ _ _ _ _ w ((Ld.old (ht.ro k e1)) w hw) ((Ld.old (ht.ri k e1)) w hw) ((Ld.old (hu.ro k e2)) w hw) ((Ld.old (hu.ri k e2)) w hw) (by omega) (by omega) (by omega) (by omega))) rfl rfl rfl ?_
      rintro _ _ ⟨rfl, rfl⟩ hs
      refine ⟨fun w hw => hw, ?_⟩
      refine D.p 9 rfl rfl rfl rfl rfl rfl (Pu.not rfl rfl) ?_
      refine D.done hwf rfl ?_
      refine X.next ?_
      refine V.condNot rfl (fun c3 => ?_) (fun c3 => ?_)
      · skip
        refine V.seq ?_
        refine V.region ?_
        refine O.p rfl rfl rfl (Pu.assign rfl rfl) ?_
        refine O.nil ?_
        refine X.next ?_
        refine V.ret ?_
        refine X.blockRet ?_
        refine X.thenRet ?_
        refine X.thenRet ?_
        refine X.blockRet ?_
        refine X.thenRet ?_
        refine X.ret1 rfl rfl ?_
        exact fun w hw => St.retP (boolF (fun h => c3 ⟨hv, contT_at h e1 e2⟩)) hw
      · skip
        refine V.skip ?_
        refine X.blockNormal ?_
        refine X.next ?_
        refine V.region ?_
        refine O.p rfl rfl rfl (Pu.move rfl rfl) ?_
        refine O.p rfl rfl rfl (Pu.add64 (r := ((k + 1 : Nat) : Int)) rfl (by omega) rfl rfl rfl) ?_
        refine O.p rfl rfl rfl (Pu.assign rfl rfl) ?_
        refine O.nil ?_
        exact X.back2 (k + 1) ⟨by omega, fun j h1 h2 hj => by by_cases e : j = k; (· subst e; exact c3.2); (· exact he j h1 h2 (by omega))⟩ (by omega) (Ent.cons rfl (Ent.nil _)) (Ent.cons (t := 0) rfl (Ent.cons (t := 1) rfl (Ent.nil _))) (Sub.nil _)
    · skip
      refine V.exit ?_
      refine X.thenExit ?_
      refine X.thenExit ?_
      refine X.blockHit ?_
      refine X.next ?_
      refine V.seq ?_
      refine V.region ?_
      refine O.p rfl rfl rfl (Pu.assign rfl rfl) ?_
      refine O.nil ?_
      refine X.next ?_
      refine V.ret ?_
      refine X.ret1 rfl rfl ?_
      exact fun w hw => St.retP (boolT (contT_ext (by omega) (fun j h1 h2 => he j h1 h2 (by omega)))) hw
set_option maxRecDepth 100000 in
theorem markTradeS_ok (p : Int) (ts : TrL) (m : Int) (A : Option Addr) (c : Nat) (w0 : World) (H : List Assn) (hlo : ∀ k (hk : k < ts.length), (ts[k]).1.1.n = (ts[k]).1.2.length) (hli : ∀ k (hk : k < ts.length), (ts[k]).2.1.n = (ts[k]).2.2.length) (hm : 0 ≤ m ∧ m + sumT ts ≤ 1000000000000) (lp : ts.length ≤ 4611686018427387904) : Does Try.prog 21 [.slice A (topT ts).length c, .int .i64 m] w0 (Own 74 (TrC p) A c (topT ts) :: RowsA 67 B3C (outT ts) :: RowsA 67 B3C (innT ts) :: H) (fun v => .pur (v = .int .i64 (m + sumT ts)) :: Own 74 TrP A c (mkTT m ts) :: RowsA 67 B3C (mkTO m ts) :: RowsA 67 B3C (mkTN m ts) :: H) := by
  refine Does.enter Try.func21 rfl rfl [(0, .slice A (topT ts).length c), (1, .int .i64 m)] rfl ?_
  refine V.seq ?_
  have htl := topT_len ts
  refine V.region ?_
  refine O.p rfl rfl rfl (Pu.assign rfl rfl) ?_
  refine O.nil ?_
  refine X.next ?_
  refine V.seq ?_
  refine V.seq ?_
  refine V.region ?_
  refine O.p rfl rfl rfl (Pu.assign rfl rfl) ?_
  refine O.nil ?_
  refine X.next ?_
  refine V.block ?_
  refine V.loop3 (β := Nat) (fun k => [(5, .int .i64 (k : Int)), (1, .int .i64 (m + (sumT (ts.take k) : Int)))]) _ (fun k => [Own 74 TrP A c (tT p m ts k), RowsA 67 B3C (mkTO m (ts.take k) ++ (outT ts).drop k), RowsA 67 B3C (mkTN m (ts.take k) ++ (innT ts).drop k)]) _ (fun k => k ≤ (topT ts).length) (fun k => (topT ts).length - k) 0 (by omega) (Ent.cons rfl (Ent.cons' rfl (iv (by simp [sumT])) (Ent.nil _))) (Ent.cons (t := 0) rfl (Ent.cons (t := 4) rfl (Ent.nil _))) (Sub.cons 0 rfl Own.toTP (Sub.keep 0 rfl (Sub.keep 0 rfl (Sub.refl _)))) ?_
  rintro k hk
  refine V.seq ?_
  refine V.seq ?_
  refine V.region ?_
  refine O.p rfl rfl rfl (Pu.move rfl rfl) ?_
  refine O.p rfl rfl rfl (Pu.move rfl rfl) ?_
  refine O.p rfl rfl rfl (Pu.len rfl Try.underlying40 rfl) ?_
  refine O.p rfl rfl rfl (Pu.lss rfl rfl rfl) ?_
  refine O.nil ?_
  refine X.next ?_
  refine V.condD rfl (fun c1 => ?_) (fun c1 => ?_)
  · skip
    refine V.skip ?_
    refine X.next ?_
    refine V.seq ?_
    refine V.block ?_
    refine V.seq ?_
    have e1 : k < ts.length := by omega
    have hst := sumT_take e1
    have hsl := sumT_le (ts := ts) (k := k + 1)
    have htS := tT_len (v := p) (m := m) (ts := ts) (k := k) (by omega)
    have htS2 := tT_len (v := p) (m := m) (ts := ts) (k := k + 1) (by omega)
    have hlo1 := hlo k e1
    have hli1 := hli k e1
    refine V.region ?_
    refine O.p rfl rfl rfl (Pu.move rfl rfl) ?_
    refine O.p rfl rfl rfl (Pu.move rfl rfl) ?_
    refine O.p rfl rfl rfl (Pu.move rfl rfl) ?_
    refine O.p rfl rfl rfl (Pu.indexAddrS (k) rfl Try.underlying40 sz74 rfl rfl (by omega) (by omega) (fun w hw => Own.some hw (i := 0) (by exact rfl) (by omega))) ?_
    refine O.p rfl rfl rfl (Pu.fieldAddr' rfl Try.underlying74 rfl sz2 rfl rfl (fun w hw => by have := Rd.some ((Ld.own 0 (by exact rfl)) w hw) (by omega); simpa using this)) ?_
    refine O.s rfl rfl (Ef.storeOwnAt (C := TrP) 0 k 0 ((m + (sumT (ts.take k) : Int), (ts[k]'e1).1.1, (ts[k]'e1).2.1) : Int × Sl × Sl) rfl sz2 rfl rfl rfl rfl (by rw [tT_len (by omega)]; exact e1) (by decide) rfl rfl (by rw [tT_at e1]; rfl)) ?_
    rintro _ _ rfl
    refine O.nil ?_
    refine X.next ?_
    refine V.seq ?_
    refine V.map (fun w hw => hw.sub (Sub.cons 0 rfl (fun w F h => by rw [tT_set e1] at h; exact h) (Sub.keep 0 rfl (Sub.keep 0 rfl (Sub.refl _))))) ?_
    refine V.map (fun w hw => trow_out e1 (hw.sub (Sub.keep 1 rfl (Sub.keep 0 rfl (Sub.keep 0 rfl (Sub.refl _)))))) ?_
    refine V.map (fun w hw => trow_in e1 (hw.sub (Sub.keep 3 rfl (Sub.keep 0 rfl (Sub.keep 0 rfl (Sub.keep 0 rfl (Sub.refl _))))))) ?_
    refine V.region ?_
    refine O.p rfl rfl rfl (Pu.move rfl rfl) ?_
    refine O.p rfl rfl rfl (Pu.add64 rfl (by omega) rfl rfl rfl) ?_
    refine O.p rfl rfl rfl (Pu.assign rfl rfl) ?_
    refine O.nil ?_
    refine X.next ?_
    refine V.seq ?_
    refine V.region ?_
    refine O.p rfl rfl rfl (Pu.move rfl rfl) ?_
    refine O.p rfl rfl rfl (Pu.move rfl rfl) ?_
    refine O.p rfl rfl rfl (Pu.indexAddrS (k) rfl Try.underlying40 sz74 rfl rfl (by omega) (by omega) (fun w hw => Own.some hw (i := 4) (by exact rfl) (by omega))) ?_
    refine O.p rfl rfl rfl (Pu.fieldAddr' rfl Try.underlying74 rfl sz28 rfl rfl (fun w hw => by have := Rd.some ((Ld.own 4 (by exact rfl)) w hw) (by omega); simpa using this)) ?_
    refine O.p rfl rfl rfl (Pu.load rfl pl28 rfl (Ld.partTP (u := .slice (ts[k]'e1).1.1.A (ts[k]'e1).1.2.length (ts[k]'e1).1.1.c) (k := k) (j := 1) (Ld.own 4 (by exact rfl)) (by rw [tT_len (by omega)]; exact e1) rfl (by rw [tT_last e1]; show some (Sl.v _) = _; unfold Sl.v; rw [hlo1]))) ?_
    refine O.p rfl rfl rfl (Pu.move rfl rfl) ?_
    refine O.e rfl rfl rfl (Ef.callM 2 call39 rfl rfl rfl (fun H _ => markBlockX_ok _ _ _ _ _ H (by omega) (by omega))) ?_
    rintro _ _ ⟨rfl, rfl⟩
    refine O.p rfl rfl rfl (Pu.assign rfl rfl) ?_
    refine O.nil ?_
    refine X.next ?_
    refine V.region ?_
    refine O.p rfl rfl rfl (Pu.move rfl rfl) ?_
    refine O.p rfl rfl rfl (Pu.move rfl rfl) ?_
    refine O.p rfl rfl rfl (Pu.indexAddrS (k) rfl Try.underlying40 sz74 rfl rfl (by omega) (by omega) (fun w hw => Own.some hw (i := 4) (by exact rfl) (by omega))) ?_
    refine O.p rfl rfl rfl (Pu.fieldAddr' rfl Try.underlying74 rfl sz28 rfl rfl (fun w hw => by have := Rd.some ((Ld.own 4 (by exact rfl)) w hw) (by omega); simpa using this)) ?_
    refine O.p rfl rfl rfl (Pu.load rfl pl28 rfl (Ld.partTP (u := .slice (ts[k]'e1).2.1.A (ts[k]'e1).2.2.length (ts[k]'e1).2.1.c) (k := k) (j := 2) (Ld.own 4 (by exact rfl)) (by rw [tT_len (by omega)]; exact e1) rfl (by rw [tT_last e1]; show some (Sl.v _) = _; unfold Sl.v; rw [hli1]))) ?_
    refine O.p rfl rfl rfl (Pu.move rfl rfl) ?_
    refine O.e rfl rfl rfl (Ef.callM 0 call39 rfl rfl rfl (fun H _ => markBlockX_ok _ _ _ _ _ H (by omega) (by omega))) ?_
    rintro _ _ ⟨rfl, rfl⟩
    refine O.p rfl rfl rfl (Pu.assign rfl rfl) ?_
    refine O.nil ?_
    refine X.blockNormal ?_
    refine X.next ?_
    refine V.region ?_
    refine O.p rfl rfl rfl (Pu.move rfl rfl) ?_
    refine O.p rfl rfl rfl (Pu.add64 (r := ((k + 1 : Nat) : Int)) rfl (by omega) rfl rfl rfl) ?_
    refine O.p rfl rfl rfl (Pu.assign rfl rfl) ?_
    refine O.nil ?_
    refine X.map (fun w hw => row_in (by rw [marksB_len]; exact hlo1) (hw.sub (Sub.keep 2 rfl (Sub.keep 2 rfl (Sub.keep 0 rfl (Sub.keep 0 rfl (Sub.keep 0 rfl (Sub.refl _)))))))) ?_
    refine X.map (fun w hw => row_in (by rw [marksB_len]; exact hli1) (hw.sub (Sub.keep 1 rfl (Sub.keep 1 rfl (Sub.keep 0 rfl (Sub.keep 0 rfl (Sub.refl _))))))) ?_
    exact X.back3 (k + 1) (by omega) (by omega) (Ent.cons rfl (Ent.cons' rfl (iv (by rw [hst]; push_cast; omega)) (Ent.nil _))) (Ent.cons (t := 0) rfl (Ent.cons (t := 4) rfl (Ent.nil _))) (Sub.keep 2 rfl (Sub.cons 1 rfl (fun w F h => by rw [mkTO_take e1]; exact h) (Sub.cons 0 rfl (fun w F h => by rw [mkTN_take e1]; exact h) (Sub.refl _))))
  · skip
    refine V.exit ?_
    refine X.thenExit ?_
    refine X.thenExit ?_
    refine X.blockHit ?_
    refine X.next ?_
    refine V.seq ?_
    refine V.region ?_
    refine O.p rfl rfl rfl (Pu.move rfl rfl) ?_
    refine O.p rfl rfl rfl (Pu.assign rfl rfl) ?_
    refine O.nil ?_
    refine X.next ?_
    refine V.ret ?_
    refine X.ret1 rfl rfl ?_
    exact fun w hw => by have e : k = ts.length := (by omega); subst e; rw [List.take_length, List.drop_of_length_le (by rw [outT_len]; exact Nat.le_refl _), List.drop_of_length_le (by rw [innT_len]; exact Nat.le_refl _), List.append_nil, List.append_nil, tT_all rfl] at hw; exact St.addPur (iv (by rw [List.take_length])) (hw.sub (Sub.keep 0 rfl (Sub.keep 0 rfl (Sub.keep 0 rfl (Sub.refl _)))))
set_option maxRecDepth 100000 in
theorem heldTradeS_ok (ts : TrL) (m : Int) (A : Option Addr) (c : Nat) (w : World) (hx : RdM m w A ts) (hm : 0 ≤ m ∧ m + sumT ts ≤ 1000000000000) (lp : ts.length ≤ 4611686018427387904) : Does Try.prog 22 [.slice A (topT ts).length c, .int .i64 m] w [] (fun v => [.pur (v = .int .i64 (m + sumT ts))]) := by
  refine Does.enter Try.func22 rfl rfl [(0, .slice A (topT ts).length c), (1, .int .i64 m)] rfl ?_
  refine V.seq ?_
  have htl := topT_len ts
  have hml := mkTT_len ts m
  refine V.region ?_
  refine O.p rfl rfl rfl (Pu.assign rfl rfl) ?_
  refine O.nil ?_
  refine X.next ?_
  refine V.seq ?_
  refine V.seq ?_
  refine V.region ?_
  refine O.p rfl rfl rfl (Pu.assign rfl rfl) ?_
  refine O.nil ?_
  refine X.next ?_
  refine V.block ?_
  refine V.loop2 (β := Nat) (fun k => [(5, .int .i64 (k : Int)), (1, .int .i64 (m + (sumT (ts.take k) : Int)))]) _ (fun k => []) (fun k => k ≤ (topT ts).length) (fun k => (topT ts).length - k) 0 (by omega) (Ent.cons rfl (Ent.cons' rfl (iv (by simp [sumT])) (Ent.nil _))) (Ent.cons (t := 0) rfl (Ent.nil _)) (Sub.nil _) ?_
  rintro k hk
  refine V.seq ?_
  refine V.seq ?_
  refine V.region ?_
  refine O.p rfl rfl rfl (Pu.move rfl rfl) ?_
  refine O.p rfl rfl rfl (Pu.move rfl rfl) ?_
  refine O.p rfl rfl rfl (Pu.len rfl Try.underlying40 rfl) ?_
  refine O.p rfl rfl rfl (Pu.lss rfl rfl rfl) ?_
  refine O.nil ?_
  refine X.next ?_
  refine V.condD rfl (fun c1 => ?_) (fun c1 => ?_)
  · skip
    refine V.skip ?_
    refine X.next ?_
    refine V.seq ?_
    refine V.block ?_
    refine V.seq ?_
    refine V.seq ?_
    have e1 : k < ts.length := by omega
    have hst := sumT_take e1
    have hsl := sumT_le (ts := ts) (k := k + 1)
    refine V.region ?_
    refine O.p rfl rfl rfl (Pu.move rfl rfl) ?_
    refine O.p rfl rfl rfl (Pu.move rfl rfl) ?_
    refine O.p rfl rfl rfl (Pu.indexAddrS (k) rfl Try.underlying40 sz74 rfl rfl (by omega) (by omega) (fun w hw => ((Ld.old hx.top) w hw).some (by omega))) ?_
    refine O.p rfl rfl rfl (Pu.fieldAddr' rfl Try.underlying74 rfl sz2 rfl rfl (fun w hw => by have := Rd.some ((Ld.old hx.top) w hw) (by omega); simpa using this)) ?_
    refine O.p rfl rfl rfl (Pu.load rfl pl2 rfl (Ld.partTP (k := k) (j := 0) (Ld.old hx.top) (by rw [mkTT_len]; exact e1) rfl (by rw [mkTT_get e1]; rfl))) ?_
    refine O.p rfl rfl rfl (Pu.move rfl rfl) ?_
    refine O.p rfl rfl rfl (Pu.neq rfl rfl rfl) ?_
    refine O.nil ?_
    refine X.next ?_
    refine V.condNot rfl (fun c2 => ?_) (fun c2 => ?_)
    · skip
      exact absurd rfl c2
    · skip
      refine V.skip ?_
      refine X.next ?_
      refine V.seq ?_
      refine V.region ?_
      refine O.p rfl rfl rfl (Pu.move rfl rfl) ?_
      refine O.p rfl rfl rfl (Pu.add64 rfl (by omega) rfl rfl rfl) ?_
      refine O.p rfl rfl rfl (Pu.assign rfl rfl) ?_
      refine O.nil ?_
      refine X.next ?_
      refine V.seq ?_
      refine V.region ?_
      refine O.p rfl rfl rfl (Pu.move rfl rfl) ?_
      refine O.p rfl rfl rfl (Pu.move rfl rfl) ?_
      refine O.p rfl rfl rfl (Pu.indexAddrS (k) rfl Try.underlying40 sz74 rfl rfl (by omega) (by omega) (fun w hw => ((Ld.old hx.top) w hw).some (by omega))) ?_
      refine O.p rfl rfl rfl (Pu.fieldAddr' rfl Try.underlying74 rfl sz28 rfl rfl (fun w hw => by have := Rd.some ((Ld.old hx.top) w hw) (by omega); simpa using this)) ?_
      refine O.p rfl rfl rfl (Pu.load rfl pl28 rfl (Ld.partTP (u := .slice (ts[k]'e1).1.1.A (ts[k]'e1).1.2.length (ts[k]'e1).1.1.c) (k := k) (j := 1) (Ld.old hx.top) (by rw [mkTT_len]; exact e1) rfl (by rw [mkTT_get e1]; show some (Sl.v _) = _; unfold Sl.v; rw [hx.lo k e1]))) ?_
      refine O.p rfl rfl rfl (Pu.move rfl rfl) ?_
      refine O.e rfl rfl rfl (Ef.callP call40 rfl rfl (fun w hw => heldBlockX_ok (ts[k]'e1).1.2.length _ _ _ w ((Ld.old (hx.ro k e1)) w hw) (by omega) (by omega))) ?_
      rintro _ _ ⟨rfl, rfl⟩
      refine O.p rfl rfl rfl (Pu.assign rfl rfl) ?_
      refine O.nil ?_
      refine X.next ?_
      refine V.seq ?_
      refine V.seq ?_
      refine V.region ?_
      refine O.p rfl rfl rfl (Pu.move rfl rfl) ?_
      refine O.p rfl rfl rfl (Pu.lss rfl rfl rfl) ?_
      refine O.nil ?_
      refine X.next ?_
      refine V.condD rfl (fun c3 => ?_) (fun c3 => ?_)
      · skip
        exact absurd c3 (by omega)
      · skip
        refine V.skip ?_
        refine X.next ?_
        refine V.seq ?_
        refine V.region ?_
        refine O.p rfl rfl rfl (Pu.move rfl rfl) ?_
        refine O.p rfl rfl rfl (Pu.move rfl rfl) ?_
        refine O.p rfl rfl rfl (Pu.indexAddrS (k) rfl Try.underlying40 sz74 rfl rfl (by omega) (by omega) (fun w hw => ((Ld.old hx.top) w hw).some (by omega))) ?_
        refine O.p rfl rfl rfl (Pu.fieldAddr' rfl Try.underlying74 rfl sz28 rfl rfl (fun w hw => by have := Rd.some ((Ld.old hx.top) w hw) (by omega); simpa using this)) ?_
        refine O.p rfl rfl rfl (Pu.load rfl pl28 rfl (Ld.partTP (u := .slice (ts[k]'e1).2.1.A (ts[k]'e1).2.2.length (ts[k]'e1).2.1.c) (k := k) (j := 2) (Ld.old hx.top) (by rw [mkTT_len]; exact e1) rfl (by rw [mkTT_get e1]; show some (Sl.v _) = _; unfold Sl.v; rw [hx.li k e1]))) ?_
        refine O.p rfl rfl rfl (Pu.move rfl rfl) ?_
        refine O.e rfl rfl rfl (Ef.callP call40 rfl rfl (fun w hw => heldBlockX_ok (ts[k]'e1).2.2.length _ _ _ w ((Ld.old (hx.ri k e1)) w hw) (by omega) (by omega))) ?_
        rintro _ _ ⟨rfl, rfl⟩
        refine O.p rfl rfl rfl (Pu.assign rfl rfl) ?_
        refine O.nil ?_
        refine X.next ?_
        refine V.seq ?_
        refine V.region ?_
        refine O.p rfl rfl rfl (Pu.move rfl rfl) ?_
        refine O.p rfl rfl rfl (Pu.lss rfl rfl rfl) ?_
        refine O.nil ?_
        refine X.next ?_
        refine V.condD rfl (fun c4 => ?_) (fun c4 => ?_)
        · skip
          exact absurd c4 (by omega)
        · skip
          refine V.skip ?_
          refine X.blockNormal ?_
          refine X.next ?_
          refine V.region ?_
          refine O.p rfl rfl rfl (Pu.move rfl rfl) ?_
          refine O.p rfl rfl rfl (Pu.add64 (r := ((k + 1 : Nat) : Int)) rfl (by omega) rfl rfl rfl) ?_
          refine O.p rfl rfl rfl (Pu.assign rfl rfl) ?_
          refine O.nil ?_
          exact X.back2 (k + 1) (by omega) (by omega) (Ent.cons rfl (Ent.cons' rfl (iv (by rw [hst]; push_cast; omega)) (Ent.nil _))) (Ent.cons (t := 0) rfl (Ent.nil _)) (Sub.nil _)
  · skip
    refine V.exit ?_
    refine X.thenExit ?_
    refine X.thenExit ?_
    refine X.blockHit ?_
    refine X.next ?_
    refine V.seq ?_
    refine V.region ?_
    refine O.p rfl rfl rfl (Pu.move rfl rfl) ?_
    refine O.p rfl rfl rfl (Pu.assign rfl rfl) ?_
    refine O.nil ?_
    refine X.next ?_
    refine V.ret ?_
    refine X.ret1 rfl rfl ?_
    exact fun w hw => St.retP (iv (by have e : k = ts.length := (by omega); subst e; rw [List.take_length])) hw
set_option maxRecDepth 100000 in
set_option maxHeartbeats 1000000 in
theorem FnExactPaschTrades_ok (v : Int) (bs : List B3) (A : Option Addr) (c : Nat) (w : World) (hx : Rd B3C w A bs) (lx : bs.length ≤ 9223372036854775807) : Does Try.prog 5 [.agg #[.int .i64 v, .slice A bs.length c]] w [] (fun r => [.pur (r = .bool true)]) := by
  refine Does.enter Try.func5 rfl rfl [(0, .agg #[.int .i64 v, .slice A bs.length c])] rfl ?_
  refine V.seq ?_
  refine V.region ?_
  refine O.e rfl rfl rfl (Ef.box rfl rfl rfl) ?_
  rintro _ _ ⟨b1, rfl, rfl⟩
  refine O.p rfl rfl rfl (Pu.assign rfl rfl) ?_
  refine O.nil ?_
  refine X.next ?_
  refine V.seq ?_
  refine V.region ?_
  refine O.p rfl rfl rfl (Pu.assign rfl rfl) ?_
  refine O.nil ?_
  refine X.next ?_
  refine V.seq ?_
  refine V.region ?_
  refine O.p rfl rfl rfl (Pu.loadAgg rfl ag24 sz24 rfl rfl (Ld.whole 0 rfl)) ?_
  refine O.p rfl rfl rfl (Pu.move rfl rfl) ?_
  refine O.e rfl rfl rfl (Ef.callP call7 rfl rfl (fun w hw => szSystem_ok _ _ bs _ _ w (by first | omega | (unfold roomLeft at *; split at * <;> omega)) (by omega))) ?_
  rintro _ _ ⟨rfl, rfl⟩
  refine O.p rfl rfl rfl (Pu.assign rfl rfl) ?_
  refine O.nil ?_
  refine X.next ?_
  refine V.seq ?_
  refine V.seq ?_
  refine V.region ?_
  refine O.p rfl rfl rfl (Pu.move rfl rfl) ?_
  refine O.p rfl rfl rfl (Pu.lss rfl rfl rfl) ?_
  refine O.nil ?_
  refine X.next ?_
  refine V.condD rfl (fun c1 => ?_) (fun c1 => ?_)
  · skip
    refine V.seq ?_
    refine V.region ?_
    refine O.p rfl rfl rfl (Pu.assign rfl rfl) ?_
    refine O.nil ?_
    refine X.next ?_
    refine V.ret ?_
    refine X.thenRet ?_
    refine X.ret1 rfl rfl ?_
    exact fun w hw => St.retP rfl hw
  · skip
    have hk : bs.length ≤ 1048576 := by unfold roomLeft at c1; split at c1 <;> omega
    refine V.skip ?_
    refine X.next ?_
    refine V.seq ?_
    refine V.region ?_
    refine O.p rfl rfl rfl (Pu.loadAgg rfl ag24 sz24 rfl rfl (Ld.whole 0 rfl)) ?_
    refine O.e rfl rfl rfl (Ef.call1 call9 rfl rfl (fun w hw => toSystem_ok _ bs _ _ w ((Ld.old hx) w hw) (by omega))) ?_
    rintro _ _ rfl
    refine O.exi (fun A1 => ?_)
    refine O.sep ?_
    refine O.pur ?_
    rintro ⟨hA1, rfl⟩
    refine O.e rfl rfl rfl (Ef.call1 call18 rfl rfl (fun w hw => specPaschTrades_ok  v bs _ _ w ((Ld.own 0 (by exact rfl)) w hw) (by first | omega | (simp only [tops_len, conts_len, bl, List.length_append, List.length_cons, List.length_nil] at *; omega)) )) ?_
    rintro _ _ rfl
    refine O.exi (fun r1A => ?_)
    refine O.exi (fun r1c => ?_)
    refine O.exi (fun r1 => ?_)
    refine O.sep ?_
    refine O.pur ?_
    rintro ⟨rfl, hr1_1, hr1_2⟩
    refine O.sep ?_
    refine O.p rfl rfl rfl (Pu.move rfl rfl) ?_
    refine O.p rfl rfl rfl (Pu.extract rfl rfl rfl) ?_
    refine O.p rfl rfl rfl (Pu.extract rfl rfl rfl) ?_
    refine O.p rfl rfl rfl (Pu.assign rfl rfl) ?_
    refine O.p rfl rfl rfl (Pu.assign rfl rfl) ?_
    refine O.nil ?_
    refine X.next ?_
    refine V.seq ?_
    refine V.region ?_
    refine O.p rfl rfl rfl (Pu.loadAgg rfl ag24 sz24 rfl rfl (Ld.whole 3 rfl)) ?_
    refine O.e rfl rfl rfl (Ef.call1 call9 rfl rfl (fun w hw => toSystem_ok _ bs _ _ w ((Ld.old hx) w hw) (by omega))) ?_
    rintro _ _ rfl
    refine O.exi (fun A2 => ?_)
    refine O.sep ?_
    refine O.pur ?_
    rintro ⟨hA2, rfl⟩
    refine O.e rfl rfl rfl (Ef.alloc rfl zr30 rfl) ?_
    rintro _ _ ⟨b2, rfl, rfl⟩
    refine O.s rfl rfl (Ef.storeAll 0 rfl sz30 rfl rfl rfl rfl (by simp [Value.oneCell']) rfl) ?_
    rintro _ _ rfl
    refine O.nil ?_
    refine X.next ?_
    refine V.seq ?_
    refine V.region ?_
    refine O.p rfl rfl rfl (Pu.loadAgg rfl ag30 sz30 rfl rfl (Ld.whole 0 rfl)) ?_
    refine O.e rfl rfl rfl (Ef.call1 call19 rfl rfl (fun w hw => implPaschTrades_ok  v bs _ _ w ((Ld.own 1 (by exact rfl)) w hw) (by first | omega | (simp only [tops_len, conts_len, bl, List.length_append, List.length_cons, List.length_nil] at *; omega)) )) ?_
    rintro _ _ rfl
    refine O.exi (fun r2A => ?_)
    refine O.exi (fun r2c => ?_)
    refine O.exi (fun r2 => ?_)
    refine O.sep ?_
    refine O.pur ?_
    rintro ⟨rfl, hr2_1, hr2_2⟩
    refine O.sep ?_
    have heqr2 : contT r2 = contT r1 := hr2_1.unique hr1_1
    have hsmr2 := hr2_1.sum hr2_2
    have htlr2 := topT_len r2
    have htl1 := topT_len r1
    refine O.p rfl rfl rfl (Pu.move rfl rfl) ?_
    refine O.p rfl rfl rfl (Pu.extract rfl rfl rfl) ?_
    refine O.p rfl rfl rfl (Pu.extract rfl rfl rfl) ?_
    refine O.p rfl rfl rfl (Pu.assign rfl rfl) ?_
    refine O.p rfl rfl rfl (Pu.assign rfl rfl) ?_
    refine O.nil ?_
    refine X.next ?_
    refine V.seq ?_
    refine V.seq ?_
    refine V.region ?_
    refine O.p rfl rfl rfl (Pu.move rfl rfl) ?_
    refine O.p rfl rfl rfl (Pu.move rfl rfl) ?_
    refine O.e rfl rfl rfl (Ef.callP call20 rfl rfl (fun w hw => eqTradeS_ok _ _ r2 r1 _ _ _ _ w ((Ld.tt 0 0 (by exact rfl) (by exact rfl)) w hw) ((Ld.tt 4 4 (by exact rfl) (by exact rfl)) w hw) rfl hr2_1.rows hr1_1.rows (by omega) (by omega))) ?_
    rintro _ _ ⟨rfl, rfl⟩
    refine O.p rfl rfl rfl (Pu.not rfl rfl) ?_
    refine O.p rfl rfl rfl (Pu.move rfl rfl) ?_
    refine O.splitN 36 rfl (fun c2 => ?_) (fun c2 => ?_)
    · skip
      refine O.gs rfl rfl rfl rfl rfl rfl ?_
      refine O.gs rfl rfl rfl rfl rfl rfl ?_
      refine O.gs rfl rfl rfl rfl rfl rfl ?_
      refine O.p rfl rfl rfl (Pu.pickT rfl rfl rfl) ?_
      refine O.nil ?_
      refine X.next ?_
      refine V.condT rfl ?_
      refine V.seq ?_
      refine V.region ?_
      refine O.p rfl rfl rfl (Pu.assign rfl rfl) ?_
      refine O.nil ?_
      refine X.next ?_
      refine V.ret ?_
      refine X.thenRet ?_
      refine X.ret1 rfl rfl ?_
      exact absurd (by first | assumption | rfl | exact ⟨rfl, rfl⟩ | exact ⟨rfl, by assumption⟩ | exact ⟨⟨rfl, by assumption⟩, rfl, by assumption⟩ | omega | (simp only [*]; done) | (rw [rfl])) c2
    · skip
      refine O.gp rfl rfl rfl rfl rfl (Pu.move rfl rfl) ?_
      refine O.gp rfl rfl rfl rfl rfl (Pu.move rfl rfl) ?_
      refine O.gp rfl rfl rfl rfl rfl (Pu.neq rfl rfl rfl) ?_
      refine O.p rfl rfl rfl (Pu.pickF rfl rfl rfl) ?_
      refine O.nil ?_
      refine X.next ?_
      refine V.condNot rfl (fun c3 => ?_) (fun c3 => ?_)
      · skip
        refine V.seq ?_
        refine V.region ?_
        refine O.p rfl rfl rfl (Pu.assign rfl rfl) ?_
        refine O.nil ?_
        refine X.next ?_
        refine V.ret ?_
        refine X.thenRet ?_
        refine X.ret1 rfl rfl ?_
        exact absurd (by first | assumption | rfl | exact ⟨rfl, rfl⟩ | exact ⟨rfl, by assumption⟩ | exact ⟨⟨rfl, by assumption⟩, rfl, by assumption⟩ | omega | (simp only [*]; done) | (rw [rfl])) c3
      · skip
        refine V.skip ?_
        refine X.next ?_
        refine V.seq ?_
        refine V.seq ?_
        refine V.draw mo (by kernel_rfl) (fun hwf => ?_)
        refine D.p 0 rfl rfl rfl rfl rfl rfl (Pu.loadAgg rfl ag30 sz30 rfl rfl (Ld.whole 2 rfl)) ?_
        refine D.p 1 rfl rfl rfl rfl rfl rfl (Pu.loadAgg rfl ag24 sz24 rfl rfl (Ld.whole 7 rfl)) ?_
        refine D.eff hwf (e := 2) rfl rfl rfl rfl (Ef.call1 call9 rfl rfl (fun w hw => toSystem_ok _ bs _ _ w ((Ld.old hx) w hw) (by omega))) rfl rfl rfl ?_
        rintro _ _ rfl hs
        refine ⟨fun w hw => hs w hw.tail, ?_⟩
        refine D.exi (fun A3 => ?_)
        refine D.sep ?_
        refine D.pur1 ?_
        rintro ⟨hA3, rfl⟩
        refine D.eff hwf (e := 3) rfl rfl rfl rfl (Ef.callP call11 rfl rfl (fun w hw => eqSystem_ok _ _ bs bs _ _ _ _ w ((Ld.own 4 (by exact rfl)) w hw) ((Ld.own 0 (by exact rfl)) w hw) (by omega) (by omega))) rfl rfl rfl ?_
        rintro _ _ ⟨rfl, rfl⟩ hs
        refine ⟨fun w hw => hw.sub (Sub.keep 1 rfl (Sub.keep 1 rfl (Sub.keep 1 rfl (Sub.keep 1 rfl (Sub.keep 1 rfl (Sub.keep 1 rfl (Sub.keep 1 rfl (Sub.keep 1 rfl (Sub.nil _))))))))), ?_⟩
        refine D.p 4 rfl rfl rfl rfl rfl rfl (Pu.not rfl rfl) ?_
        refine D.done hwf rfl ?_
        refine X.next ?_
        refine V.condNot rfl (fun c4 => ?_) (fun c4 => ?_)
        · skip
          refine V.seq ?_
          refine V.region ?_
          refine O.p rfl rfl rfl (Pu.assign rfl rfl) ?_
          refine O.nil ?_
          refine X.next ?_
          refine V.ret ?_
          refine X.thenRet ?_
          refine X.ret1 rfl rfl ?_
          exact absurd (by first | assumption | rfl | exact ⟨rfl, rfl⟩ | exact ⟨rfl, by assumption⟩ | exact ⟨⟨rfl, by assumption⟩, rfl, by assumption⟩ | omega | (simp only [*]; done) | (rw [rfl])) c4
        · skip
          refine V.skip ?_
          refine X.next ?_
          refine V.seq ?_
          refine V.region ?_
          refine O.p rfl rfl rfl (Pu.assign rfl rfl) ?_
          refine O.nil ?_
          refine X.next ?_
          refine V.seq ?_
          refine V.region ?_
          refine O.p rfl rfl rfl (Pu.loadAgg rfl ag30 sz30 rfl rfl (Ld.whole 3 rfl)) ?_
          refine O.p rfl rfl rfl (Pu.move rfl rfl) ?_
          refine O.e rfl rfl rfl (Ef.callM 4 call15 rfl rfl rfl (fun H _ => markSystemX_ok _ _ _ _ _ _ H (by omega) (by omega))) ?_
          rintro _ _ ⟨rfl, rfl⟩
          refine O.p rfl rfl rfl (Pu.assign rfl rfl) ?_
          refine O.nil ?_
          refine X.next ?_
          refine V.seq ?_
          refine V.seq ?_
          refine V.region ?_
          refine O.p rfl rfl rfl (Pu.move rfl rfl) ?_
          refine O.p rfl rfl rfl (Pu.lss rfl rfl rfl) ?_
          refine O.p rfl rfl rfl (Pu.move rfl rfl) ?_
          refine O.splitD 51 rfl (fun c5 => ?_) (fun c5 => ?_)
          · skip
            refine O.gs rfl rfl rfl rfl rfl rfl ?_
            refine O.gs rfl rfl rfl rfl rfl rfl ?_
            refine O.gs rfl rfl rfl rfl rfl rfl ?_
            refine O.gs rfl rfl rfl rfl rfl rfl ?_
            refine O.p rfl rfl rfl (Pu.pickT rfl rfl rfl) ?_
            refine O.p rfl rfl rfl (Pu.move rfl rfl) ?_
            refine O.gs rfl rfl rfl rfl rfl rfl ?_
            refine O.gs rfl rfl rfl rfl rfl rfl ?_
            refine O.gs rfl rfl rfl rfl rfl rfl ?_
            refine O.p rfl rfl rfl (Pu.pickT rfl rfl rfl) ?_
            refine O.nil ?_
            refine X.next ?_
            refine V.condT rfl ?_
            refine V.seq ?_
            refine V.region ?_
            refine O.p rfl rfl rfl (Pu.assign rfl rfl) ?_
            refine O.nil ?_
            refine X.next ?_
            refine V.ret ?_
            refine X.thenRet ?_
            refine X.ret1 rfl rfl ?_
            exact absurd c5 (by first | omega | assumption)
          · skip
            refine O.gp rfl rfl rfl rfl rfl (Pu.move rfl rfl) ?_
            refine O.gp rfl rfl rfl rfl rfl (Pu.move rfl rfl) ?_
            refine O.ge rfl rfl rfl rfl rfl (Ef.callP call20 rfl rfl (fun w hw => eqTradeS_ok _ _ r2 r1 _ _ _ _ w ((Ld.tt 1 1 (by exact rfl) (by exact rfl)) w hw) ((Ld.tt 5 5 (by exact rfl) (by exact rfl)) w hw) rfl hr2_1.rows hr1_1.rows (by omega) (by omega))) ?_
            rintro _ _ ⟨rfl, rfl⟩
            refine O.gp rfl rfl rfl rfl rfl (Pu.not rfl rfl) ?_
            refine O.p rfl rfl rfl (Pu.pickF rfl rfl rfl) ?_
            refine O.p rfl rfl rfl (Pu.move rfl rfl) ?_
            refine O.splitN 57 rfl (fun c6 => ?_) (fun c6 => ?_)
            · skip
              refine O.gs rfl rfl rfl rfl rfl rfl ?_
              refine O.gs rfl rfl rfl rfl rfl rfl ?_
              refine O.gs rfl rfl rfl rfl rfl rfl ?_
              refine O.p rfl rfl rfl (Pu.pickT rfl rfl rfl) ?_
              refine O.nil ?_
              refine X.next ?_
              refine V.condT rfl ?_
              refine V.seq ?_
              refine V.region ?_
              refine O.p rfl rfl rfl (Pu.assign rfl rfl) ?_
              refine O.nil ?_
              refine X.next ?_
              refine V.ret ?_
              refine X.thenRet ?_
              refine X.ret1 rfl rfl ?_
              exact absurd (by first | assumption | rfl | exact ⟨rfl, rfl⟩ | exact ⟨rfl, by assumption⟩ | exact ⟨⟨rfl, by assumption⟩, rfl, by assumption⟩ | omega | (simp only [*]; done) | (rw [rfl])) c6
            · skip
              refine O.gp rfl rfl rfl rfl rfl (Pu.move rfl rfl) ?_
              refine O.gp rfl rfl rfl rfl rfl (Pu.move rfl rfl) ?_
              refine O.gp rfl rfl rfl rfl rfl (Pu.neq rfl rfl rfl) ?_
              refine O.p rfl rfl rfl (Pu.pickF rfl rfl rfl) ?_
              refine O.nil ?_
              refine X.next ?_
              refine V.condNot rfl (fun c7 => ?_) (fun c7 => ?_)
              · skip
                refine V.seq ?_
                refine V.region ?_
                refine O.p rfl rfl rfl (Pu.assign rfl rfl) ?_
                refine O.nil ?_
                refine X.next ?_
                refine V.ret ?_
                refine X.thenRet ?_
                refine X.ret1 rfl rfl ?_
                exact absurd (by first | assumption | rfl | exact ⟨rfl, rfl⟩ | exact ⟨rfl, by assumption⟩ | exact ⟨⟨rfl, by assumption⟩, rfl, by assumption⟩ | omega | (simp only [*]; done) | (rw [rfl])) c7
              · skip
                refine V.skip ?_
                refine X.next ?_
                refine V.seq ?_
                refine V.region ?_
                refine O.p rfl rfl rfl (Pu.assign rfl rfl) ?_
                refine O.nil ?_
                refine X.next ?_
                refine V.seq ?_
                refine V.region ?_
                refine O.p rfl rfl rfl (Pu.move rfl rfl) ?_
                refine O.p rfl rfl rfl (Pu.move rfl rfl) ?_
                refine O.fact (fun w hw => (Ld.tt (v := v) 1 1 (by exact rfl) (by exact rfl) w hw).lo) (fun hlo_r2 => ?_)
                refine O.fact (fun w hw => (Ld.tt (v := v) 1 1 (by exact rfl) (by exact rfl) w hw).li) (fun hli_r2 => ?_)
                refine O.e rfl rfl rfl (Ef.call call21 rfl rfl (Does.pre (fun w hw => trs_three (hw.sub (Sub.keep 1 rfl (Sub.keep 1 rfl (Sub.keep 0 rfl (Sub.keep 0 rfl (Sub.keep 0 rfl (Sub.keep 0 rfl (Sub.keep 0 rfl (Sub.keep 0 rfl (Sub.keep 0 rfl (Sub.nil _)))))))))))) (markTradeS_ok _ r2 _ _ _ _ _ hlo_r2 hli_r2 (by omega) (by omega)))) ?_
                rintro _ _ rfl
                refine O.pur ?_
                rintro rfl
                refine O.p rfl rfl rfl (Pu.assign rfl rfl) ?_
                refine O.nil ?_
                refine X.next ?_
                refine V.seq ?_
                refine V.region ?_
                refine O.p rfl rfl rfl (Pu.assign rfl rfl) ?_
                refine O.nil ?_
                refine X.next ?_
                refine V.seq ?_
                refine V.region ?_
                refine O.p rfl rfl rfl (Pu.move rfl rfl) ?_
                refine O.p rfl rfl rfl (Pu.move rfl rfl) ?_
                refine O.e rfl rfl rfl (Ef.callP call22 rfl rfl (fun w hw => heldTradeS_ok r2 _ _ _ w (Ld.mm (i := 0) (j := 1) (l := 2) (by exact rfl) (by exact rfl) (by exact rfl) w hw) (by omega) (by omega))) ?_
                rintro _ _ ⟨rfl, rfl⟩
                refine O.p rfl rfl rfl (Pu.assign rfl rfl) ?_
                refine O.nil ?_
                refine X.next ?_
                refine V.seq ?_
                refine V.seq ?_
                refine V.region ?_
                refine O.p rfl rfl rfl (Pu.move rfl rfl) ?_
                refine O.p rfl rfl rfl (Pu.lss rfl rfl rfl) ?_
                refine O.nil ?_
                refine X.next ?_
                refine V.condD rfl (fun c8 => ?_) (fun c8 => ?_)
                · skip
                  refine V.seq ?_
                  refine V.region ?_
                  refine O.p rfl rfl rfl (Pu.assign rfl rfl) ?_
                  refine O.nil ?_
                  refine X.next ?_
                  refine V.ret ?_
                  refine X.thenRet ?_
                  refine X.ret1 rfl rfl ?_
                  exact absurd c8 (by first | omega | assumption)
                · skip
                  refine V.skip ?_
                  refine X.next ?_
                  refine V.seq ?_
                  refine V.seq ?_
                  refine V.region ?_
                  refine O.p rfl rfl rfl (Pu.move rfl rfl) ?_
                  refine O.p rfl rfl rfl (Pu.move rfl rfl) ?_
                  refine O.p rfl rfl rfl (Pu.neq rfl rfl rfl) ?_
                  refine O.nil ?_
                  refine X.next ?_
                  refine V.condNot rfl (fun c9 => ?_) (fun c9 => ?_)
                  · skip
                    refine V.seq ?_
                    refine V.region ?_
                    refine O.p rfl rfl rfl (Pu.assign rfl rfl) ?_
                    refine O.nil ?_
                    refine X.next ?_
                    refine V.ret ?_
                    refine X.thenRet ?_
                    refine X.ret1 rfl rfl ?_
                    exact absurd (by first | assumption | rfl | exact ⟨rfl, rfl⟩ | exact ⟨rfl, by assumption⟩ | exact ⟨⟨rfl, by assumption⟩, rfl, by assumption⟩ | omega | (simp only [*]; done) | (rw [rfl])) c9
                  · skip
                    refine V.skip ?_
                    refine X.next ?_
                    refine V.seq ?_
                    refine V.region ?_
                    refine O.p rfl rfl rfl (Pu.loadAgg rfl ag24 sz24 rfl rfl (Ld.whole 9 rfl)) ?_
                    refine O.e rfl rfl rfl (Ef.call1 call9 rfl rfl (fun w hw => toSystem_ok _ bs _ _ w ((Ld.old hx) w hw) (by omega))) ?_
                    rintro _ _ rfl
                    refine O.exi (fun A4 => ?_)
                    refine O.sep ?_
                    refine O.pur ?_
                    rintro ⟨hA4, rfl⟩
                    refine O.e rfl rfl rfl (Ef.call1 call19 rfl rfl (fun w hw => implPaschTrades_ok  v bs _ _ w ((Ld.own 0 (by exact rfl)) w hw) (by first | omega | (simp only [tops_len, conts_len, bl, List.length_append, List.length_cons, List.length_nil] at *; omega)) )) ?_
                    rintro _ _ rfl
                    refine O.exi (fun r3A => ?_)
                    refine O.exi (fun r3c => ?_)
                    refine O.exi (fun r3 => ?_)
                    refine O.sep ?_
                    refine O.pur ?_
                    rintro ⟨rfl, hr3_1, hr3_2⟩
                    refine O.sep ?_
                    have heqr3 : contT r3 = contT r1 := hr3_1.unique hr1_1
                    have hsmr3 := hr3_1.sum hr3_2
                    have htlr3 := topT_len r3
                    have htl1 := topT_len r1
                    refine O.p rfl rfl rfl (Pu.move rfl rfl) ?_
                    refine O.p rfl rfl rfl (Pu.extract rfl rfl rfl) ?_
                    refine O.p rfl rfl rfl (Pu.extract rfl rfl rfl) ?_
                    refine O.p rfl rfl rfl (Pu.assign rfl rfl) ?_
                    refine O.p rfl rfl rfl (Pu.assign rfl rfl) ?_
                    refine O.nil ?_
                    refine X.next ?_
                    refine V.seq ?_
                    refine V.seq ?_
                    refine V.region ?_
                    refine O.p rfl rfl rfl (Pu.move rfl rfl) ?_
                    refine O.p rfl rfl rfl (Pu.move rfl rfl) ?_
                    refine O.e rfl rfl rfl (Ef.callP call20 rfl rfl (fun w hw => eqTradeS_ok _ _ r3 r1 _ _ _ _ w ((Ld.tt 0 0 (by exact rfl) (by exact rfl)) w hw) ((Ld.tt 9 9 (by exact rfl) (by exact rfl)) w hw) rfl hr3_1.rows hr1_1.rows (by omega) (by omega))) ?_
                    rintro _ _ ⟨rfl, rfl⟩
                    refine O.p rfl rfl rfl (Pu.not rfl rfl) ?_
                    refine O.p rfl rfl rfl (Pu.move rfl rfl) ?_
                    refine O.splitN 83 rfl (fun c10 => ?_) (fun c10 => ?_)
                    · skip
                      refine O.gs rfl rfl rfl rfl rfl rfl ?_
                      refine O.gs rfl rfl rfl rfl rfl rfl ?_
                      refine O.gs rfl rfl rfl rfl rfl rfl ?_
                      refine O.p rfl rfl rfl (Pu.pickT rfl rfl rfl) ?_
                      refine O.nil ?_
                      refine X.next ?_
                      refine V.condT rfl ?_
                      refine V.seq ?_
                      refine V.region ?_
                      refine O.p rfl rfl rfl (Pu.assign rfl rfl) ?_
                      refine O.nil ?_
                      refine X.next ?_
                      refine V.ret ?_
                      refine X.thenRet ?_
                      refine X.ret1 rfl rfl ?_
                      exact absurd (by first | assumption | rfl | exact ⟨rfl, rfl⟩ | exact ⟨rfl, by assumption⟩ | exact ⟨⟨rfl, by assumption⟩, rfl, by assumption⟩ | omega | (simp only [*]; done) | (rw [rfl])) c10
                    · skip
                      refine O.gp rfl rfl rfl rfl rfl (Pu.move rfl rfl) ?_
                      refine O.gp rfl rfl rfl rfl rfl (Pu.move rfl rfl) ?_
                      refine O.gp rfl rfl rfl rfl rfl (Pu.neq rfl rfl rfl) ?_
                      refine O.p rfl rfl rfl (Pu.pickF rfl rfl rfl) ?_
                      refine O.nil ?_
                      refine X.next ?_
                      refine V.condNot rfl (fun c11 => ?_) (fun c11 => ?_)
                      · skip
                        refine V.seq ?_
                        refine V.region ?_
                        refine O.p rfl rfl rfl (Pu.assign rfl rfl) ?_
                        refine O.nil ?_
                        refine X.next ?_
                        refine V.ret ?_
                        refine X.thenRet ?_
                        refine X.ret1 rfl rfl ?_
                        exact absurd (by first | assumption | rfl | exact ⟨rfl, rfl⟩ | exact ⟨rfl, by assumption⟩ | exact ⟨⟨rfl, by assumption⟩, rfl, by assumption⟩ | omega | (simp only [*]; done) | (rw [rfl])) c11
                      · skip
                        refine V.skip ?_
                        refine X.next ?_
                        refine V.seq ?_
                        refine V.region ?_
                        refine O.p rfl rfl rfl (Pu.assign rfl rfl) ?_
                        refine O.nil ?_
                        refine X.next ?_
                        refine V.seq ?_
                        refine V.region ?_
                        refine O.p rfl rfl rfl (Pu.move rfl rfl) ?_
                        refine O.p rfl rfl rfl (Pu.move rfl rfl) ?_
                        refine O.e rfl rfl rfl (Ef.callP call22 rfl rfl (fun w hw => heldTradeS_ok r2 _ _ _ w (Ld.mm (i := 3) (j := 4) (l := 5) (by exact rfl) (by exact rfl) (by exact rfl) w hw) (by omega) (by omega))) ?_
                        rintro _ _ ⟨rfl, rfl⟩
                        refine O.p rfl rfl rfl (Pu.assign rfl rfl) ?_
                        refine O.nil ?_
                        refine X.next ?_
                        refine V.seq ?_
                        refine V.seq ?_
                        refine V.region ?_
                        refine O.p rfl rfl rfl (Pu.move rfl rfl) ?_
                        refine O.p rfl rfl rfl (Pu.lss rfl rfl rfl) ?_
                        refine O.nil ?_
                        refine X.next ?_
                        refine V.condD rfl (fun c12 => ?_) (fun c12 => ?_)
                        · skip
                          refine V.seq ?_
                          refine V.region ?_
                          refine O.p rfl rfl rfl (Pu.assign rfl rfl) ?_
                          refine O.nil ?_
                          refine X.next ?_
                          refine V.ret ?_
                          refine X.thenRet ?_
                          refine X.ret1 rfl rfl ?_
                          exact absurd c12 (by first | omega | assumption)
                        · skip
                          refine V.skip ?_
                          refine X.next ?_
                          refine V.seq ?_
                          refine V.seq ?_
                          refine V.region ?_
                          refine O.p rfl rfl rfl (Pu.move rfl rfl) ?_
                          refine O.p rfl rfl rfl (Pu.move rfl rfl) ?_
                          refine O.p rfl rfl rfl (Pu.neq rfl rfl rfl) ?_
                          refine O.nil ?_
                          refine X.next ?_
                          refine V.condNot rfl (fun c13 => ?_) (fun c13 => ?_)
                          · skip
                            refine V.seq ?_
                            refine V.region ?_
                            refine O.p rfl rfl rfl (Pu.assign rfl rfl) ?_
                            refine O.nil ?_
                            refine X.next ?_
                            refine V.ret ?_
                            refine X.thenRet ?_
                            refine X.ret1 rfl rfl ?_
                            exact absurd (by first | assumption | rfl | exact ⟨rfl, rfl⟩ | exact ⟨rfl, by assumption⟩ | exact ⟨⟨rfl, by assumption⟩, rfl, by assumption⟩ | omega | (simp only [*]; done) | (rw [rfl])) c13
                          · skip
                            refine V.skip ?_
                            refine X.next ?_
                            refine V.seq ?_
                            refine V.region ?_
                            refine O.p rfl rfl rfl (Pu.assign rfl rfl) ?_
                            refine O.nil ?_
                            refine X.next ?_
                            refine V.ret ?_
                            refine X.ret1 rfl rfl ?_
                            exact fun w hw => St.retP rfl hw
end Go.Proofs.Ytphgcnegmkafiaa
