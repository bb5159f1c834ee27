/-
  Contracts, part 4.
-/
import Derived.Test.YtgjfcepnkllklaaGreatKb3
set_option linter.unusedVariables false
set_option linter.unusedSimpArgs false
namespace Go.Proofs.YtgjfcepnkllklaaGreat
open Go Go.RowKit Go.Vc Go.Proofs
set_option maxRecDepth 100000 in
set_option maxHeartbeats 1000000 in
theorem isPasch_ok (blocks : List B3) (blocksA : Option Addr) (blocksc : Nat) (w : World) (hblocks : Rd B3C w blocksA blocks) (lblocks : blocks.length ≤ 1099511627776) (hg : ∀ b ∈ blocks, good 15 b) (h4 : blocks.length = 4) : Does Tryz.prog 164 [.slice blocksA blocks.length blocksc] w [] (fun r => [.pur (r = .bool (decide (PasB blocks)))]) := by
  refine Does.enter Tryz.func164 rfl rfl [(0, .slice blocksA blocks.length blocksc)] rfl ?_
  refine V.seq ?_
  refine V.region ?_
  refine O.p rfl rfl rfl (Pu.assign rfl rfl) ?_
  refine O.nil ?_
  refine X.next ?_
  refine V.seq ?_
  refine V.region ?_
  refine O.e rfl rfl rfl (Ef.alloc rfl zr179 rfl) ?_
  rintro _ _ ⟨b1, rfl, rfl⟩
  refine O.nil ?_
  refine X.next ?_
  refine V.seq ?_
  refine V.region ?_
  refine O.p rfl rfl rfl (Pu.assign rfl rfl) ?_
  refine O.nil ?_
  refine X.next ?_
  refine V.seq ?_
  refine V.seq ?_
  refine V.region ?_
  refine O.p rfl rfl rfl (Pu.move rfl rfl) ?_
  refine O.p rfl rfl rfl (Pu.len rfl Tryz.underlying24 rfl) ?_
  refine O.p rfl rfl rfl (Pu.move rfl rfl) ?_
  refine O.nil ?_
  refine X.next ?_
  refine V.block ?_
  refine V.loop2 (β := Nat × Nat × (List Int)) (fun x => [(4, .int .i64 (x.1 : Int)), (11, .int .i64 (x.2.1 : Int))]) _ (fun x => [Blk b1 ((x.2.2).map (Value.int .i64)) 179]) (fun x => x.2.1 ≤ blocks.length ∧ x.2.2 = cntA ((blocks.take x.2.1).flatMap bl) ∧ x.1 = dist ((blocks.take x.2.1).flatMap bl)) (fun x => blocks.length - x.2.1) (0, 0, [0, 0, 0, 0, 0, 0, 0, 0, 0, 0, 0, 0, 0, 0, 0]) (by (try dsimp only); exact ⟨by omega, by simp [cntA, cN], by simp [dist, posL, cntA, cN]⟩) (Ent.cons rfl (Ent.cons rfl (Ent.nil _))) (Ent.cons (t := 3) rfl (Ent.cons (t := 9) rfl (Ent.cons (t := 10) rfl (Ent.nil _)))) (Sub.cons 0 rfl (fun w F h => h) (Sub.nil _)) ?_
  rintro ⟨points, k, cs⟩ ⟨hk, hcs, hpo⟩
  dsimp only at hk hcs hpo ⊢
  subst hcs
  subst hpo
  have hdl0 := dist_le ((blocks.take k).flatMap bl)
  refine V.seq ?_
  refine V.region ?_
  refine O.p rfl rfl rfl (Pu.lss rfl rfl rfl) ?_
  refine O.nil ?_
  refine X.next ?_
  refine V.seq ?_
  refine V.condD rfl (fun c1 => ?_) (fun c1 => ?_)
  · skip
    refine V.skip ?_
    refine X.next ?_
    refine V.seq ?_
    refine V.block ?_
    refine V.seq ?_
    refine V.region ?_
    refine O.p rfl rfl rfl (Pu.indexAddr (k) rfl Tryz.underlying24 sz51 rfl rfl (by omega) (by omega) (hblocks.some (by omega))) ?_
    have e1 : k < blocks.length := by omega
    refine O.p rfl rfl rfl (Pu.loadAgg' (v := B3.v (blocks[k]'e1)) rfl rfl ag51 sz51 rfl rfl (Ld.rds (Ld.old hblocks) (k := k) e1 rfl)) ?_
    refine O.e rfl rfl rfl (Ef.alloc rfl zr51 rfl) ?_
    rintro _ _ ⟨b2, rfl, rfl⟩
    refine O.s rfl rfl (Ef.storeAll 0 rfl sz51 rfl rfl rfl rfl (by simp [Value.oneCell']) rfl) ?_
    rintro _ _ rfl
    refine O.nil ?_
    refine X.next ?_
    refine V.seq ?_
    have hgk := hg _ (List.getElem_mem e1)
    unfold good at hgk
    have hfl := flat_len (blocks.take k)
    rw [List.length_take] at hfl
    refine V.region ?_
    refine O.p rfl rfl rfl (Pu.loadAgg' (v := B3.v (blocks[k]'e1)) rfl rfl ag51 sz51 rfl rfl (Ld.whole 0 rfl)) ?_
    refine O.p rfl rfl rfl (Pu.move rfl rfl) ?_
    refine O.nil ?_
    refine X.next ?_
    refine V.block ?_
    refine V.unroll 3 ?_
    refine V.seq ?_
    refine V.region ?_
    refine O.p rfl rfl rfl (Pu.isT (by decide) (Pu.lss rfl rfl rfl)) ?_
    refine O.nil ?_
    refine X.next ?_
    refine V.seq ?_
    refine V.condT rfl ?_
    refine V.skip ?_
    refine X.next ?_
    refine V.seq ?_
    refine V.block ?_
    refine V.seq ?_
    refine V.region ?_
    refine O.p rfl rfl rfl (Pu.indexAgg 0 rfl Tryz.underlying51 sz2 pl2 rfl rfl (by decide) (by decide) rfl) ?_
    refine O.p rfl rfl rfl (Pu.assign rfl rfl) ?_
    refine O.nil ?_
    refine X.next ?_
    refine V.seq ?_
    have hbd28 := cnt_bd (ps := ((blocks.take k).flatMap bl)) (by simp only [List.length_append, List.length_singleton, hfl]; omega) ((blocks[k]'e1).1).toNat
    refine V.region ?_
    refine O.p rfl rfl rfl (Pu.move rfl rfl) ?_
    refine O.p rfl rfl rfl (Pu.indexArr (((blocks[k]'e1).1).toNat) (0 + ((blocks[k]'e1).1).toNat * 1) rfl Tryz.underlying179 sz3 rfl rfl (by omega) (by omega) rfl) ?_
    refine O.p rfl rfl rfl (Pu.load rfl pl3 rfl (Ld.arrK (n := 15) (k := ((blocks[k]'e1).1).toNat) 1 rfl rfl (by omega) (by rfl))) ?_
    refine O.p rfl rfl rfl (Pu.add64 rfl (by omega) rfl rfl rfl) ?_
    refine O.p rfl rfl rfl (Pu.indexArr (((blocks[k]'e1).1).toNat) (0 + ((blocks[k]'e1).1).toNat * 1) rfl Tryz.underlying179 sz3 rfl rfl (by omega) (by omega) rfl) ?_
    refine O.s rfl rfl (Ef.storeArr (n := 15) (xs := (cntA ((blocks.take k).flatMap bl))) 1 (((blocks[k]'e1).1).toNat) rfl sz3 rfl rfl rfl rfl (by omega) (by rfl)) ?_
    rintro _ _ rfl
    refine O.map (fun w hw => hw.sub (Sub.keep 0 rfl (Sub.cons 0 rfl (fun w F h => by rw [cntA_set ((blocks.take k).flatMap bl) (by omega) (by omega)] at h; exact h) (Sub.nil _)))) ?_
    have hdl := dist_le ((blocks.take k).flatMap bl)
    refine O.nil ?_
    refine X.next ?_
    refine V.seq ?_
    refine V.region ?_
    refine O.p rfl rfl rfl (Pu.move rfl rfl) ?_
    refine O.p rfl rfl rfl (Pu.indexArr (((blocks[k]'e1).1).toNat) (0 + ((blocks[k]'e1).1).toNat * 1) rfl Tryz.underlying179 sz3 rfl rfl (by omega) (by omega) rfl) ?_
    refine O.p rfl rfl rfl (Pu.load rfl pl3 rfl (Ld.arrK (n := 15) (k := ((blocks[k]'e1).1).toNat) 1 rfl rfl (by omega) (by rfl))) ?_
    refine O.p rfl rfl rfl (Pu.eql rfl rfl rfl) ?_
    refine O.nil ?_
    refine X.next ?_
    refine V.cut2 [(4, .int .i64 ((dist (((blocks.take k).flatMap bl) ++ [(blocks[k]'e1).1]) : Nat) : Int))] (Ent.cons (t := 3) rfl (Ent.cons (t := 9) rfl (Ent.cons (t := 10) rfl (Ent.cons (t := 11) rfl (Ent.cons (t := 15) rfl (Ent.cons (t := 16) rfl (Ent.nil _))))))) (Sub.keep 0 rfl (Sub.keep 0 rfl (Sub.nil _))) ?_ ?_
    · skip
      refine V.condD rfl (fun c2 => ?_) (fun c2 => ?_)
      · skip
        refine V.region ?_
        refine O.p rfl rfl rfl (Pu.move rfl rfl) ?_
        refine O.p rfl rfl rfl (Pu.add64 (r := (((dist ((blocks.take k).flatMap bl)) + 1 : Nat) : Int)) rfl (by omega) rfl rfl rfl) ?_
        refine O.p rfl rfl rfl (Pu.assign rfl rfl) ?_
        refine O.nil ?_
        exact X.cut (Ent.cons' rfl (iv (by rw [dist_snoc ((blocks.take k).flatMap bl) (by omega) (by omega), if_pos ((cnt_one ((blocks.take k).flatMap bl) (by omega) (by omega)).1 c2)])) (Ent.nil _)) (Ent.cons (t := 3) rfl (Ent.cons (t := 9) rfl (Ent.cons (t := 10) rfl (Ent.cons (t := 11) rfl (Ent.cons (t := 15) rfl (Ent.cons (t := 16) rfl (Ent.nil _))))))) (Sub.keep 0 rfl (Sub.keep 0 rfl (Sub.nil _)))
      · skip
        refine V.skip ?_
        exact X.cut (Ent.cons' rfl (iv (by rw [dist_snoc ((blocks.take k).flatMap bl) (by omega) (by omega), if_neg (fun h => c2 ((cnt_one ((blocks.take k).flatMap bl) (by omega) (by omega)).2 h)), Nat.add_zero])) (Ent.nil _)) (Ent.cons (t := 3) rfl (Ent.cons (t := 9) rfl (Ent.cons (t := 10) rfl (Ent.cons (t := 11) rfl (Ent.cons (t := 15) rfl (Ent.cons (t := 16) rfl (Ent.nil _))))))) (Sub.keep 0 rfl (Sub.keep 0 rfl (Sub.nil _)))
    · skip
      refine X.blockNormal ?_
      refine X.next ?_
      refine V.region ?_
      refine O.p rfl rfl rfl (Pu.add64 (r := 1) (by decide) (by decide) rfl rfl rfl) ?_
      refine O.p rfl rfl rfl (Pu.move rfl rfl) ?_
      refine O.nil ?_
      refine X.again 2 ?_
      refine V.seq ?_
      refine V.region ?_
      refine O.p rfl rfl rfl (Pu.isT (by decide) (Pu.lss rfl rfl rfl)) ?_
      refine O.nil ?_
      refine X.next ?_
      refine V.seq ?_
      refine V.condT rfl ?_
      refine V.skip ?_
      refine X.next ?_
      refine V.seq ?_
      refine V.block ?_
      refine V.seq ?_
      refine V.region ?_
      refine O.p rfl rfl rfl (Pu.indexAgg 1 rfl Tryz.underlying51 sz2 pl2 rfl rfl (by decide) (by decide) rfl) ?_
      refine O.p rfl rfl rfl (Pu.assign rfl rfl) ?_
      refine O.nil ?_
      refine X.next ?_
      refine V.seq ?_
      have hbd52 := cnt_bd (ps := (((blocks.take k).flatMap bl) ++ [(blocks[k]'e1).1])) (by simp only [List.length_append, List.length_singleton, hfl]; omega) ((blocks[k]'e1).2.1).toNat
      refine V.region ?_
      refine O.p rfl rfl rfl (Pu.move rfl rfl) ?_
      refine O.p rfl rfl rfl (Pu.indexArr (((blocks[k]'e1).2.1).toNat) (0 + ((blocks[k]'e1).2.1).toNat * 1) rfl Tryz.underlying179 sz3 rfl rfl (by omega) (by omega) rfl) ?_
      refine O.p rfl rfl rfl (Pu.load rfl pl3 rfl (Ld.arrK (n := 15) (k := ((blocks[k]'e1).2.1).toNat) 1 rfl rfl (by omega) (by rfl))) ?_
      refine O.p rfl rfl rfl (Pu.add64 rfl (by omega) rfl rfl rfl) ?_
      refine O.p rfl rfl rfl (Pu.indexArr (((blocks[k]'e1).2.1).toNat) (0 + ((blocks[k]'e1).2.1).toNat * 1) rfl Tryz.underlying179 sz3 rfl rfl (by omega) (by omega) rfl) ?_
      refine O.s rfl rfl (Ef.storeArr (n := 15) (xs := (cntA (((blocks.take k).flatMap bl) ++ [(blocks[k]'e1).1]))) 1 (((blocks[k]'e1).2.1).toNat) rfl sz3 rfl rfl rfl rfl (by omega) (by rfl)) ?_
      rintro _ _ rfl
      refine O.map (fun w hw => hw.sub (Sub.keep 0 rfl (Sub.cons 0 rfl (fun w F h => by rw [cntA_set (((blocks.take k).flatMap bl) ++ [(blocks[k]'e1).1]) (by omega) (by omega)] at h; exact h) (Sub.nil _)))) ?_
      have hdl := dist_le (((blocks.take k).flatMap bl) ++ [(blocks[k]'e1).1])
      refine O.nil ?_
      refine X.next ?_
      refine V.seq ?_
      refine V.region ?_
      refine O.p rfl rfl rfl (Pu.move rfl rfl) ?_
      refine O.p rfl rfl rfl (Pu.indexArr (((blocks[k]'e1).2.1).toNat) (0 + ((blocks[k]'e1).2.1).toNat * 1) rfl Tryz.underlying179 sz3 rfl rfl (by omega) (by omega) rfl) ?_
      refine O.p rfl rfl rfl (Pu.load rfl pl3 rfl (Ld.arrK (n := 15) (k := ((blocks[k]'e1).2.1).toNat) 1 rfl rfl (by omega) (by rfl))) ?_
      refine O.p rfl rfl rfl (Pu.eql rfl rfl rfl) ?_
      refine O.nil ?_
      refine X.next ?_
      refine V.cut2 [(4, .int .i64 ((dist ((((blocks.take k).flatMap bl) ++ [(blocks[k]'e1).1]) ++ [(blocks[k]'e1).2.1]) : Nat) : Int))] (Ent.cons (t := 3) rfl (Ent.cons (t := 9) rfl (Ent.cons (t := 10) rfl (Ent.cons (t := 11) rfl (Ent.cons (t := 15) rfl (Ent.cons (t := 16) rfl (Ent.nil _))))))) (Sub.keep 0 rfl (Sub.keep 0 rfl (Sub.nil _))) ?_ ?_
      · skip
        refine V.condD rfl (fun c3 => ?_) (fun c3 => ?_)
        · skip
          refine V.region ?_
          refine O.p rfl rfl rfl (Pu.move rfl rfl) ?_
          refine O.p rfl rfl rfl (Pu.add64 (r := (((dist (((blocks.take k).flatMap bl) ++ [(blocks[k]'e1).1])) + 1 : Nat) : Int)) rfl (by omega) rfl rfl rfl) ?_
          refine O.p rfl rfl rfl (Pu.assign rfl rfl) ?_
          refine O.nil ?_
          exact X.cut (Ent.cons' rfl (iv (by rw [dist_snoc (((blocks.take k).flatMap bl) ++ [(blocks[k]'e1).1]) (by omega) (by omega), if_pos ((cnt_one (((blocks.take k).flatMap bl) ++ [(blocks[k]'e1).1]) (by omega) (by omega)).1 c3)])) (Ent.nil _)) (Ent.cons (t := 3) rfl (Ent.cons (t := 9) rfl (Ent.cons (t := 10) rfl (Ent.cons (t := 11) rfl (Ent.cons (t := 15) rfl (Ent.cons (t := 16) rfl (Ent.nil _))))))) (Sub.keep 0 rfl (Sub.keep 0 rfl (Sub.nil _)))
        · skip
          refine V.skip ?_
          exact X.cut (Ent.cons' rfl (iv (by rw [dist_snoc (((blocks.take k).flatMap bl) ++ [(blocks[k]'e1).1]) (by omega) (by omega), if_neg (fun h => c3 ((cnt_one (((blocks.take k).flatMap bl) ++ [(blocks[k]'e1).1]) (by omega) (by omega)).2 h)), Nat.add_zero])) (Ent.nil _)) (Ent.cons (t := 3) rfl (Ent.cons (t := 9) rfl (Ent.cons (t := 10) rfl (Ent.cons (t := 11) rfl (Ent.cons (t := 15) rfl (Ent.cons (t := 16) rfl (Ent.nil _))))))) (Sub.keep 0 rfl (Sub.keep 0 rfl (Sub.nil _)))
      · skip
        refine X.blockNormal ?_
        refine X.next ?_
        refine V.region ?_
        refine O.p rfl rfl rfl (Pu.add64 (r := 2) (by decide) (by decide) rfl rfl rfl) ?_
        refine O.p rfl rfl rfl (Pu.move rfl rfl) ?_
        refine O.nil ?_
        refine X.again 1 ?_
        refine V.seq ?_
        refine V.region ?_
        refine O.p rfl rfl rfl (Pu.isT (by decide) (Pu.lss rfl rfl rfl)) ?_
        refine O.nil ?_
        refine X.next ?_
        refine V.seq ?_
        refine V.condT rfl ?_
        refine V.skip ?_
        refine X.next ?_
        refine V.seq ?_
        refine V.block ?_
        refine V.seq ?_
        refine V.region ?_
        refine O.p rfl rfl rfl (Pu.indexAgg 2 rfl Tryz.underlying51 sz2 pl2 rfl rfl (by decide) (by decide) rfl) ?_
        refine O.p rfl rfl rfl (Pu.assign rfl rfl) ?_
        refine O.nil ?_
        refine X.next ?_
        refine V.seq ?_
        have hbd78 := cnt_bd (ps := ((((blocks.take k).flatMap bl) ++ [(blocks[k]'e1).1]) ++ [(blocks[k]'e1).2.1])) (by simp only [List.length_append, List.length_singleton, hfl]; omega) ((blocks[k]'e1).2.2).toNat
        refine V.region ?_
        refine O.p rfl rfl rfl (Pu.move rfl rfl) ?_
        refine O.p rfl rfl rfl (Pu.indexArr (((blocks[k]'e1).2.2).toNat) (0 + ((blocks[k]'e1).2.2).toNat * 1) rfl Tryz.underlying179 sz3 rfl rfl (by omega) (by omega) rfl) ?_
        refine O.p rfl rfl rfl (Pu.load rfl pl3 rfl (Ld.arrK (n := 15) (k := ((blocks[k]'e1).2.2).toNat) 1 rfl rfl (by omega) (by rfl))) ?_
        refine O.p rfl rfl rfl (Pu.add64 rfl (by omega) rfl rfl rfl) ?_
        refine O.p rfl rfl rfl (Pu.indexArr (((blocks[k]'e1).2.2).toNat) (0 + ((blocks[k]'e1).2.2).toNat * 1) rfl Tryz.underlying179 sz3 rfl rfl (by omega) (by omega) rfl) ?_
        refine O.s rfl rfl (Ef.storeArr (n := 15) (xs := (cntA ((((blocks.take k).flatMap bl) ++ [(blocks[k]'e1).1]) ++ [(blocks[k]'e1).2.1]))) 1 (((blocks[k]'e1).2.2).toNat) rfl sz3 rfl rfl rfl rfl (by omega) (by rfl)) ?_
        rintro _ _ rfl
        refine O.map (fun w hw => hw.sub (Sub.keep 0 rfl (Sub.cons 0 rfl (fun w F h => by rw [cntA_set ((((blocks.take k).flatMap bl) ++ [(blocks[k]'e1).1]) ++ [(blocks[k]'e1).2.1]) (by omega) (by omega)] at h; exact h) (Sub.nil _)))) ?_
        have hdl := dist_le ((((blocks.take k).flatMap bl) ++ [(blocks[k]'e1).1]) ++ [(blocks[k]'e1).2.1])
        refine O.nil ?_
        refine X.next ?_
        refine V.seq ?_
        refine V.region ?_
        refine O.p rfl rfl rfl (Pu.move rfl rfl) ?_
        refine O.p rfl rfl rfl (Pu.indexArr (((blocks[k]'e1).2.2).toNat) (0 + ((blocks[k]'e1).2.2).toNat * 1) rfl Tryz.underlying179 sz3 rfl rfl (by omega) (by omega) rfl) ?_
        refine O.p rfl rfl rfl (Pu.load rfl pl3 rfl (Ld.arrK (n := 15) (k := ((blocks[k]'e1).2.2).toNat) 1 rfl rfl (by omega) (by rfl))) ?_
        refine O.p rfl rfl rfl (Pu.eql rfl rfl rfl) ?_
        refine O.nil ?_
        refine X.next ?_
        refine V.cut2 [(4, .int .i64 ((dist (((((blocks.take k).flatMap bl) ++ [(blocks[k]'e1).1]) ++ [(blocks[k]'e1).2.1]) ++ [(blocks[k]'e1).2.2]) : Nat) : Int))] (Ent.cons (t := 3) rfl (Ent.cons (t := 9) rfl (Ent.cons (t := 10) rfl (Ent.cons (t := 11) rfl (Ent.cons (t := 15) rfl (Ent.cons (t := 16) rfl (Ent.nil _))))))) (Sub.keep 0 rfl (Sub.keep 0 rfl (Sub.nil _))) ?_ ?_
        · skip
          refine V.condD rfl (fun c4 => ?_) (fun c4 => ?_)
          · skip
            refine V.region ?_
            refine O.p rfl rfl rfl (Pu.move rfl rfl) ?_
            refine O.p rfl rfl rfl (Pu.add64 (r := (((dist ((((blocks.take k).flatMap bl) ++ [(blocks[k]'e1).1]) ++ [(blocks[k]'e1).2.1])) + 1 : Nat) : Int)) rfl (by omega) rfl rfl rfl) ?_
            refine O.p rfl rfl rfl (Pu.assign rfl rfl) ?_
            refine O.nil ?_
            exact X.cut (Ent.cons' rfl (iv (by rw [dist_snoc ((((blocks.take k).flatMap bl) ++ [(blocks[k]'e1).1]) ++ [(blocks[k]'e1).2.1]) (by omega) (by omega), if_pos ((cnt_one ((((blocks.take k).flatMap bl) ++ [(blocks[k]'e1).1]) ++ [(blocks[k]'e1).2.1]) (by omega) (by omega)).1 c4)])) (Ent.nil _)) (Ent.cons (t := 3) rfl (Ent.cons (t := 9) rfl (Ent.cons (t := 10) rfl (Ent.cons (t := 11) rfl (Ent.cons (t := 15) rfl (Ent.cons (t := 16) rfl (Ent.nil _))))))) (Sub.keep 0 rfl (Sub.keep 0 rfl (Sub.nil _)))
          · skip
            refine V.skip ?_
            exact X.cut (Ent.cons' rfl (iv (by rw [dist_snoc ((((blocks.take k).flatMap bl) ++ [(blocks[k]'e1).1]) ++ [(blocks[k]'e1).2.1]) (by omega) (by omega), if_neg (fun h => c4 ((cnt_one ((((blocks.take k).flatMap bl) ++ [(blocks[k]'e1).1]) ++ [(blocks[k]'e1).2.1]) (by omega) (by omega)).2 h)), Nat.add_zero])) (Ent.nil _)) (Ent.cons (t := 3) rfl (Ent.cons (t := 9) rfl (Ent.cons (t := 10) rfl (Ent.cons (t := 11) rfl (Ent.cons (t := 15) rfl (Ent.cons (t := 16) rfl (Ent.nil _))))))) (Sub.keep 0 rfl (Sub.keep 0 rfl (Sub.nil _)))
        · skip
          refine X.blockNormal ?_
          refine X.next ?_
          refine V.region ?_
          refine O.p rfl rfl rfl (Pu.add64 (r := 3) (by decide) (by decide) rfl rfl rfl) ?_
          refine O.p rfl rfl rfl (Pu.move rfl rfl) ?_
          refine O.nil ?_
          refine X.again 0 ?_
          refine V.seq ?_
          refine V.region ?_
          refine O.p rfl rfl rfl (Pu.isF (by decide) (Pu.lss rfl rfl rfl)) ?_
          refine O.nil ?_
          refine X.next ?_
          refine V.seq ?_
          refine V.condF rfl ?_
          refine V.exit ?_
          refine X.thenExit ?_
          refine X.thenExit ?_
          refine X.blockHit ?_
          refine X.blockNormal ?_
          refine X.next ?_
          refine V.region ?_
          refine O.p rfl rfl rfl (Pu.add64 (r := ((k + 1 : Nat) : Int)) rfl (by omega) rfl rfl rfl) ?_
          refine O.p rfl rfl rfl (Pu.move rfl rfl) ?_
          refine O.nil ?_
          exact X.back2 ((dist (((((blocks.take k).flatMap bl) ++ [(blocks[k]'e1).1]) ++ [(blocks[k]'e1).2.1]) ++ [(blocks[k]'e1).2.2])), k + 1, (cntA (((((blocks.take k).flatMap bl) ++ [(blocks[k]'e1).1]) ++ [(blocks[k]'e1).2.1]) ++ [(blocks[k]'e1).2.2]))) (by (try dsimp only); exact ⟨by omega, by rw [flat_snoc _ e1], by rw [flat_snoc _ e1]⟩) (by first | omega | (dsimp only; omega)) (Ent.cons rfl (Ent.cons rfl (Ent.nil _))) (Ent.cons (t := 3) rfl (Ent.cons (t := 9) rfl (Ent.cons (t := 10) rfl (Ent.nil _)))) (Sub.keep 1 rfl (Sub.nil _))
  · skip
    refine V.exit ?_
    refine X.thenExit ?_
    refine X.thenExit ?_
    refine X.blockHit ?_
    refine X.next ?_
    refine V.seq ?_
    refine V.region ?_
    refine O.p rfl rfl rfl (Pu.move rfl rfl) ?_
    refine O.p rfl rfl rfl (Pu.eql rfl rfl rfl) ?_
    refine O.p rfl rfl rfl (Pu.move rfl rfl) ?_
    refine O.splitD 34 rfl (fun c5 => ?_) (fun c5 => ?_)
    · skip
      refine O.gp rfl rfl rfl rfl rfl (Pu.slicePtr rfl Tryz.underlying179 sz3 rfl) ?_
      refine O.ge rfl rfl rfl rfl rfl (Ef.callP call221 rfl rfl (fun w hw => containsFuncG_ok (fun n => 2 < n) 222 _ (cntA ((blocks.take k).flatMap bl)) _ _ w call222 ((Ld.arr 0 rfl rfl) w hw) (by rw [cntA_len]; omega) (fun k hk w' hb => isPasch1_ok _ w'))) ?_
      rintro _ _ ⟨rfl, rfl⟩
      refine O.gp rfl rfl rfl rfl rfl (Pu.not rfl rfl) ?_
      refine O.p rfl rfl rfl (Pu.pickT rfl rfl rfl) ?_
      refine O.p rfl rfl rfl (Pu.assign rfl rfl) ?_
      refine O.nil ?_
      refine X.next ?_
      refine V.ret ?_
      refine X.ret1 rfl rfl ?_
      exact fun w hw => St.retP ((by rw [← decide_not]; try exact boolD (by have e : k = blocks.length := (by omega); subst e; simp only [List.take_length] at *; have h := six_iff (flat_pts hg) (by rw [flat_len]; omega); exact ⟨fun h2 => h.1 ⟨by omega, h2⟩, fun h2 => (h.2 h2).2⟩))) hw
    · skip
      refine O.gs rfl rfl rfl rfl rfl rfl ?_
      refine O.gs rfl rfl rfl rfl rfl rfl ?_
      refine O.gs rfl rfl rfl rfl rfl rfl ?_
      refine O.p rfl rfl rfl (Pu.pickF rfl rfl rfl) ?_
      refine O.p rfl rfl rfl (Pu.assign rfl rfl) ?_
      refine O.nil ?_
      refine X.next ?_
      refine V.ret ?_
      refine X.ret1 rfl rfl ?_
      exact fun w hw => St.retP (boolF (by have e : k = blocks.length := (by omega); subst e; simp only [List.take_length] at *; have h := six_iff (flat_pts hg) (by rw [flat_len]; omega); exact fun h2 => c5 (by have := (h.2 h2).1; omega))) hw
set_option maxRecDepth 100000 in
set_option maxHeartbeats 1000000 in
theorem paschs_ok (v : Int) (bs : List B3) (A : Option Addr) (c : Nat) (w : World) (hx : Rd B3C w A bs) (lx : bs.length ≤ 4611686018427387904) (hS : STS v bs) : Does Tryz.prog 78 [.agg #[.int .i64 v, .slice A bs.length c]] w [] (fun r => [.exi fun (pA : Option Addr) => .exi fun (pc : Nat) => .exi fun (p : List (Sl × List Int)) => .sep (.pur (r = .slice pA (tops p).length pc ∧ IsList (PQ bs) (conts p) ∧ p.length ≤ 1500625)) (.sep (Own 34 SlC pA pc (tops p)) (RowsA 2 I64 p))]) := by
  refine Does.enter Tryz.func78 rfl rfl [(0, .agg #[.int .i64 v, .slice A bs.length c])] rfl ?_
  have hfew := hS.few
  have hg : ∀ b ∈ bs, good 15 b := fun b h => (hS.good b h).mono hS.hi
  refine V.seq ?_
  refine V.region ?_
  refine O.e rfl rfl rfl (Ef.box rfl rfl rfl) ?_
  rintro _ _ ⟨b1, rfl, rfl⟩
  refine O.p rfl rfl rfl (Pu.assign rfl rfl) ?_
  refine O.nil ?_
  refine X.next ?_
  refine V.seq ?_
  refine V.region ?_
  refine O.p rfl rfl rfl (Pu.assign rfl rfl) ?_
  refine O.nil ?_
  refine X.next ?_
  refine V.seq ?_
  refine V.region ?_
  refine O.p rfl rfl rfl (Pu.fieldAddr 1 rfl Tryz.underlying26 rfl sz24 rfl rfl) ?_
  refine O.p rfl rfl rfl (Pu.load rfl pl24 rfl (Ld.blk 0 rfl rfl)) ?_
  refine O.p rfl rfl rfl (Pu.assign rfl rfl) ?_
  refine O.nil ?_
  refine X.next ?_
  refine V.seq ?_
  refine V.seq ?_
  refine V.region ?_
  refine O.p rfl rfl rfl (Pu.move rfl rfl) ?_
  refine O.p rfl rfl rfl (Pu.len rfl Tryz.underlying24 rfl) ?_
  refine O.p rfl rfl rfl (Pu.move rfl rfl) ?_
  refine O.nil ?_
  refine X.next ?_
  refine V.block ?_
  refine V.map (fun w hw => St.addNil (T := 34) (C := SlC) (RowsA.nil (T := 2) (C := I64) hw)) ?_
  refine V.loop3 (β := (Option Addr) × Nat × (List (Sl × List Int)) × Nat) (fun x => [(3, .slice x.1 (tops x.2.2.1).length x.2.1), (13, .int .i64 (x.2.2.2 : Int))]) _ (fun x => [Own 34 SlC x.1 x.2.1 (tops x.2.2.1), RowsA 2 I64 x.2.2.1]) _ (fun x => x.2.2.2 ≤ bs.length ∧ IsList (PreB (PQ bs) [] x.2.2.2) (conts x.2.2.1) ∧ x.2.2.1.length ≤ x.2.2.2 * 42875) (fun x => bs.length - x.2.2.2) (none, 0, [], 0) (by (try dsimp only); exact ⟨by omega, pas0, by simp⟩) (Ent.cons rfl (Ent.cons rfl (Ent.nil _))) (Ent.cons (t := 4) rfl (Ent.cons (t := 12) rfl (Ent.nil _))) (Sub.keep 0 rfl (Sub.keep 0 rfl (Sub.keep 0 rfl (Sub.nil _)))) ?_
  rintro ⟨outA, outc, out, i⟩ ⟨hi, g0, b0⟩
  dsimp only at hi g0 b0 ⊢
  refine V.fact (RowsA.len 1 rfl) (fun hn_out => ?_)
  have htl_out := tops_len out
  refine V.seq ?_
  refine V.region ?_
  refine O.p rfl rfl rfl (Pu.lss rfl rfl rfl) ?_
  refine O.nil ?_
  refine X.next ?_
  refine V.seq ?_
  refine V.condD rfl (fun c1 => ?_) (fun c1 => ?_)
  · skip
    refine V.skip ?_
    refine X.next ?_
    refine V.seq ?_
    refine V.block ?_
    refine V.seq ?_
    refine V.region ?_
    refine O.p rfl rfl rfl (Pu.move rfl rfl) ?_
    refine O.p rfl rfl rfl (Pu.assign rfl rfl) ?_
    refine O.nil ?_
    refine X.next ?_
    refine V.seq ?_
    refine V.region ?_
    refine O.p rfl rfl rfl (Pu.move rfl rfl) ?_
    refine O.p rfl rfl rfl (Pu.add64 (r := ((i + 1 : Nat) : Int)) rfl (by omega) rfl rfl rfl) ?_
    refine O.p rfl rfl rfl (Pu.assign rfl rfl) ?_
    refine O.nil ?_
    refine X.next ?_
    refine V.block ?_
    refine V.loop3 (β := (Option Addr) × Nat × (List (Sl × List Int)) × Nat) (fun x => [(3, .slice x.1 (tops x.2.2.1).length x.2.1), (6, .int .i64 (x.2.2.2 : Int))]) _ (fun x => [Own 34 SlC x.1 x.2.1 (tops x.2.2.1), RowsA 2 I64 x.2.2.1]) _ (fun x => i < x.2.2.2 ∧ x.2.2.2 ≤ bs.length ∧ (∃ ls, conts x.2.2.1 = conts out ++ ls ∧ IsList (PreB (PQ bs) [(i : Int)] x.2.2.2) ls) ∧ x.2.2.1.length ≤ i * 42875 + x.2.2.2 * 1225) (fun x => bs.length - x.2.2.2) (outA, outc, out, i + 1) (by (try dsimp only); exact ⟨by omega, by omega, ⟨[], by simp, pas1⟩, by omega⟩) (Ent.cons rfl (Ent.cons rfl (Ent.nil _))) (Ent.cons (t := 4) rfl (Ent.cons (t := 5) rfl (Ent.cons (t := 12) rfl (Ent.cons (t := 13) rfl (Ent.nil _))))) (Sub.keep 0 rfl (Sub.keep 0 rfl (Sub.keep 0 rfl (Sub.nil _)))) ?_
    rintro ⟨o1A, o1c, o1, j⟩ ⟨hij, hj, ⟨ls1, q1, g1⟩, b1⟩
    dsimp only at hij hj ls1 q1 g1 b1 ⊢
    refine V.fact (RowsA.len 1 rfl) (fun hn_o1 => ?_)
    have htl_o1 := tops_len o1
    refine V.seq ?_
    refine V.seq ?_
    refine V.region ?_
    refine O.p rfl rfl rfl (Pu.move rfl rfl) ?_
    refine O.p rfl rfl rfl (Pu.move rfl rfl) ?_
    refine O.p rfl rfl rfl (Pu.len rfl Tryz.underlying24 rfl) ?_
    refine O.p rfl rfl rfl (Pu.lss rfl rfl rfl) ?_
    refine O.nil ?_
    refine X.next ?_
    refine V.condD rfl (fun c2 => ?_) (fun c2 => ?_)
    · skip
      refine V.skip ?_
      refine X.next ?_
      refine V.seq ?_
      refine V.block ?_
      refine V.seq ?_
      refine V.seq ?_
      refine V.draw mo (by kernel_rfl) (fun hwf => ?_)
      refine D.p 0 rfl rfl rfl rfl rfl rfl (Pu.move rfl rfl) ?_
      refine D.p 1 rfl rfl rfl rfl rfl rfl (Pu.move rfl rfl) ?_
      refine D.p 2 rfl rfl rfl rfl rfl rfl (Pu.indexAddr (i) rfl Tryz.underlying24 sz51 rfl rfl (by omega) (by omega) (hx.some (by omega))) ?_
      have e1 : i < bs.length := by omega
      refine D.p 3 rfl rfl rfl rfl rfl rfl (Pu.loadAgg' (v := B3.v (bs[i]'e1)) rfl rfl ag51 sz51 rfl rfl (Ld.rds (Ld.old hx) (k := i) e1 rfl)) ?_
      refine D.p 4 rfl rfl rfl rfl rfl rfl (Pu.move rfl rfl) ?_
      refine D.p 5 rfl rfl rfl rfl rfl rfl (Pu.move rfl rfl) ?_
      refine D.p 6 rfl rfl rfl rfl rfl rfl (Pu.indexAddr (j) rfl Tryz.underlying24 sz51 rfl rfl (by omega) (by omega) (hx.some (by omega))) ?_
      have e2 : j < bs.length := by omega
      refine D.p 7 rfl rfl rfl rfl rfl rfl (Pu.loadAgg' (v := B3.v (bs[j]'e2)) rfl rfl ag51 sz51 rfl rfl (Ld.rds (Ld.old hx) (k := j) e2 rfl)) ?_
      refine D.eff hwf (e := 8) rfl rfl rfl rfl (Ef.callP call163 rfl rfl (fun w hw => meets_ok (bs[i]'e1) (bs[j]'e2) w)) rfl rfl rfl ?_
      rintro _ _ ⟨rfl, rfl⟩ hs
      refine ⟨fun w hw => hw, ?_⟩
      refine D.p 9 rfl rfl rfl rfl rfl rfl (Pu.not rfl rfl) ?_
      refine D.done hwf rfl ?_
      refine X.next ?_
      refine V.condNot rfl (fun c3 => ?_) (fun c3 => ?_)
      · skip
        refine V.exit ?_
        refine X.thenExit ?_
        refine X.blockHit ?_
        refine X.next ?_
        refine V.region ?_
        refine O.p rfl rfl rfl (Pu.move rfl rfl) ?_
        refine O.p rfl rfl rfl (Pu.add64 (r := ((j + 1 : Nat) : Int)) rfl (by omega) rfl rfl rfl) ?_
        refine O.p rfl rfl rfl (Pu.assign rfl rfl) ?_
        refine O.nil ?_
        exact X.back3 (o1A, o1c, o1, j + 1) (by (try dsimp only); exact ⟨by omega, by omega, ⟨ls1, q1, pas_skip1 hS hij (by omega) c3 g1⟩, by omega⟩) (by first | omega | (dsimp only; omega)) (Ent.cons' rfl (by first | rfl | (simp only [tops_append]; done) | (simp only [tops_append]; rfl)) (Ent.cons rfl (Ent.nil _))) (Ent.cons (t := 4) rfl (Ent.cons (t := 5) rfl (Ent.cons (t := 12) rfl (Ent.cons (t := 13) rfl (Ent.nil _))))) (Sub.keep 0 rfl (Sub.keep 0 rfl (Sub.keep 0 rfl (Sub.nil _))))
      · skip
        refine V.skip ?_
        refine X.next ?_
        refine V.seq ?_
        refine V.region ?_
        refine O.p rfl rfl rfl (Pu.move rfl rfl) ?_
        refine O.p rfl rfl rfl (Pu.add64 (r := ((j + 1 : Nat) : Int)) rfl (by omega) rfl rfl rfl) ?_
        refine O.p rfl rfl rfl (Pu.assign rfl rfl) ?_
        refine O.nil ?_
        refine X.next ?_
        refine V.block ?_
        refine V.loop3 (β := (Option Addr) × Nat × (List (Sl × List Int)) × Nat) (fun x => [(3, .slice x.1 (tops x.2.2.1).length x.2.1), (7, .int .i64 (x.2.2.2 : Int))]) _ (fun x => [Own 34 SlC x.1 x.2.1 (tops x.2.2.1), RowsA 2 I64 x.2.2.1]) _ (fun x => j < x.2.2.2 ∧ x.2.2.2 ≤ bs.length ∧ (∃ ls, conts x.2.2.1 = conts o1 ++ ls ∧ IsList (PreB (PQ bs) [(i : Int), (j : Int)] x.2.2.2) ls) ∧ x.2.2.1.length ≤ i * 42875 + j * 1225 + x.2.2.2 * 35) (fun x => bs.length - x.2.2.2) (o1A, o1c, o1, j + 1) (by (try dsimp only); exact ⟨by omega, by omega, ⟨[], by simp, pas2⟩, by omega⟩) (Ent.cons rfl (Ent.cons rfl (Ent.nil _))) (Ent.cons (t := 4) rfl (Ent.cons (t := 5) rfl (Ent.cons (t := 6) rfl (Ent.cons (t := 12) rfl (Ent.cons (t := 13) rfl (Ent.nil _)))))) (Sub.keep 0 rfl (Sub.keep 0 rfl (Sub.keep 0 rfl (Sub.nil _)))) ?_
        rintro ⟨o2A, o2c, o2, k⟩ ⟨hjk, hk, ⟨ls2, q2, g2⟩, b2⟩
        dsimp only at hjk hk ls2 q2 g2 b2 ⊢
        refine V.fact (RowsA.len 1 rfl) (fun hn_o2 => ?_)
        have htl_o2 := tops_len o2
        refine V.seq ?_
        refine V.seq ?_
        refine V.region ?_
        refine O.p rfl rfl rfl (Pu.move rfl rfl) ?_
        refine O.p rfl rfl rfl (Pu.move rfl rfl) ?_
        refine O.p rfl rfl rfl (Pu.len rfl Tryz.underlying24 rfl) ?_
        refine O.p rfl rfl rfl (Pu.lss rfl rfl rfl) ?_
        refine O.nil ?_
        refine X.next ?_
        refine V.condD rfl (fun c4 => ?_) (fun c4 => ?_)
        · skip
          refine V.skip ?_
          refine X.next ?_
          refine V.seq ?_
          refine V.block ?_
          refine V.seq ?_
          refine V.seq ?_
          refine V.draw mo (by kernel_rfl) (fun hwf => ?_)
          refine D.p 0 rfl rfl rfl rfl rfl rfl (Pu.move rfl rfl) ?_
          refine D.p 1 rfl rfl rfl rfl rfl rfl (Pu.move rfl rfl) ?_
          refine D.p 2 rfl rfl rfl rfl rfl rfl (Pu.indexAddr (i) rfl Tryz.underlying24 sz51 rfl rfl (by omega) (by omega) (hx.some (by omega))) ?_
          refine D.p 3 rfl rfl rfl rfl rfl rfl (Pu.loadAgg' (v := B3.v (bs[i]'e1)) rfl rfl ag51 sz51 rfl rfl (Ld.rds (Ld.old hx) (k := i) e1 rfl)) ?_
          refine D.p 4 rfl rfl rfl rfl rfl rfl (Pu.move rfl rfl) ?_
          refine D.p 5 rfl rfl rfl rfl rfl rfl (Pu.move rfl rfl) ?_
          refine D.p 6 rfl rfl rfl rfl rfl rfl (Pu.indexAddr (k) rfl Tryz.underlying24 sz51 rfl rfl (by omega) (by omega) (hx.some (by omega))) ?_
          have e3 : k < bs.length := by omega
          refine D.p 7 rfl rfl rfl rfl rfl rfl (Pu.loadAgg' (v := B3.v (bs[k]'e3)) rfl rfl ag51 sz51 rfl rfl (Ld.rds (Ld.old hx) (k := k) e3 rfl)) ?_
          refine D.eff hwf (e := 8) rfl rfl rfl rfl (Ef.callP call163 rfl rfl (fun w hw => meets_ok (bs[i]'e1) (bs[k]'e3) w)) rfl rfl rfl ?_
          rintro _ _ ⟨rfl, rfl⟩ hs
          refine ⟨fun w hw => hw, ?_⟩
          refine D.p 9 rfl rfl rfl rfl rfl rfl (Pu.not rfl rfl) ?_
          refine D.p 10 rfl rfl rfl rfl rfl rfl (Pu.move rfl rfl) ?_
          refine D.splitN 52 rfl (fun c5 => ?_) (fun c5 => ?_)
          · skip
            refine D.gs 11 rfl rfl rfl rfl rfl rfl rfl rfl rfl ?_
            refine D.gs 12 rfl rfl rfl rfl rfl rfl rfl rfl rfl ?_
            refine D.gs 13 rfl rfl rfl rfl rfl rfl rfl rfl rfl ?_
            refine D.gs 14 rfl rfl rfl rfl rfl rfl rfl rfl rfl ?_
            refine D.gs 15 rfl rfl rfl rfl rfl rfl rfl rfl rfl ?_
            refine D.gs 16 rfl rfl rfl rfl rfl rfl rfl rfl rfl ?_
            refine D.gs 17 rfl rfl rfl rfl rfl rfl rfl rfl rfl ?_
            refine D.gs 18 rfl rfl rfl rfl rfl rfl rfl rfl rfl ?_
            refine D.gs 19 rfl rfl rfl rfl rfl rfl rfl rfl rfl ?_
            refine D.gs 20 rfl rfl rfl rfl rfl rfl rfl rfl rfl ?_
            refine D.p 21 rfl rfl rfl rfl rfl rfl (Pu.pickT rfl rfl rfl) ?_
            refine D.done hwf rfl ?_
            refine X.next ?_
            refine V.condT rfl ?_
            refine V.exit ?_
            refine X.thenExit ?_
            refine X.blockHit ?_
            refine X.next ?_
            refine V.region ?_
            refine O.p rfl rfl rfl (Pu.move rfl rfl) ?_
            refine O.p rfl rfl rfl (Pu.add64 (r := ((k + 1 : Nat) : Int)) rfl (by omega) rfl rfl rfl) ?_
            refine O.p rfl rfl rfl (Pu.assign rfl rfl) ?_
            refine O.nil ?_
            exact X.back3 (o2A, o2c, o2, k + 1) (by (try dsimp only); exact ⟨by omega, by omega, ⟨ls2, q2, pas_skip2 hS hij hjk (by omega) (.inl c5) g2⟩, by omega⟩) (by first | omega | (dsimp only; omega)) (Ent.cons' rfl (by first | rfl | (simp only [tops_append]; done) | (simp only [tops_append]; rfl)) (Ent.cons rfl (Ent.nil _))) (Ent.cons (t := 4) rfl (Ent.cons (t := 5) rfl (Ent.cons (t := 6) rfl (Ent.cons (t := 12) rfl (Ent.cons (t := 13) rfl (Ent.nil _)))))) (Sub.keep 0 rfl (Sub.keep 0 rfl (Sub.keep 0 rfl (Sub.nil _))))
          · skip
            refine D.gp 11 rfl rfl rfl rfl rfl rfl rfl rfl (Pu.move rfl rfl) ?_
            refine D.gp 12 rfl rfl rfl rfl rfl rfl rfl rfl (Pu.move rfl rfl) ?_
            refine D.gp 13 rfl rfl rfl rfl rfl rfl rfl rfl (Pu.indexAddr (j) rfl Tryz.underlying24 sz51 rfl rfl (by omega) (by omega) (hx.some (by omega))) ?_
            refine D.gp 14 rfl rfl rfl rfl rfl rfl rfl rfl (Pu.loadAgg' (v := B3.v (bs[j]'e2)) rfl rfl ag51 sz51 rfl rfl (Ld.rds (Ld.old hx) (k := j) e2 rfl)) ?_
            refine D.gp 15 rfl rfl rfl rfl rfl rfl rfl rfl (Pu.move rfl rfl) ?_
            refine D.gp 16 rfl rfl rfl rfl rfl rfl rfl rfl (Pu.move rfl rfl) ?_
            refine D.gp 17 rfl rfl rfl rfl rfl rfl rfl rfl (Pu.indexAddr (k) rfl Tryz.underlying24 sz51 rfl rfl (by omega) (by omega) (hx.some (by omega))) ?_
            refine D.gp 18 rfl rfl rfl rfl rfl rfl rfl rfl (Pu.loadAgg' (v := B3.v (bs[k]'e3)) rfl rfl ag51 sz51 rfl rfl (Ld.rds (Ld.old hx) (k := k) e3 rfl)) ?_
            refine D.geff hwf (e := 19) rfl rfl rfl rfl rfl rfl (Ef.callP call163 rfl rfl (fun w hw => meets_ok (bs[j]'e2) (bs[k]'e3) w)) rfl rfl rfl ?_
            rintro _ _ ⟨rfl, rfl⟩ hs
            refine ⟨fun w hw => hw, ?_⟩
            refine D.gp 20 rfl rfl rfl rfl rfl rfl rfl rfl (Pu.not rfl rfl) ?_
            refine D.p 21 rfl rfl rfl rfl rfl rfl (Pu.pickF rfl rfl rfl) ?_
            refine D.done hwf rfl ?_
            refine X.next ?_
            refine V.condNot rfl (fun c6 => ?_) (fun c6 => ?_)
            · skip
              refine V.exit ?_
              refine X.thenExit ?_
              refine X.blockHit ?_
              refine X.next ?_
              refine V.region ?_
              refine O.p rfl rfl rfl (Pu.move rfl rfl) ?_
              refine O.p rfl rfl rfl (Pu.add64 (r := ((k + 1 : Nat) : Int)) rfl (by omega) rfl rfl rfl) ?_
              refine O.p rfl rfl rfl (Pu.assign rfl rfl) ?_
              refine O.nil ?_
              exact X.back3 (o2A, o2c, o2, k + 1) (by (try dsimp only); exact ⟨by omega, by omega, ⟨ls2, q2, pas_skip2 hS hij hjk (by omega) (.inr c6) g2⟩, by omega⟩) (by first | omega | (dsimp only; omega)) (Ent.cons' rfl (by first | rfl | (simp only [tops_append]; done) | (simp only [tops_append]; rfl)) (Ent.cons rfl (Ent.nil _))) (Ent.cons (t := 4) rfl (Ent.cons (t := 5) rfl (Ent.cons (t := 6) rfl (Ent.cons (t := 12) rfl (Ent.cons (t := 13) rfl (Ent.nil _)))))) (Sub.keep 0 rfl (Sub.keep 0 rfl (Sub.keep 0 rfl (Sub.nil _))))
            · skip
              refine V.skip ?_
              refine X.next ?_
              refine V.seq ?_
              refine V.region ?_
              refine O.p rfl rfl rfl (Pu.move rfl rfl) ?_
              refine O.p rfl rfl rfl (Pu.add64 (r := ((k + 1 : Nat) : Int)) rfl (by omega) rfl rfl rfl) ?_
              refine O.p rfl rfl rfl (Pu.assign rfl rfl) ?_
              refine O.nil ?_
              refine X.next ?_
              refine V.block ?_
              refine V.loop3 (β := (Option Addr) × Nat × (List (Sl × List Int)) × Nat) (fun x => [(3, .slice x.1 (tops x.2.2.1).length x.2.1), (8, .int .i64 (x.2.2.2 : Int))]) _ (fun x => [Own 34 SlC x.1 x.2.1 (tops x.2.2.1), RowsA 2 I64 x.2.2.1]) _ (fun x => k < x.2.2.2 ∧ x.2.2.2 ≤ bs.length ∧ (∃ ls, conts x.2.2.1 = conts o2 ++ ls ∧ IsList (PreB (PQ bs) [(i : Int), (j : Int), (k : Int)] x.2.2.2) ls) ∧ x.2.2.1.length ≤ i * 42875 + j * 1225 + k * 35 + x.2.2.2) (fun x => bs.length - x.2.2.2) (o2A, o2c, o2, k + 1) (by (try dsimp only); exact ⟨by omega, by omega, ⟨[], by simp, pas3⟩, by omega⟩) (Ent.cons rfl (Ent.cons rfl (Ent.nil _))) (Ent.cons (t := 4) rfl (Ent.cons (t := 5) rfl (Ent.cons (t := 6) rfl (Ent.cons (t := 7) rfl (Ent.cons (t := 12) rfl (Ent.cons (t := 13) rfl (Ent.nil _))))))) (Sub.keep 0 rfl (Sub.keep 0 rfl (Sub.keep 0 rfl (Sub.nil _)))) ?_
              rintro ⟨o3A, o3c, o3, m⟩ ⟨hkm, hm, ⟨ls3, q3, g3⟩, b3⟩
              dsimp only at hkm hm ls3 q3 g3 b3 ⊢
              refine V.fact (RowsA.len 1 rfl) (fun hn_o3 => ?_)
              have htl_o3 := tops_len o3
              refine V.seq ?_
              refine V.seq ?_
              refine V.region ?_
              refine O.p rfl rfl rfl (Pu.move rfl rfl) ?_
              refine O.p rfl rfl rfl (Pu.move rfl rfl) ?_
              refine O.p rfl rfl rfl (Pu.len rfl Tryz.underlying24 rfl) ?_
              refine O.p rfl rfl rfl (Pu.lss rfl rfl rfl) ?_
              refine O.nil ?_
              refine X.next ?_
              refine V.condD rfl (fun c7 => ?_) (fun c7 => ?_)
              · skip
                refine V.skip ?_
                refine X.next ?_
                refine V.seq ?_
                refine V.block ?_
                refine V.seq ?_
                refine V.draw mo (by kernel_rfl) (fun hwf => ?_)
                refine D.p 0 rfl rfl rfl rfl rfl rfl (Pu.move rfl rfl) ?_
                refine D.p 1 rfl rfl rfl rfl rfl rfl (Pu.move rfl rfl) ?_
                refine D.p 2 rfl rfl rfl rfl rfl rfl (Pu.indexAddr (i) rfl Tryz.underlying24 sz51 rfl rfl (by omega) (by omega) (hx.some (by omega))) ?_
                refine D.p 3 rfl rfl rfl rfl rfl rfl (Pu.loadAgg' (v := B3.v (bs[i]'e1)) rfl rfl ag51 sz51 rfl rfl (Ld.rds (Ld.old hx) (k := i) e1 rfl)) ?_
                refine D.p 4 rfl rfl rfl rfl rfl rfl (Pu.move rfl rfl) ?_
                refine D.p 5 rfl rfl rfl rfl rfl rfl (Pu.move rfl rfl) ?_
                refine D.p 6 rfl rfl rfl rfl rfl rfl (Pu.indexAddr (j) rfl Tryz.underlying24 sz51 rfl rfl (by omega) (by omega) (hx.some (by omega))) ?_
                refine D.p 7 rfl rfl rfl rfl rfl rfl (Pu.loadAgg' (v := B3.v (bs[j]'e2)) rfl rfl ag51 sz51 rfl rfl (Ld.rds (Ld.old hx) (k := j) e2 rfl)) ?_
                refine D.p 8 rfl rfl rfl rfl rfl rfl (Pu.move rfl rfl) ?_
                refine D.p 9 rfl rfl rfl rfl rfl rfl (Pu.move rfl rfl) ?_
                refine D.p 10 rfl rfl rfl rfl rfl rfl (Pu.indexAddr (k) rfl Tryz.underlying24 sz51 rfl rfl (by omega) (by omega) (hx.some (by omega))) ?_
                refine D.p 11 rfl rfl rfl rfl rfl rfl (Pu.loadAgg' (v := B3.v (bs[k]'e3)) rfl rfl ag51 sz51 rfl rfl (Ld.rds (Ld.old hx) (k := k) e3 rfl)) ?_
                refine D.p 12 rfl rfl rfl rfl rfl rfl (Pu.move rfl rfl) ?_
                refine D.p 13 rfl rfl rfl rfl rfl rfl (Pu.move rfl rfl) ?_
                refine D.p 14 rfl rfl rfl rfl rfl rfl (Pu.indexAddr (m) rfl Tryz.underlying24 sz51 rfl rfl (by omega) (by omega) (hx.some (by omega))) ?_
                have e4 : m < bs.length := by omega
                refine D.p 15 rfl rfl rfl rfl rfl rfl (Pu.loadAgg' (v := B3.v (bs[m]'e4)) rfl rfl ag51 sz51 rfl rfl (Ld.rds (Ld.old hx) (k := m) e4 rfl)) ?_
                refine D.eff hwf (e := 16) rfl rfl rfl rfl (Ef.build B3C ([(bs[i]'e1), (bs[j]'e2), (bs[k]'e3), (bs[m]'e4)] : List B3) rfl Tryz.underlying24 inf51 rfl rfl rfl (by first | decide | (simp; done)) (by kernel_rfl)) rfl rfl rfl ?_
                rintro _ _ ⟨A1, hA1, rfl, rfl⟩ hs
                refine ⟨fun w hw => hw.sub (Sub.keep 1 rfl (Sub.keep 1 rfl (Sub.keep 1 rfl (Sub.nil _)))), ?_⟩
                refine D.eff hwf (e := 17) rfl rfl rfl rfl (Ef.callP call164 rfl rfl (fun w hw => isPasch_ok  ([(bs[i]'e1), (bs[j]'e2), (bs[k]'e3), (bs[m]'e4)] : List B3) _ _ w ((Ld.own 0 (by exact rfl)) w hw) (by first | omega | (simp only [tops_len, conts_len, bl, List.length_append, List.length_cons, List.length_nil] at *; omega)) (fun b hb => by simp only [List.mem_cons, List.not_mem_nil, or_false] at hb; rcases hb with rfl | rfl | rfl | rfl <;> exact hg _ (List.getElem_mem _)) (by rfl))) rfl rfl rfl ?_
                rintro _ _ ⟨rfl, rfl⟩ hs
                refine ⟨fun w hw => hw.sub (Sub.keep 1 rfl (Sub.keep 1 rfl (Sub.keep 1 rfl (Sub.nil _)))), ?_⟩
                refine D.done hwf rfl ?_
                refine X.next ?_
                refine V.condD rfl (fun c8 => ?_) (fun c8 => ?_)
                · skip
                  refine V.region ?_
                  refine O.p rfl rfl rfl (Pu.move rfl rfl) ?_
                  refine O.p rfl rfl rfl (Pu.move rfl rfl) ?_
                  refine O.p rfl rfl rfl (Pu.move rfl rfl) ?_
                  refine O.p rfl rfl rfl (Pu.move rfl rfl) ?_
                  refine O.p rfl rfl rfl (Pu.move rfl rfl) ?_
                  refine O.e rfl rfl rfl (Ef.build I64 ([(↑i : Int), (↑j : Int), (↑k : Int), (↑m : Int)] : List Int) rfl Tryz.underlying34 inf2 rfl rfl rfl (by first | decide | (simp; done)) (by kernel_rfl)) ?_
                  rintro _ _ ⟨A2, hA2, rfl, rfl⟩
                  refine O.e rfl rfl rfl (Ef.build SlC ([⟨A2, 4, 4⟩] : List Sl) rfl Tryz.underlying28 inf34 rfl rfl rfl (by first | decide | (simp; done)) (by kernel_rfl)) ?_
                  rintro _ _ ⟨A3, hA3, rfl, rfl⟩
                  refine O.e rfl rfl rfl (Ef.append (xs := (tops o3)) (ys := ([⟨A2, 4, 4⟩] : List Sl)) 3 rfl Tryz.underlying28 inf34 rfl rfl rfl rfl rfl rfl hA3 (Ld.own 0 (by exact rfl)) (by simp only [List.length_append, List.length_cons, List.length_nil] at *; omega) (by decide)) ?_
                  rintro _ _ ⟨A4, k1, rfl, rfl, hA4⟩
                  replace hA4 := hA4 (.inr (by simp))
                  refine O.map (fun w hw => snoc_heap (ps := o3) (xs := ([(↑i : Int), (↑j : Int), (↑k : Int), (↑m : Int)] : List Int)) (hw.sub (Sub.keep 3 rfl (Sub.keep 3 rfl (Sub.keep 1 rfl (Sub.keep 0 rfl (Sub.keep 0 rfl (Sub.keep 0 rfl (Sub.nil _))))))))) ?_
                  refine O.p rfl rfl rfl (Pu.assign rfl rfl) ?_
                  refine O.nil ?_
                  refine X.blockNormal ?_
                  refine X.next ?_
                  refine V.region ?_
                  refine O.p rfl rfl rfl (Pu.move rfl rfl) ?_
                  refine O.p rfl rfl rfl (Pu.add64 (r := ((m + 1 : Nat) : Int)) rfl (by omega) rfl rfl rfl) ?_
                  refine O.p rfl rfl rfl (Pu.assign rfl rfl) ?_
                  refine O.nil ?_
                  exact X.back3 (A4, k1, (o3 ++ [((⟨A2, 4, 4⟩ : Sl), ([(↑i : Int), (↑j : Int), (↑k : Int), (↑m : Int)] : List Int))]), m + 1) (by (try dsimp only); exact ⟨by omega, by omega, ⟨ls3 ++ [[(i : Int), (j : Int), (k : Int), (m : Int)]], by rw [conts_append, q3, List.append_assoc]; rfl, pas_yes hij hjk hkm (by omega) ((pasB_four (hg _ (List.getElem_mem _)) (hg _ (List.getElem_mem _)) (hg _ (List.getElem_mem _)) (hg _ (List.getElem_mem _))).1 c8) g3⟩, by simp only [List.length_append, List.length_singleton]; omega⟩) (by first | omega | (dsimp only; omega)) (Ent.cons' rfl (by first | rfl | (simp only [tops_append]; done) | (simp only [tops_append]; rfl)) (Ent.cons rfl (Ent.nil _))) (Ent.cons (t := 4) rfl (Ent.cons (t := 5) rfl (Ent.cons (t := 6) rfl (Ent.cons (t := 7) rfl (Ent.cons (t := 12) rfl (Ent.cons (t := 13) rfl (Ent.nil _))))))) (Sub.keep 0 rfl (Sub.keep 0 rfl (Sub.keep 2 rfl (Sub.nil _))))
                · skip
                  refine V.skip ?_
                  refine X.blockNormal ?_
                  refine X.next ?_
                  refine V.region ?_
                  refine O.p rfl rfl rfl (Pu.move rfl rfl) ?_
                  refine O.p rfl rfl rfl (Pu.add64 (r := ((m + 1 : Nat) : Int)) rfl (by omega) rfl rfl rfl) ?_
                  refine O.p rfl rfl rfl (Pu.assign rfl rfl) ?_
                  refine O.nil ?_
                  exact X.back3 (o3A, o3c, o3, m + 1) (by (try dsimp only); exact ⟨by omega, by omega, ⟨ls3, q3, pas_no hij hjk hkm (by omega) (fun h => c8 ((pasB_four (hg _ (List.getElem_mem _)) (hg _ (List.getElem_mem _)) (hg _ (List.getElem_mem _)) (hg _ (List.getElem_mem _))).2 h)) g3⟩, by omega⟩) (by first | omega | (dsimp only; omega)) (Ent.cons' rfl (by first | rfl | (simp only [tops_append]; done) | (simp only [tops_append]; rfl)) (Ent.cons rfl (Ent.nil _))) (Ent.cons (t := 4) rfl (Ent.cons (t := 5) rfl (Ent.cons (t := 6) rfl (Ent.cons (t := 7) rfl (Ent.cons (t := 12) rfl (Ent.cons (t := 13) rfl (Ent.nil _))))))) (Sub.keep 1 rfl (Sub.keep 1 rfl (Sub.keep 1 rfl (Sub.nil _))))
              · skip
                refine V.exit ?_
                refine X.thenExit ?_
                refine X.thenExit ?_
                refine X.blockHit ?_
                refine X.blockNormal ?_
                refine X.next ?_
                refine V.region ?_
                refine O.p rfl rfl rfl (Pu.move rfl rfl) ?_
                refine O.p rfl rfl rfl (Pu.add64 (r := ((k + 1 : Nat) : Int)) rfl (by omega) rfl rfl rfl) ?_
                refine O.p rfl rfl rfl (Pu.assign rfl rfl) ?_
                refine O.nil ?_
                exact X.back3 (o3A, o3c, o3, k + 1) (by (try dsimp only); exact ⟨by omega, by omega, ⟨ls2 ++ ls3, by rw [q3, q2, List.append_assoc], preB_step g2 (pas3_all (by omega) g3)⟩, by omega⟩) (by first | omega | (dsimp only; omega)) (Ent.cons' rfl (by first | rfl | (simp only [tops_append]; done) | (simp only [tops_append]; rfl)) (Ent.cons rfl (Ent.nil _))) (Ent.cons (t := 4) rfl (Ent.cons (t := 5) rfl (Ent.cons (t := 6) rfl (Ent.cons (t := 12) rfl (Ent.cons (t := 13) rfl (Ent.nil _)))))) (Sub.keep 0 rfl (Sub.keep 0 rfl (Sub.keep 0 rfl (Sub.nil _))))
        · skip
          refine V.exit ?_
          refine X.thenExit ?_
          refine X.thenExit ?_
          refine X.blockHit ?_
          refine X.blockNormal ?_
          refine X.next ?_
          refine V.region ?_
          refine O.p rfl rfl rfl (Pu.move rfl rfl) ?_
          refine O.p rfl rfl rfl (Pu.add64 (r := ((j + 1 : Nat) : Int)) rfl (by omega) rfl rfl rfl) ?_
          refine O.p rfl rfl rfl (Pu.assign rfl rfl) ?_
          refine O.nil ?_
          exact X.back3 (o2A, o2c, o2, j + 1) (by (try dsimp only); exact ⟨by omega, by omega, ⟨ls1 ++ ls2, by rw [q2, q1, List.append_assoc], preB_step g1 (pas2_all (by omega) g2)⟩, by omega⟩) (by first | omega | (dsimp only; omega)) (Ent.cons' rfl (by first | rfl | (simp only [tops_append]; done) | (simp only [tops_append]; rfl)) (Ent.cons rfl (Ent.nil _))) (Ent.cons (t := 4) rfl (Ent.cons (t := 5) rfl (Ent.cons (t := 12) rfl (Ent.cons (t := 13) rfl (Ent.nil _))))) (Sub.keep 0 rfl (Sub.keep 0 rfl (Sub.keep 0 rfl (Sub.nil _))))
    · skip
      refine V.exit ?_
      refine X.thenExit ?_
      refine X.thenExit ?_
      refine X.blockHit ?_
      refine X.blockNormal ?_
      refine X.next ?_
      refine V.region ?_
      refine O.p rfl rfl rfl (Pu.add64 (r := ((i + 1 : Nat) : Int)) rfl (by omega) rfl rfl rfl) ?_
      refine O.p rfl rfl rfl (Pu.move rfl rfl) ?_
      refine O.nil ?_
      exact X.back3 (o1A, o1c, o1, i + 1) (by (try dsimp only); exact ⟨by omega, by rw [q1]; exact preB_step g0 (pas1_all (by omega) g1), by omega⟩) (by first | omega | (dsimp only; omega)) (Ent.cons' rfl (by first | rfl | (simp only [tops_append]; done) | (simp only [tops_append]; rfl)) (Ent.cons rfl (Ent.nil _))) (Ent.cons (t := 4) rfl (Ent.cons (t := 12) rfl (Ent.nil _))) (Sub.keep 0 rfl (Sub.keep 0 rfl (Sub.keep 0 rfl (Sub.nil _))))
  · skip
    refine V.exit ?_
    refine X.thenExit ?_
    refine X.thenExit ?_
    refine X.blockHit ?_
    refine X.next ?_
    refine V.seq ?_
    refine V.region ?_
    refine O.p rfl rfl rfl (Pu.move rfl rfl) ?_
    refine O.p rfl rfl rfl (Pu.assign rfl rfl) ?_
    refine O.nil ?_
    refine X.next ?_
    refine V.ret ?_
    refine X.ret1 rfl rfl ?_
    exact fun w hw => St.mkExi outA (St.mkExi outc (St.mkExi out (St.unsep (St.addPur ⟨(by first | rfl | (simp only [tops_append]; done) | (simp only [tops_append]; rfl)), pas0_all (by omega) g0, by omega⟩ (St.unsep (hw.sub (Sub.keep 0 rfl (Sub.keep 0 rfl (Sub.nil _)))))))))
set_option maxRecDepth 100000 in
set_option maxHeartbeats 1000000 in
theorem implPaschList_ok (v : Int) (bs : List B3) (A : Option Addr) (c : Nat) (w : World) (hx : Rd B3C w A bs) (lx : bs.length ≤ 4611686018427387904) : Does Tryz.prog 9 [.agg #[.int .i64 v, .slice A bs.length c]] w [] (fun r => [.exi fun (pA : Option Addr) => .exi fun (pc : Nat) => .exi fun (p : List (Sl × List Int)) => .sep (.pur (r = .tuple #[.slice pA (tops p).length pc, .int .i64 (if STS v bs then 0 else 1)] ∧ ResL (STS v bs) (PQ bs) (conts p) ∧ p.length ≤ 1500625)) (.sep (Own 34 SlC pA pc (tops p)) (RowsA 2 I64 p))]) := by
  refine Does.enter Tryz.func9 rfl rfl [(0, .agg #[.int .i64 v, .slice A bs.length c])] rfl ?_
  refine V.seq ?_
  refine V.region ?_
  refine O.e rfl rfl rfl (Ef.box rfl rfl rfl) ?_
  rintro _ _ ⟨b1, rfl, rfl⟩
  refine O.p rfl rfl rfl (Pu.assign rfl rfl) ?_
  refine O.p rfl rfl rfl (Pu.assign rfl rfl) ?_
  refine O.nil ?_
  refine X.next ?_
  refine V.seq ?_
  refine V.seq ?_
  refine V.region ?_
  refine O.p rfl rfl rfl (Pu.loadAgg rfl ag26 sz26 rfl rfl (Ld.whole 0 rfl)) ?_
  refine O.e rfl rfl rfl (Ef.callP call77 rfl rfl (fun w hw => IsSystem_ok _ bs _ _ w ((Ld.old hx) w hw) (by omega))) ?_
  rintro _ _ ⟨rfl, rfl⟩
  refine O.p rfl rfl rfl (Pu.not rfl rfl) ?_
  refine O.nil ?_
  refine X.next ?_
  refine V.condNot rfl (fun c1 => ?_) (fun c1 => ?_)
  · skip
    refine V.seq ?_
    refine V.region ?_
    refine O.p rfl rfl rfl (Pu.assign rfl rfl) ?_
    refine O.p rfl rfl rfl (Pu.assign rfl rfl) ?_
    refine O.nil ?_
    refine X.next ?_
    refine V.ret ?_
    refine X.thenRet ?_
    refine X.ret2 rfl rfl rfl ?_
    exact fun w hw => St.mkExi none (St.mkExi 0 (St.mkExi [] (St.unsep (St.addPur ⟨by rw [if_neg c1]; rfl, ⟨fun h => absurd h c1, fun _ => rfl⟩, by simp⟩ (St.unsep (St.addNil (T := 34) (C := SlC) (RowsA.nil (T := 2) (C := I64) (hw.sub (Sub.nil _)))))))))
  · skip
    refine V.skip ?_
    refine X.next ?_
    refine V.seq ?_
    refine V.region ?_
    refine O.p rfl rfl rfl (Pu.loadAgg rfl ag26 sz26 rfl rfl (Ld.whole 0 rfl)) ?_
    refine O.e rfl rfl rfl (Ef.call1 call78 rfl rfl (fun w hw => paschs_ok  v bs _ _ w ((Ld.old hx) w hw) (by first | omega | (simp only [tops_len, conts_len, bl, List.length_append, List.length_cons, List.length_nil] at *; omega)) (by first | assumption | omega | (try dsimp only at *; omega)))) ?_
    rintro _ _ rfl
    refine O.exi (fun p1A => ?_)
    refine O.exi (fun p1c => ?_)
    refine O.exi (fun p1 => ?_)
    refine O.sep ?_
    refine O.pur ?_
    rintro ⟨rfl, hp1_1, hp1_2⟩
    refine O.sep ?_
    refine O.fact (RowsA.len 1 rfl) (fun hn_p1 => ?_)
    have htl_p1 := tops_len p1
    refine O.p rfl rfl rfl (Pu.assign rfl rfl) ?_
    refine O.p rfl rfl rfl (Pu.assign rfl rfl) ?_
    refine O.nil ?_
    refine X.next ?_
    refine V.ret ?_
    refine X.ret2 rfl rfl rfl ?_
    exact fun w hw => St.mkExi p1A (St.mkExi p1c (St.mkExi p1 (St.unsep (St.addPur ⟨by rw [if_pos c1], ⟨fun _ => hp1_1, fun h => absurd c1 h⟩, hp1_2⟩ (St.unsep (hw.sub (Sub.keep 0 rfl (Sub.keep 0 rfl (Sub.nil _)))))))))
set_option maxRecDepth 100000 in
set_option maxHeartbeats 1000000 in
theorem l03Meet_ok (a : B3) (b : B3) (w : World) : Does Tryz.prog 168 [B3.v a, B3.v b] w [] (fun r => [.pur (r = .int .i64 (cpt a b))]) := by
  refine Does.enter Tryz.func168 rfl rfl [(0, B3.v a), (1, B3.v b)] rfl ?_
  refine V.seq ?_
  refine V.region ?_
  refine O.e rfl rfl rfl (Ef.box rfl rfl rfl) ?_
  rintro _ _ ⟨b1, rfl, rfl⟩
  refine O.e rfl rfl rfl (Ef.box rfl rfl rfl) ?_
  rintro _ _ ⟨b2, rfl, rfl⟩
  refine O.p rfl rfl rfl (Pu.assign rfl rfl) ?_
  refine O.nil ?_
  refine X.next ?_
  refine V.seq ?_
  refine V.seq ?_
  refine V.region ?_
  refine O.p rfl rfl rfl (Pu.assign rfl rfl) ?_
  refine O.nil ?_
  refine X.next ?_
  refine V.block ?_
  refine V.unroll 3 ?_
  refine V.seq ?_
  refine V.seq ?_
  refine V.region ?_
  refine O.p rfl rfl rfl (Pu.move rfl rfl) ?_
  refine O.p rfl rfl rfl (Pu.isT (by decide) (Pu.lss rfl rfl rfl)) ?_
  refine O.nil ?_
  refine X.next ?_
  refine V.condT rfl ?_
  refine V.skip ?_
  refine X.next ?_
  refine V.seq ?_
  refine V.block ?_
  refine V.seq ?_
  refine V.draw mo (by kernel_rfl) (fun hwf => ?_)
  refine D.p 0 rfl rfl rfl rfl rfl rfl (Pu.loadAgg' (v := B3.v b) rfl rfl ag51 sz51 rfl rfl (Ld.whole 0 rfl)) ?_
  refine D.p 1 rfl rfl rfl rfl rfl rfl (Pu.move rfl rfl) ?_
  refine D.p 2 rfl rfl rfl rfl rfl rfl (Pu.indexArr 0 0 rfl Tryz.underlying51 sz2 rfl rfl (by decide) (by decide) (by decide)) ?_
  refine D.p 3 rfl rfl rfl rfl rfl rfl (Pu.load rfl pl2 rfl (Ld.blk 1 rfl rfl)) ?_
  refine D.eff hwf (e := 4) rfl rfl rfl rfl (Ef.callP call88 rfl rfl (fun w hw => l01With_ok b _ w)) rfl rfl rfl ?_
  rintro _ _ ⟨rfl, rfl⟩ hs
  refine ⟨fun w hw => hw, ?_⟩
  refine D.done hwf rfl ?_
  refine X.next ?_
  refine V.condD rfl (fun c1 => ?_) (fun c1 => ?_)
  · skip
    refine V.seq ?_
    refine V.region ?_
    refine O.p rfl rfl rfl (Pu.move rfl rfl) ?_
    refine O.p rfl rfl rfl (Pu.indexArr 0 0 rfl Tryz.underlying51 sz2 rfl rfl (by decide) (by decide) (by decide)) ?_
    refine O.p rfl rfl rfl (Pu.load rfl pl2 rfl (Ld.blk 1 rfl rfl)) ?_
    refine O.p rfl rfl rfl (Pu.assign rfl rfl) ?_
    refine O.nil ?_
    refine X.next ?_
    refine V.ret ?_
    refine X.blockRet ?_
    refine X.thenRet ?_
    refine X.thenRet ?_
    refine X.blockRet ?_
    refine X.thenRet ?_
    refine X.ret1 rfl rfl ?_
    exact fun w hw => St.retP (iv (by unfold cpt; rw [if_pos c1])) hw
  · skip
    refine V.skip ?_
    refine X.blockNormal ?_
    refine X.next ?_
    refine V.region ?_
    refine O.p rfl rfl rfl (Pu.move rfl rfl) ?_
    refine O.p rfl rfl rfl (Pu.add64 (r := 1) (by decide) (by decide) rfl rfl rfl) ?_
    refine O.p rfl rfl rfl (Pu.assign rfl rfl) ?_
    refine O.nil ?_
    refine X.again 2 ?_
    refine V.seq ?_
    refine V.seq ?_
    refine V.region ?_
    refine O.p rfl rfl rfl (Pu.move rfl rfl) ?_
    refine O.p rfl rfl rfl (Pu.isT (by decide) (Pu.lss rfl rfl rfl)) ?_
    refine O.nil ?_
    refine X.next ?_
    refine V.condT rfl ?_
    refine V.skip ?_
    refine X.next ?_
    refine V.seq ?_
    refine V.block ?_
    refine V.seq ?_
    refine V.ent (Ent.cons (t := 2) rfl (Ent.cons (t := 3) rfl (Ent.cons (t := 5) rfl (Ent.nil _)))) ?_
    refine V.draw mo (by kernel_rfl) (fun hwf => ?_)
    refine D.p 0 rfl rfl rfl rfl rfl rfl (Pu.loadAgg' (v := B3.v b) rfl rfl ag51 sz51 rfl rfl (Ld.whole 0 rfl)) ?_
    refine D.p 1 rfl rfl rfl rfl rfl rfl (Pu.move rfl rfl) ?_
    refine D.p 2 rfl rfl rfl rfl rfl rfl (Pu.indexArr 1 1 rfl Tryz.underlying51 sz2 rfl rfl (by decide) (by decide) (by decide)) ?_
    refine D.p 3 rfl rfl rfl rfl rfl rfl (Pu.load rfl pl2 rfl (Ld.blk 1 rfl rfl)) ?_
    refine D.eff hwf (e := 4) rfl rfl rfl rfl (Ef.callP call88 rfl rfl (fun w hw => l01With_ok b _ w)) rfl rfl rfl ?_
    rintro _ _ ⟨rfl, rfl⟩ hs
    refine ⟨fun w hw => hw, ?_⟩
    refine D.done hwf rfl ?_
    refine X.next ?_
    refine V.condD rfl (fun c2 => ?_) (fun c2 => ?_)
    · skip
      refine V.seq ?_
      refine V.region ?_
      refine O.p rfl rfl rfl (Pu.move rfl rfl) ?_
      refine O.p rfl rfl rfl (Pu.indexArr 1 1 rfl Tryz.underlying51 sz2 rfl rfl (by decide) (by decide) (by decide)) ?_
      refine O.p rfl rfl rfl (Pu.load rfl pl2 rfl (Ld.blk 1 rfl rfl)) ?_
      refine O.p rfl rfl rfl (Pu.assign rfl rfl) ?_
      refine O.nil ?_
      refine X.next ?_
      refine V.ret ?_
      refine X.blockRet ?_
      refine X.thenRet ?_
      refine X.thenRet ?_
      refine X.blockRet ?_
      refine X.thenRet ?_
      refine X.ret1 rfl rfl ?_
      exact fun w hw => St.retP (iv (by unfold cpt; rw [if_neg c1, if_pos c2])) hw
    · skip
      refine V.skip ?_
      refine X.blockNormal ?_
      refine X.next ?_
      refine V.region ?_
      refine O.p rfl rfl rfl (Pu.move rfl rfl) ?_
      refine O.p rfl rfl rfl (Pu.add64 (r := 2) (by decide) (by decide) rfl rfl rfl) ?_
      refine O.p rfl rfl rfl (Pu.assign rfl rfl) ?_
      refine O.nil ?_
      refine X.again 1 ?_
      refine V.seq ?_
      refine V.seq ?_
      refine V.region ?_
      refine O.p rfl rfl rfl (Pu.move rfl rfl) ?_
      refine O.p rfl rfl rfl (Pu.isT (by decide) (Pu.lss rfl rfl rfl)) ?_
      refine O.nil ?_
      refine X.next ?_
      refine V.condT rfl ?_
      refine V.skip ?_
      refine X.next ?_
      refine V.seq ?_
      refine V.block ?_
      refine V.seq ?_
      refine V.ent (Ent.cons (t := 2) rfl (Ent.cons (t := 3) rfl (Ent.cons (t := 5) rfl (Ent.nil _)))) ?_
      refine V.draw mo (by kernel_rfl) (fun hwf => ?_)
      refine D.p 0 rfl rfl rfl rfl rfl rfl (Pu.loadAgg' (v := B3.v b) rfl rfl ag51 sz51 rfl rfl (Ld.whole 0 rfl)) ?_
      refine D.p 1 rfl rfl rfl rfl rfl rfl (Pu.move rfl rfl) ?_
      refine D.p 2 rfl rfl rfl rfl rfl rfl (Pu.indexArr 2 2 rfl Tryz.underlying51 sz2 rfl rfl (by decide) (by decide) (by decide)) ?_
      refine D.p 3 rfl rfl rfl rfl rfl rfl (Pu.load rfl pl2 rfl (Ld.blk 1 rfl rfl)) ?_
      refine D.eff hwf (e := 4) rfl rfl rfl rfl (Ef.callP call88 rfl rfl (fun w hw => l01With_ok b _ w)) rfl rfl rfl ?_
      rintro _ _ ⟨rfl, rfl⟩ hs
      refine ⟨fun w hw => hw, ?_⟩
      refine D.done hwf rfl ?_
      refine X.next ?_
      refine V.condD rfl (fun c3 => ?_) (fun c3 => ?_)
      · skip
        refine V.seq ?_
        refine V.region ?_
        refine O.p rfl rfl rfl (Pu.move rfl rfl) ?_
        refine O.p rfl rfl rfl (Pu.indexArr 2 2 rfl Tryz.underlying51 sz2 rfl rfl (by decide) (by decide) (by decide)) ?_
        refine O.p rfl rfl rfl (Pu.load rfl pl2 rfl (Ld.blk 1 rfl rfl)) ?_
        refine O.p rfl rfl rfl (Pu.assign rfl rfl) ?_
        refine O.nil ?_
        refine X.next ?_
        refine V.ret ?_
        refine X.blockRet ?_
        refine X.thenRet ?_
        refine X.thenRet ?_
        refine X.blockRet ?_
        refine X.thenRet ?_
        refine X.ret1 rfl rfl ?_
        exact fun w hw => St.retP (iv (by unfold cpt; rw [if_neg c1, if_neg c2, if_pos c3])) hw
      · skip
        refine V.skip ?_
        refine X.blockNormal ?_
        refine X.next ?_
        refine V.region ?_
        refine O.p rfl rfl rfl (Pu.move rfl rfl) ?_
        refine O.p rfl rfl rfl (Pu.add64 (r := 3) (by decide) (by decide) rfl rfl rfl) ?_
        refine O.p rfl rfl rfl (Pu.assign rfl rfl) ?_
        refine O.nil ?_
        refine X.again 0 ?_
        refine V.seq ?_
        refine V.seq ?_
        refine V.region ?_
        refine O.p rfl rfl rfl (Pu.move rfl rfl) ?_
        refine O.p rfl rfl rfl (Pu.isF (by decide) (Pu.lss rfl rfl rfl)) ?_
        refine O.nil ?_
        refine X.next ?_
        refine V.condF rfl ?_
        refine V.exit ?_
        refine X.thenExit ?_
        refine X.thenExit ?_
        refine X.blockHit ?_
        refine X.next ?_
        refine V.seq ?_
        refine V.region ?_
        refine O.p rfl rfl rfl (Pu.assign rfl rfl) ?_
        refine O.nil ?_
        refine X.next ?_
        refine V.ret ?_
        refine X.ret1 rfl rfl ?_
        exact fun w hw => St.retP (iv (by unfold cpt; rw [if_neg c1, if_neg c2, if_neg c3])) hw
set_option maxRecDepth 100000 in
set_option maxHeartbeats 1000000 in
theorem l03Others_ok (b : B3) (a : Int) (w : World) : Does Tryz.prog 169 [B3.v b, .int .i64 a] w [] (fun r => [.pur (r = .tuple #[.int .i64 (oth1 b a), .int .i64 (oth2 b a)])]) := by
  refine Does.enter Tryz.func169 rfl rfl [(0, B3.v b), (1, .int .i64 a)] rfl ?_
  refine V.seq ?_
  refine V.region ?_
  refine O.e rfl rfl rfl (Ef.box rfl rfl rfl) ?_
  rintro _ _ ⟨b1, rfl, rfl⟩
  refine O.p rfl rfl rfl (Pu.assign rfl rfl) ?_
  refine O.p rfl rfl rfl (Pu.assign rfl rfl) ?_
  refine O.nil ?_
  refine X.next ?_
  refine V.seq ?_
  refine V.seq ?_
  refine V.region ?_
  refine O.p rfl rfl rfl (Pu.move rfl rfl) ?_
  refine O.nil ?_
  refine X.next ?_
  refine V.block ?_
  refine V.seq ?_
  refine V.region ?_
  refine O.p rfl rfl rfl (Pu.indexArr 0 0 rfl Tryz.underlying51 sz2 rfl rfl (by decide) (by decide) (by decide)) ?_
  refine O.p rfl rfl rfl (Pu.load rfl pl2 rfl (Ld.blk 0 rfl rfl)) ?_
  refine O.p rfl rfl rfl (Pu.eql rfl rfl rfl) ?_
  refine O.p rfl rfl rfl (Pu.assign rfl rfl) ?_
  refine O.nil ?_
  refine X.next ?_
  refine V.condD rfl (fun c1 => ?_) (fun c1 => ?_)
  · skip
    refine V.seq ?_
    refine V.ent (Ent.cons (t := 2) rfl (Ent.nil _)) ?_
    refine V.draw mo (by kernel_rfl) (fun hwf => ?_)
    refine D.p 0 rfl rfl rfl rfl rfl rfl (Pu.indexArr 1 1 rfl Tryz.underlying51 sz2 rfl rfl (by decide) (by decide) (by decide)) ?_
    refine D.p 1 rfl rfl rfl rfl rfl rfl (Pu.load rfl pl2 rfl (Ld.blk 0 rfl rfl)) ?_
    refine D.p 2 rfl rfl rfl rfl rfl rfl (Pu.indexArr 2 2 rfl Tryz.underlying51 sz2 rfl rfl (by decide) (by decide) (by decide)) ?_
    refine D.p 3 rfl rfl rfl rfl rfl rfl (Pu.load rfl pl2 rfl (Ld.blk 0 rfl rfl)) ?_
    refine D.p 4 rfl rfl rfl rfl rfl rfl (Pu.assign rfl rfl) ?_
    refine D.p 5 rfl rfl rfl rfl rfl rfl (Pu.assign rfl rfl) ?_
    refine D.done hwf rfl ?_
    refine X.next ?_
    refine V.ret ?_
    refine X.blockRet ?_
    refine X.thenRet ?_
    refine X.ret2 rfl rfl rfl ?_
    exact fun w hw => St.addPur (by unfold oth1 oth2; rw [if_pos c1, if_pos c1]) (hw.sub (Sub.nil _))
  · skip
    refine V.seq ?_
    refine V.region ?_
    refine O.p rfl rfl rfl (Pu.indexArr 1 1 rfl Tryz.underlying51 sz2 rfl rfl (by decide) (by decide) (by decide)) ?_
    refine O.p rfl rfl rfl (Pu.load rfl pl2 rfl (Ld.blk 0 rfl rfl)) ?_
    refine O.p rfl rfl rfl (Pu.eql rfl rfl rfl) ?_
    refine O.p rfl rfl rfl (Pu.assign rfl rfl) ?_
    refine O.nil ?_
    refine X.next ?_
    refine V.condD rfl (fun c2 => ?_) (fun c2 => ?_)
    · skip
      refine V.seq ?_
      refine V.ent (Ent.cons (t := 2) rfl (Ent.nil _)) ?_
      refine V.draw mo (by kernel_rfl) (fun hwf => ?_)
      refine D.p 0 rfl rfl rfl rfl rfl rfl (Pu.indexArr 0 0 rfl Tryz.underlying51 sz2 rfl rfl (by decide) (by decide) (by decide)) ?_
      refine D.p 1 rfl rfl rfl rfl rfl rfl (Pu.load rfl pl2 rfl (Ld.blk 0 rfl rfl)) ?_
      refine D.p 2 rfl rfl rfl rfl rfl rfl (Pu.indexArr 2 2 rfl Tryz.underlying51 sz2 rfl rfl (by decide) (by decide) (by decide)) ?_
      refine D.p 3 rfl rfl rfl rfl rfl rfl (Pu.load rfl pl2 rfl (Ld.blk 0 rfl rfl)) ?_
      refine D.p 4 rfl rfl rfl rfl rfl rfl (Pu.assign rfl rfl) ?_
      refine D.p 5 rfl rfl rfl rfl rfl rfl (Pu.assign rfl rfl) ?_
      refine D.done hwf rfl ?_
      refine X.next ?_
      refine V.ret ?_
      refine X.blockRet ?_
      refine X.thenRet ?_
      refine X.ret2 rfl rfl rfl ?_
      exact fun w hw => St.addPur (by unfold oth1 oth2; rw [if_neg c1, if_neg c1, if_pos c2]) (hw.sub (Sub.nil _))
    · skip
      refine V.skip ?_
      refine X.blockNormal ?_
      refine X.next ?_
      refine V.seq ?_
      refine V.ent (Ent.cons (t := 2) rfl (Ent.nil _)) ?_
      refine V.draw mo (by kernel_rfl) (fun hwf => ?_)
      refine D.p 0 rfl rfl rfl rfl rfl rfl (Pu.indexArr 0 0 rfl Tryz.underlying51 sz2 rfl rfl (by decide) (by decide) (by decide)) ?_
      refine D.p 1 rfl rfl rfl rfl rfl rfl (Pu.load rfl pl2 rfl (Ld.blk 0 rfl rfl)) ?_
      refine D.p 2 rfl rfl rfl rfl rfl rfl (Pu.indexArr 1 1 rfl Tryz.underlying51 sz2 rfl rfl (by decide) (by decide) (by decide)) ?_
      refine D.p 3 rfl rfl rfl rfl rfl rfl (Pu.load rfl pl2 rfl (Ld.blk 0 rfl rfl)) ?_
      refine D.p 4 rfl rfl rfl rfl rfl rfl (Pu.assign rfl rfl) ?_
      refine D.p 5 rfl rfl rfl rfl rfl rfl (Pu.assign rfl rfl) ?_
      refine D.done hwf rfl ?_
      refine X.next ?_
      refine V.ret ?_
      refine X.ret2 rfl rfl rfl ?_
      exact fun w hw => St.addPur (by unfold oth1 oth2; rw [if_neg c1, if_neg c1, if_neg c2]) (hw.sub (Sub.nil _))
set_option maxRecDepth 100000 in
set_option maxHeartbeats 1000000 in
theorem others_ok (b : B3) (p : Int) (w : World) : Does Tryz.prog 180 [B3.v b, .int .i64 p] w [] (fun r => [.pur (r = .tuple #[.int .i64 (oth1 b p), .int .i64 (oth2 b p)])]) := by
  refine Does.enter Tryz.func180 rfl rfl [(0, B3.v b), (1, .int .i64 p)] rfl ?_
  refine V.seq ?_
  refine V.region ?_
  refine O.e rfl rfl rfl (Ef.box rfl rfl rfl) ?_
  rintro _ _ ⟨b1, rfl, rfl⟩
  refine O.p rfl rfl rfl (Pu.assign rfl rfl) ?_
  refine O.p rfl rfl rfl (Pu.assign rfl rfl) ?_
  refine O.nil ?_
  refine X.next ?_
  refine V.seq ?_
  refine V.seq ?_
  refine V.region ?_
  refine O.p rfl rfl rfl (Pu.move rfl rfl) ?_
  refine O.nil ?_
  refine X.next ?_
  refine V.block ?_
  refine V.seq ?_
  refine V.region ?_
  refine O.p rfl rfl rfl (Pu.indexArr 0 0 rfl Tryz.underlying51 sz2 rfl rfl (by decide) (by decide) (by decide)) ?_
  refine O.p rfl rfl rfl (Pu.load rfl pl2 rfl (Ld.blk 0 rfl rfl)) ?_
  refine O.p rfl rfl rfl (Pu.eql rfl rfl rfl) ?_
  refine O.p rfl rfl rfl (Pu.assign rfl rfl) ?_
  refine O.nil ?_
  refine X.next ?_
  refine V.condD rfl (fun c1 => ?_) (fun c1 => ?_)
  · skip
    refine V.seq ?_
    refine V.ent (Ent.cons (t := 2) rfl (Ent.nil _)) ?_
    refine V.draw mo (by kernel_rfl) (fun hwf => ?_)
    refine D.p 0 rfl rfl rfl rfl rfl rfl (Pu.indexArr 1 1 rfl Tryz.underlying51 sz2 rfl rfl (by decide) (by decide) (by decide)) ?_
    refine D.p 1 rfl rfl rfl rfl rfl rfl (Pu.load rfl pl2 rfl (Ld.blk 0 rfl rfl)) ?_
    refine D.p 2 rfl rfl rfl rfl rfl rfl (Pu.indexArr 2 2 rfl Tryz.underlying51 sz2 rfl rfl (by decide) (by decide) (by decide)) ?_
    refine D.p 3 rfl rfl rfl rfl rfl rfl (Pu.load rfl pl2 rfl (Ld.blk 0 rfl rfl)) ?_
    refine D.p 4 rfl rfl rfl rfl rfl rfl (Pu.assign rfl rfl) ?_
    refine D.p 5 rfl rfl rfl rfl rfl rfl (Pu.assign rfl rfl) ?_
    refine D.done hwf rfl ?_
    refine X.next ?_
    refine V.ret ?_
    refine X.blockRet ?_
    refine X.thenRet ?_
    refine X.ret2 rfl rfl rfl ?_
    exact fun w hw => St.addPur (by unfold oth1 oth2; rw [if_pos c1, if_pos c1]) (hw.sub (Sub.nil _))
  · skip
    refine V.seq ?_
    refine V.region ?_
    refine O.p rfl rfl rfl (Pu.indexArr 1 1 rfl Tryz.underlying51 sz2 rfl rfl (by decide) (by decide) (by decide)) ?_
    refine O.p rfl rfl rfl (Pu.load rfl pl2 rfl (Ld.blk 0 rfl rfl)) ?_
    refine O.p rfl rfl rfl (Pu.eql rfl rfl rfl) ?_
    refine O.p rfl rfl rfl (Pu.assign rfl rfl) ?_
    refine O.nil ?_
    refine X.next ?_
    refine V.condD rfl (fun c2 => ?_) (fun c2 => ?_)
    · skip
      refine V.seq ?_
      refine V.ent (Ent.cons (t := 2) rfl (Ent.nil _)) ?_
      refine V.draw mo (by kernel_rfl) (fun hwf => ?_)
      refine D.p 0 rfl rfl rfl rfl rfl rfl (Pu.indexArr 0 0 rfl Tryz.underlying51 sz2 rfl rfl (by decide) (by decide) (by decide)) ?_
      refine D.p 1 rfl rfl rfl rfl rfl rfl (Pu.load rfl pl2 rfl (Ld.blk 0 rfl rfl)) ?_
      refine D.p 2 rfl rfl rfl rfl rfl rfl (Pu.indexArr 2 2 rfl Tryz.underlying51 sz2 rfl rfl (by decide) (by decide) (by decide)) ?_
      refine D.p 3 rfl rfl rfl rfl rfl rfl (Pu.load rfl pl2 rfl (Ld.blk 0 rfl rfl)) ?_
      refine D.p 4 rfl rfl rfl rfl rfl rfl (Pu.assign rfl rfl) ?_
      refine D.p 5 rfl rfl rfl rfl rfl rfl (Pu.assign rfl rfl) ?_
      refine D.done hwf rfl ?_
      refine X.next ?_
      refine V.ret ?_
      refine X.blockRet ?_
      refine X.thenRet ?_
      refine X.ret2 rfl rfl rfl ?_
      exact fun w hw => St.addPur (by unfold oth1 oth2; rw [if_neg c1, if_neg c1, if_pos c2]) (hw.sub (Sub.nil _))
    · skip
      refine V.skip ?_
      refine X.blockNormal ?_
      refine X.next ?_
      refine V.seq ?_
      refine V.ent (Ent.cons (t := 2) rfl (Ent.nil _)) ?_
      refine V.draw mo (by kernel_rfl) (fun hwf => ?_)
      refine D.p 0 rfl rfl rfl rfl rfl rfl (Pu.indexArr 0 0 rfl Tryz.underlying51 sz2 rfl rfl (by decide) (by decide) (by decide)) ?_
      refine D.p 1 rfl rfl rfl rfl rfl rfl (Pu.load rfl pl2 rfl (Ld.blk 0 rfl rfl)) ?_
      refine D.p 2 rfl rfl rfl rfl rfl rfl (Pu.indexArr 1 1 rfl Tryz.underlying51 sz2 rfl rfl (by decide) (by decide) (by decide)) ?_
      refine D.p 3 rfl rfl rfl rfl rfl rfl (Pu.load rfl pl2 rfl (Ld.blk 0 rfl rfl)) ?_
      refine D.p 4 rfl rfl rfl rfl rfl rfl (Pu.assign rfl rfl) ?_
      refine D.p 5 rfl rfl rfl rfl rfl rfl (Pu.assign rfl rfl) ?_
      refine D.done hwf rfl ?_
      refine X.next ?_
      refine V.ret ?_
      refine X.ret2 rfl rfl rfl ?_
      exact fun w hw => St.addPur (by unfold oth1 oth2; rw [if_neg c1, if_neg c1, if_neg c2]) (hw.sub (Sub.nil _))
set_option maxRecDepth 100000 in
set_option maxHeartbeats 1000000 in
theorem l01Third_ok (v : Int) (bs : List B3) (a : Int) (b : Int) (A : Option Addr) (c : Nat) (w : World) (hx : Rd B3C w A bs) (lx : bs.length ≤ 4611686018427387904) (hg : ∀ d ∈ bs, good 15 d) (hpa : 0 ≤ a ∧ a ≤ 15) (hpb : 0 ≤ b ∧ b ≤ 15) : Does Tryz.prog 170 [.agg #[.int .i64 v, .slice A bs.length c], .int .i64 a, .int .i64 b] w [] (fun r => [.pur (r = .int .i64 (third bs a b))]) := by
  refine Does.enter Tryz.func170 rfl rfl [(0, .agg #[.int .i64 v, .slice A bs.length c]), (1, .int .i64 a), (2, .int .i64 b)] rfl ?_
  refine V.seq ?_
  refine V.region ?_
  refine O.e rfl rfl rfl (Ef.box rfl rfl rfl) ?_
  rintro _ _ ⟨b1, rfl, rfl⟩
  refine O.p rfl rfl rfl (Pu.assign rfl rfl) ?_
  refine O.nil ?_
  refine X.next ?_
  refine V.seq ?_
  refine V.seq ?_
  refine V.region ?_
  refine O.p rfl rfl rfl (Pu.assign rfl rfl) ?_
  refine O.nil ?_
  refine X.next ?_
  refine V.block ?_
  refine V.loop3 (β := Nat) (fun i => [(7, .int .i64 (i : Int))]) _ (fun i => []) _ (fun i => i ≤ bs.length ∧ ∀ j (hj : j < bs.length), j < i → ¬ (has bs[j] a ∧ has bs[j] b)) (fun i => bs.length - i) 0 ⟨by omega, fun j hj h => by omega⟩ (Ent.cons rfl (Ent.nil _)) (Ent.cons (t := 1) rfl (Ent.cons (t := 2) rfl (Ent.cons (t := 3) rfl (Ent.nil _)))) (Sub.keep 0 rfl (Sub.nil _)) ?_
  rintro i ⟨hi, hn⟩
  refine V.seq ?_
  refine V.seq ?_
  refine V.region ?_
  refine O.p rfl rfl rfl (Pu.move rfl rfl) ?_
  refine O.p rfl rfl rfl (Pu.fieldAddr 1 rfl Tryz.underlying26 rfl sz24 rfl rfl) ?_
  refine O.p rfl rfl rfl (Pu.load rfl pl24 rfl (Ld.blk 0 rfl rfl)) ?_
  refine O.p rfl rfl rfl (Pu.len rfl Tryz.underlying24 rfl) ?_
  refine O.p rfl rfl rfl (Pu.lss rfl rfl rfl) ?_
  refine O.nil ?_
  refine X.next ?_
  refine V.condD rfl (fun c1 => ?_) (fun c1 => ?_)
  · skip
    refine V.skip ?_
    refine X.next ?_
    refine V.seq ?_
    refine V.block ?_
    refine V.seq ?_
    refine V.region ?_
    refine O.p rfl rfl rfl (Pu.fieldAddr 1 rfl Tryz.underlying26 rfl sz24 rfl rfl) ?_
    refine O.p rfl rfl rfl (Pu.load rfl pl24 rfl (Ld.blk 0 rfl rfl)) ?_
    refine O.p rfl rfl rfl (Pu.move rfl rfl) ?_
    refine O.p rfl rfl rfl (Pu.indexAddr (i) rfl Tryz.underlying24 sz51 rfl rfl (by omega) (by omega) (hx.some (by omega))) ?_
    have e1 : i < bs.length := by omega
    refine O.p rfl rfl rfl (Pu.loadAgg' (v := B3.v (bs[i]'e1)) rfl rfl ag51 sz51 rfl rfl (Ld.rds (Ld.old hx) (k := i) e1 rfl)) ?_
    refine O.e rfl rfl rfl (Ef.alloc rfl zr51 rfl) ?_
    rintro _ _ ⟨b2, rfl, rfl⟩
    refine O.s rfl rfl (Ef.storeAll 0 rfl sz51 rfl rfl rfl rfl (by simp [Value.oneCell']) rfl) ?_
    rintro _ _ rfl
    refine O.nil ?_
    refine X.next ?_
    refine V.seq ?_
    refine V.region ?_
    refine O.p rfl rfl rfl (Pu.loadAgg' (v := B3.v (bs[i]'e1)) rfl rfl ag51 sz51 rfl rfl (Ld.whole 0 rfl)) ?_
    refine O.p rfl rfl rfl (Pu.move rfl rfl) ?_
    refine O.e rfl rfl rfl (Ef.callP call88 rfl rfl (fun w hw => l01With_ok (bs[i]'e1) _ w)) ?_
    rintro _ _ ⟨rfl, rfl⟩
    refine O.p rfl rfl rfl (Pu.move rfl rfl) ?_
    refine O.splitD 24 rfl (fun c2 => ?_) (fun c2 => ?_)
    · skip
      refine O.gp rfl rfl rfl rfl rfl (Pu.loadAgg' (v := B3.v (bs[i]'e1)) rfl rfl ag51 sz51 rfl rfl (Ld.whole 0 rfl)) ?_
      refine O.gp rfl rfl rfl rfl rfl (Pu.move rfl rfl) ?_
      refine O.ge rfl rfl rfl rfl rfl (Ef.callP call88 rfl rfl (fun w hw => l01With_ok (bs[i]'e1) _ w)) ?_
      rintro _ _ ⟨rfl, rfl⟩
      refine O.p rfl rfl rfl (Pu.pickT rfl rfl rfl) ?_
      refine O.nil ?_
      refine X.next ?_
      refine V.condD rfl (fun c3 => ?_) (fun c3 => ?_)
      · skip
        have hgi := hg _ (List.getElem_mem e1)
        unfold good at hgi
        refine V.seq ?_
        refine V.region ?_
        refine O.p rfl rfl rfl (Pu.indexArr 0 0 rfl Tryz.underlying51 sz2 rfl rfl (by decide) (by decide) (by decide)) ?_
        refine O.p rfl rfl rfl (Pu.load rfl pl2 rfl (Ld.blk 0 rfl rfl)) ?_
        refine O.p rfl rfl rfl (Pu.indexArr 1 1 rfl Tryz.underlying51 sz2 rfl rfl (by decide) (by decide) (by decide)) ?_
        refine O.p rfl rfl rfl (Pu.load rfl pl2 rfl (Ld.blk 0 rfl rfl)) ?_
        refine O.p rfl rfl rfl (Pu.add64 rfl (by omega) rfl rfl rfl) ?_
        refine O.p rfl rfl rfl (Pu.indexArr 2 2 rfl Tryz.underlying51 sz2 rfl rfl (by decide) (by decide) (by decide)) ?_
        refine O.p rfl rfl rfl (Pu.load rfl pl2 rfl (Ld.blk 0 rfl rfl)) ?_
        refine O.p rfl rfl rfl (Pu.add64 rfl (by omega) rfl rfl rfl) ?_
        refine O.p rfl rfl rfl (Pu.move rfl rfl) ?_
        refine O.p rfl rfl rfl (Pu.sub64 rfl (by omega) rfl rfl rfl) ?_
        refine O.p rfl rfl rfl (Pu.move rfl rfl) ?_
        refine O.p rfl rfl rfl (Pu.sub64 rfl (by omega) rfl rfl rfl) ?_
        refine O.p rfl rfl rfl (Pu.assign rfl rfl) ?_
        refine O.nil ?_
        refine X.next ?_
        refine V.ret ?_
        refine X.blockRet ?_
        refine X.thenRet ?_
        refine X.thenRet ?_
        refine X.blockRet ?_
        refine X.thenRet ?_
        refine X.ret1 rfl rfl ?_
        exact fun w hw => St.retP (iv ((third_found e1 c2 c3 hn).2.symm)) hw
      · skip
        refine V.skip ?_
        refine X.blockNormal ?_
        refine X.next ?_
        refine V.region ?_
        refine O.p rfl rfl rfl (Pu.move rfl rfl) ?_
        refine O.p rfl rfl rfl (Pu.add64 (r := ((i + 1 : Nat) : Int)) rfl (by omega) rfl rfl rfl) ?_
        refine O.p rfl rfl rfl (Pu.assign rfl rfl) ?_
        refine O.nil ?_
        exact X.back3 (i + 1) ⟨by omega, fun j hj h hh => by by_cases e : j = i; (· subst e; exact c3 hh.2); (· exact hn j hj (by omega) hh)⟩ (by first | omega | (dsimp only; omega)) (Ent.cons rfl (Ent.nil _)) (Ent.cons (t := 1) rfl (Ent.cons (t := 2) rfl (Ent.cons (t := 3) rfl (Ent.nil _)))) (Sub.keep 1 rfl (Sub.nil _))
    · skip
      refine O.gs rfl rfl rfl rfl rfl rfl ?_
      refine O.gs rfl rfl rfl rfl rfl rfl ?_
      refine O.gs rfl rfl rfl rfl rfl rfl ?_
      refine O.p rfl rfl rfl (Pu.pickF rfl rfl rfl) ?_
      refine O.nil ?_
      refine X.next ?_
      refine V.condF rfl ?_
      refine V.skip ?_
      refine X.blockNormal ?_
      refine X.next ?_
      refine V.region ?_
      refine O.p rfl rfl rfl (Pu.move rfl rfl) ?_
      refine O.p rfl rfl rfl (Pu.add64 (r := ((i + 1 : Nat) : Int)) rfl (by omega) rfl rfl rfl) ?_
      refine O.p rfl rfl rfl (Pu.assign rfl rfl) ?_
      refine O.nil ?_
      exact X.back3 (i + 1) ⟨by omega, fun j hj h hh => by by_cases e : j = i; (· subst e; exact c2 hh.1); (· exact hn j hj (by omega) hh)⟩ (by first | omega | (dsimp only; omega)) (Ent.cons rfl (Ent.nil _)) (Ent.cons (t := 1) rfl (Ent.cons (t := 2) rfl (Ent.cons (t := 3) rfl (Ent.nil _)))) (Sub.keep 1 rfl (Sub.nil _))
  · skip
    refine V.exit ?_
    refine X.thenExit ?_
    refine X.thenExit ?_
    refine X.blockHit ?_
    refine X.next ?_
    refine V.seq ?_
    refine V.region ?_
    refine O.p rfl rfl rfl (Pu.assign rfl rfl) ?_
    refine O.nil ?_
    refine X.next ?_
    refine V.ret ?_
    refine X.ret1 rfl rfl ?_
    exact fun w hw => St.retP (iv ((third_none (fun j hj => hn j hj (by omega))).2.symm)) hw
set_option maxRecDepth 100000 in
set_option maxHeartbeats 1000000 in
theorem l03Number_ok (v : Int) (bs : List B3) (a : Int) (b : Int) (A : Option Addr) (c : Nat) (w : World) (hx : Rd B3C w A bs) (lx : bs.length ≤ 4611686018427387904) : Does Tryz.prog 172 [.agg #[.int .i64 v, .slice A bs.length c], .int .i64 a, .int .i64 b] w [] (fun r => [.pur (r = .int .i64 (num bs a b))]) := by
  refine Does.enter Tryz.func172 rfl rfl [(0, .agg #[.int .i64 v, .slice A bs.length c]), (1, .int .i64 a), (2, .int .i64 b)] rfl ?_
  refine V.seq ?_
  refine V.region ?_
  refine O.e rfl rfl rfl (Ef.box rfl rfl rfl) ?_
  rintro _ _ ⟨b1, rfl, rfl⟩
  refine O.p rfl rfl rfl (Pu.assign rfl rfl) ?_
  refine O.nil ?_
  refine X.next ?_
  refine V.seq ?_
  refine V.seq ?_
  refine V.region ?_
  refine O.p rfl rfl rfl (Pu.assign rfl rfl) ?_
  refine O.nil ?_
  refine X.next ?_
  refine V.block ?_
  refine V.loop3 (β := Nat) (fun i => [(7, .int .i64 (i : Int))]) _ (fun i => []) _ (fun i => i ≤ bs.length ∧ ∀ j (hj : j < bs.length), j < i → ¬ (has bs[j] a ∧ has bs[j] b)) (fun i => bs.length - i) 0 ⟨by omega, fun j hj h => by omega⟩ (Ent.cons rfl (Ent.nil _)) (Ent.cons (t := 1) rfl (Ent.cons (t := 2) rfl (Ent.cons (t := 3) rfl (Ent.nil _)))) (Sub.keep 0 rfl (Sub.nil _)) ?_
  rintro i ⟨hi, hn⟩
  refine V.seq ?_
  refine V.seq ?_
  refine V.region ?_
  refine O.p rfl rfl rfl (Pu.move rfl rfl) ?_
  refine O.p rfl rfl rfl (Pu.fieldAddr 1 rfl Tryz.underlying26 rfl sz24 rfl rfl) ?_
  refine O.p rfl rfl rfl (Pu.load rfl pl24 rfl (Ld.blk 0 rfl rfl)) ?_
  refine O.p rfl rfl rfl (Pu.len rfl Tryz.underlying24 rfl) ?_
  refine O.p rfl rfl rfl (Pu.lss rfl rfl rfl) ?_
  refine O.nil ?_
  refine X.next ?_
  refine V.condD rfl (fun c1 => ?_) (fun c1 => ?_)
  · skip
    refine V.skip ?_
    refine X.next ?_
    refine V.seq ?_
    refine V.block ?_
    refine V.seq ?_
    refine V.region ?_
    refine O.p rfl rfl rfl (Pu.fieldAddr 1 rfl Tryz.underlying26 rfl sz24 rfl rfl) ?_
    refine O.p rfl rfl rfl (Pu.load rfl pl24 rfl (Ld.blk 0 rfl rfl)) ?_
    refine O.p rfl rfl rfl (Pu.move rfl rfl) ?_
    refine O.p rfl rfl rfl (Pu.indexAddr (i) rfl Tryz.underlying24 sz51 rfl rfl (by omega) (by omega) (hx.some (by omega))) ?_
    have e1 : i < bs.length := by omega
    refine O.p rfl rfl rfl (Pu.loadAgg' (v := B3.v (bs[i]'e1)) rfl rfl ag51 sz51 rfl rfl (Ld.rds (Ld.old hx) (k := i) e1 rfl)) ?_
    refine O.p rfl rfl rfl (Pu.move rfl rfl) ?_
    refine O.e rfl rfl rfl (Ef.callP call88 rfl rfl (fun w hw => l01With_ok (bs[i]'e1) _ w)) ?_
    rintro _ _ ⟨rfl, rfl⟩
    refine O.p rfl rfl rfl (Pu.move rfl rfl) ?_
    refine O.splitD 22 rfl (fun c2 => ?_) (fun c2 => ?_)
    · skip
      refine O.gp rfl rfl rfl rfl rfl (Pu.fieldAddr 1 rfl Tryz.underlying26 rfl sz24 rfl rfl) ?_
      refine O.gp rfl rfl rfl rfl rfl (Pu.load rfl pl24 rfl (Ld.blk 0 rfl rfl)) ?_
      refine O.gp rfl rfl rfl rfl rfl (Pu.move rfl rfl) ?_
      refine O.gp rfl rfl rfl rfl rfl (Pu.indexAddr (i) rfl Tryz.underlying24 sz51 rfl rfl (by omega) (by omega) (hx.some (by omega))) ?_
      refine O.gp rfl rfl rfl rfl rfl (Pu.loadAgg' (v := B3.v (bs[i]'e1)) rfl rfl ag51 sz51 rfl rfl (Ld.rds (Ld.old hx) (k := i) e1 rfl)) ?_
      refine O.gp rfl rfl rfl rfl rfl (Pu.move rfl rfl) ?_
      refine O.ge rfl rfl rfl rfl rfl (Ef.callP call88 rfl rfl (fun w hw => l01With_ok (bs[i]'e1) _ w)) ?_
      rintro _ _ ⟨rfl, rfl⟩
      refine O.p rfl rfl rfl (Pu.pickT rfl rfl rfl) ?_
      refine O.nil ?_
      refine X.next ?_
      refine V.condD rfl (fun c3 => ?_) (fun c3 => ?_)
      · skip
        refine V.seq ?_
        refine V.region ?_
        refine O.p rfl rfl rfl (Pu.move rfl rfl) ?_
        refine O.p rfl rfl rfl (Pu.assign rfl rfl) ?_
        refine O.nil ?_
        refine X.next ?_
        refine V.ret ?_
        refine X.blockRet ?_
        refine X.thenRet ?_
        refine X.thenRet ?_
        refine X.blockRet ?_
        refine X.thenRet ?_
        refine X.ret1 rfl rfl ?_
        exact fun w hw => St.retP (iv ((third_found e1 c2 c3 hn).1.symm)) hw
      · skip
        refine V.skip ?_
        refine X.blockNormal ?_
        refine X.next ?_
        refine V.region ?_
        refine O.p rfl rfl rfl (Pu.move rfl rfl) ?_
        refine O.p rfl rfl rfl (Pu.add64 (r := ((i + 1 : Nat) : Int)) rfl (by omega) rfl rfl rfl) ?_
        refine O.p rfl rfl rfl (Pu.assign rfl rfl) ?_
        refine O.nil ?_
        exact X.back3 (i + 1) ⟨by omega, fun j hj h hh => by by_cases e : j = i; (· subst e; exact c3 hh.2); (· exact hn j hj (by omega) hh)⟩ (by first | omega | (dsimp only; omega)) (Ent.cons rfl (Ent.nil _)) (Ent.cons (t := 1) rfl (Ent.cons (t := 2) rfl (Ent.cons (t := 3) rfl (Ent.nil _)))) (Sub.keep 0 rfl (Sub.nil _))
    · skip
      refine O.gs rfl rfl rfl rfl rfl rfl ?_
      refine O.gs rfl rfl rfl rfl rfl rfl ?_
      refine O.gs rfl rfl rfl rfl rfl rfl ?_
      refine O.gs rfl rfl rfl rfl rfl rfl ?_
      refine O.gs rfl rfl rfl rfl rfl rfl ?_
      refine O.gs rfl rfl rfl rfl rfl rfl ?_
      refine O.gs rfl rfl rfl rfl rfl rfl ?_
      refine O.p rfl rfl rfl (Pu.pickF rfl rfl rfl) ?_
      refine O.nil ?_
      refine X.next ?_
      refine V.condF rfl ?_
      refine V.skip ?_
      refine X.blockNormal ?_
      refine X.next ?_
      refine V.region ?_
      refine O.p rfl rfl rfl (Pu.move rfl rfl) ?_
      refine O.p rfl rfl rfl (Pu.add64 (r := ((i + 1 : Nat) : Int)) rfl (by omega) rfl rfl rfl) ?_
      refine O.p rfl rfl rfl (Pu.assign rfl rfl) ?_
      refine O.nil ?_
      exact X.back3 (i + 1) ⟨by omega, fun j hj h hh => by by_cases e : j = i; (· subst e; exact c2 hh.1); (· exact hn j hj (by omega) hh)⟩ (by first | omega | (dsimp only; omega)) (Ent.cons rfl (Ent.nil _)) (Ent.cons (t := 1) rfl (Ent.cons (t := 2) rfl (Ent.cons (t := 3) rfl (Ent.nil _)))) (Sub.keep 0 rfl (Sub.nil _))
  · skip
    refine V.exit ?_
    refine X.thenExit ?_
    refine X.thenExit ?_
    refine X.blockHit ?_
    refine X.next ?_
    refine V.seq ?_
    refine V.region ?_
    refine O.p rfl rfl rfl (Pu.assign rfl rfl) ?_
    refine O.nil ?_
    refine X.next ?_
    refine V.ret ?_
    refine X.ret1 rfl rfl ?_
    exact fun w hw => St.retP (iv ((third_none (fun j hj => hn j hj (by omega))).1.symm)) hw
set_option maxRecDepth 100000 in
set_option maxHeartbeats 1000000 in
theorem l03Pasch_ok (v : Int) (bs : List B3) (A : Option Addr) (c : Nat) (w : World) (hx : Rd B3C w A bs) (lx : bs.length ≤ 4611686018427387904) (hS : STS v bs) : Does Tryz.prog 80 [.agg #[.int .i64 v, .slice A bs.length c]] w [] (fun r => [.exi fun (pA : Option Addr) => .exi fun (pc : Nat) => .exi fun (p : List (Sl × List Int)) => .sep (.pur (r = .slice pA (tops p).length pc ∧ IsList (PQ bs) (conts p) ∧ p.length ≤ 2450)) (.sep (Own 34 SlC pA pc (tops p)) (RowsA 2 I64 p))]) := by
  refine Does.enter Tryz.func80 rfl rfl [(0, .agg #[.int .i64 v, .slice A bs.length c])] rfl ?_
  have hfew := hS.few
  have hg : ∀ b ∈ bs, good 15 b := fun b h => (hS.good b h).mono hS.hi
  refine V.seq ?_
  refine V.region ?_
  refine O.e rfl rfl rfl (Ef.box rfl rfl rfl) ?_
  rintro _ _ ⟨b1, rfl, rfl⟩
  refine O.p rfl rfl rfl (Pu.assign rfl rfl) ?_
  refine O.nil ?_
  refine X.next ?_
  refine V.seq ?_
  refine V.region ?_
  refine O.e rfl rfl rfl (Ef.build SlC ([] : List Sl) rfl Tryz.underlying28 inf34 rfl rfl rfl (by first | decide | (simp; done)) (by kernel_rfl)) ?_
  rintro _ _ ⟨A1, hA1, rfl, rfl⟩
  refine O.p rfl rfl rfl (Pu.assign rfl rfl) ?_
  refine O.nil ?_
  refine X.next ?_
  refine V.seq ?_
  refine V.seq ?_
  refine V.region ?_
  refine O.p rfl rfl rfl (Pu.assign rfl rfl) ?_
  refine O.nil ?_
  refine X.next ?_
  refine V.block ?_
  refine V.map (fun w hw => RowsA.nil (T := 2) (C := I64) hw) ?_
  refine V.loop3 (β := (Option Addr) × Nat × (List (Sl × List Int)) × Nat) (fun x => [(3, .slice x.1 (tops x.2.2.1).length x.2.1), (4, .int .i64 (x.2.2.2 : Int))]) _ (fun x => [Own 34 SlC x.1 x.2.1 (tops x.2.2.1), RowsA 2 I64 x.2.2.1]) _ (fun x => x.2.2.2 ≤ bs.length ∧ SrtL (conts x.2.2.1) ∧ (∀ r, r ∈ conts x.2.2.1 ↔ SeenP bs x.2.2.2 0 r) ∧ x.2.2.1.length ≤ x.2.2.2 * 70) (fun x => bs.length - x.2.2.2) (A1, 0, [], 0) (by (try dsimp only); exact ⟨by omega, SrtL.nil, fun r => by simp only [conts, List.map_nil, List.not_mem_nil, false_iff]; exact seen_zero, by simp⟩) (Ent.cons rfl (Ent.cons rfl (Ent.nil _))) (Ent.cons (t := 1) rfl (Ent.nil _)) (Sub.keep 1 rfl (Sub.keep 0 rfl (Sub.keep 0 rfl (Sub.nil _)))) ?_
  rintro ⟨outA, outc, out, i⟩ ⟨hi, hs0, hm0, b0⟩
  dsimp only at hi hs0 hm0 b0 ⊢
  refine V.fact (RowsA.len 1 rfl) (fun hn_out => ?_)
  have htl_out := tops_len out
  refine V.seq ?_
  refine V.seq ?_
  refine V.region ?_
  refine O.p rfl rfl rfl (Pu.move rfl rfl) ?_
  refine O.p rfl rfl rfl (Pu.fieldAddr 1 rfl Tryz.underlying26 rfl sz24 rfl rfl) ?_
  refine O.p rfl rfl rfl (Pu.load rfl pl24 rfl (Ld.blk 2 rfl rfl)) ?_
  refine O.p rfl rfl rfl (Pu.len rfl Tryz.underlying24 rfl) ?_
  refine O.p rfl rfl rfl (Pu.lss rfl rfl rfl) ?_
  refine O.nil ?_
  refine X.next ?_
  refine V.condD rfl (fun c1 => ?_) (fun c1 => ?_)
  · skip
    refine V.skip ?_
    refine X.next ?_
    refine V.seq ?_
    refine V.block ?_
    refine V.seq ?_
    refine V.region ?_
    refine O.p rfl rfl rfl (Pu.assign rfl rfl) ?_
    refine O.nil ?_
    refine X.next ?_
    refine V.block ?_
    refine V.loop3 (β := (Option Addr) × Nat × (List (Sl × List Int)) × Nat) (fun x => [(3, .slice x.1 (tops x.2.2.1).length x.2.1), (5, .int .i64 (x.2.2.2 : Int))]) _ (fun x => [Own 34 SlC x.1 x.2.1 (tops x.2.2.1), RowsA 2 I64 x.2.2.1]) _ (fun x => x.2.2.2 ≤ i ∧ SrtL (conts x.2.2.1) ∧ (∀ r, r ∈ conts x.2.2.1 ↔ SeenP bs i x.2.2.2 r) ∧ x.2.2.1.length ≤ i * 70 + x.2.2.2 * 2) (fun x => i - x.2.2.2) (outA, outc, out, 0) (by (try dsimp only); exact ⟨by omega, hs0, hm0, by omega⟩) (Ent.cons rfl (Ent.cons rfl (Ent.nil _))) (Ent.cons (t := 1) rfl (Ent.cons (t := 4) rfl (Ent.nil _))) (Sub.keep 0 rfl (Sub.keep 0 rfl (Sub.keep 0 rfl (Sub.nil _)))) ?_
    rintro ⟨o1A, o1c, o1, j⟩ ⟨hj, hs1, hm1, b1⟩
    dsimp only at hj hs1 hm1 b1 ⊢
    refine V.fact (RowsA.len 1 rfl) (fun hn_o1 => ?_)
    have htl_o1 := tops_len o1
    refine V.seq ?_
    refine V.seq ?_
    refine V.region ?_
    refine O.p rfl rfl rfl (Pu.move rfl rfl) ?_
    refine O.p rfl rfl rfl (Pu.move rfl rfl) ?_
    refine O.p rfl rfl rfl (Pu.lss rfl rfl rfl) ?_
    refine O.nil ?_
    refine X.next ?_
    refine V.condD rfl (fun c2 => ?_) (fun c2 => ?_)
    · skip
      refine V.skip ?_
      refine X.next ?_
      refine V.seq ?_
      refine V.block ?_
      refine V.seq ?_
      refine V.draw mo (by kernel_rfl) (fun hwf => ?_)
      refine D.p 0 rfl rfl rfl rfl rfl rfl (Pu.fieldAddr 1 rfl Tryz.underlying26 rfl sz24 rfl rfl) ?_
      refine D.p 1 rfl rfl rfl rfl rfl rfl (Pu.load rfl pl24 rfl (Ld.blk 2 rfl rfl)) ?_
      refine D.p 2 rfl rfl rfl rfl rfl rfl (Pu.move rfl rfl) ?_
      refine D.p 3 rfl rfl rfl rfl rfl rfl (Pu.indexAddr (i) rfl Tryz.underlying24 sz51 rfl rfl (by omega) (by omega) (hx.some (by omega))) ?_
      have e1 : i < bs.length := by omega
      refine D.p 4 rfl rfl rfl rfl rfl rfl (Pu.loadAgg' (v := B3.v (bs[i]'e1)) rfl rfl ag51 sz51 rfl rfl (Ld.rds (Ld.old hx) (k := i) e1 rfl)) ?_
      refine D.p 5 rfl rfl rfl rfl rfl rfl (Pu.fieldAddr 1 rfl Tryz.underlying26 rfl sz24 rfl rfl) ?_
      refine D.p 6 rfl rfl rfl rfl rfl rfl (Pu.load rfl pl24 rfl (Ld.blk 2 rfl rfl)) ?_
      refine D.p 7 rfl rfl rfl rfl rfl rfl (Pu.move rfl rfl) ?_
      refine D.p 8 rfl rfl rfl rfl rfl rfl (Pu.indexAddr (j) rfl Tryz.underlying24 sz51 rfl rfl (by omega) (by omega) (hx.some (by omega))) ?_
      have e2 : j < bs.length := by omega
      refine D.p 9 rfl rfl rfl rfl rfl rfl (Pu.loadAgg' (v := B3.v (bs[j]'e2)) rfl rfl ag51 sz51 rfl rfl (Ld.rds (Ld.old hx) (k := j) e2 rfl)) ?_
      refine D.eff hwf (e := 10) rfl rfl rfl rfl (Ef.callP call168 rfl rfl (fun w hw => l03Meet_ok  (bs[i]'e1) (bs[j]'e2) w   )) rfl rfl rfl ?_
      rintro _ _ ⟨rfl, rfl⟩ hs
      refine ⟨fun w hw => hw, ?_⟩
      refine D.p 11 rfl rfl rfl rfl rfl rfl (Pu.assign rfl rfl) ?_
      refine D.done hwf rfl ?_
      refine X.next ?_
      refine V.seq ?_
      refine V.seq ?_
      refine V.region ?_
      refine O.p rfl rfl rfl (Pu.move rfl rfl) ?_
      refine O.p rfl rfl rfl (Pu.lss rfl rfl rfl) ?_
      refine O.nil ?_
      refine X.next ?_
      refine V.condD rfl (fun c3 => ?_) (fun c3 => ?_)
      · skip
        refine V.exit ?_
        refine X.thenExit ?_
        refine X.blockHit ?_
        refine X.next ?_
        refine V.region ?_
        refine O.p rfl rfl rfl (Pu.move rfl rfl) ?_
        refine O.p rfl rfl rfl (Pu.add64 (r := ((j + 1 : Nat) : Int)) rfl (by omega) rfl rfl rfl) ?_
        refine O.p rfl rfl rfl (Pu.assign rfl rfl) ?_
        refine O.nil ?_
        exact X.back3 (o1A, o1c, o1, j + 1) (by (try dsimp only); exact ⟨by omega, hs1, fun r => by rw [hm1 r, seen_skip hS (by omega) e1 (cpt_no (hS.good _ (List.getElem_mem e1)) c3)], by omega⟩) (by first | omega | (dsimp only; omega)) (Ent.cons' rfl (by first | rfl | (simp only [tops_append]; done) | (simp only [tops_append]; rfl)) (Ent.cons rfl (Ent.nil _))) (Ent.cons (t := 1) rfl (Ent.cons (t := 4) rfl (Ent.nil _))) (Sub.keep 0 rfl (Sub.keep 0 rfl (Sub.keep 0 rfl (Sub.nil _))))
      · skip
        have hm := cpt_yes (hS.good _ (List.getElem_mem e1)) c3
        refine V.skip ?_
        refine X.next ?_
        refine V.seq ?_
        refine V.region ?_
        refine O.p rfl rfl rfl (Pu.fieldAddr 1 rfl Tryz.underlying26 rfl sz24 rfl rfl) ?_
        refine O.p rfl rfl rfl (Pu.load rfl pl24 rfl (Ld.blk 2 rfl rfl)) ?_
        refine O.p rfl rfl rfl (Pu.move rfl rfl) ?_
        refine O.p rfl rfl rfl (Pu.indexAddr (i) rfl Tryz.underlying24 sz51 rfl rfl (by omega) (by omega) (hx.some (by omega))) ?_
        refine O.p rfl rfl rfl (Pu.loadAgg' (v := B3.v (bs[i]'e1)) rfl rfl ag51 sz51 rfl rfl (Ld.rds (Ld.old hx) (k := i) e1 rfl)) ?_
        refine O.p rfl rfl rfl (Pu.move rfl rfl) ?_
        refine O.e rfl rfl rfl (Ef.callP call169 rfl rfl (fun w hw => l03Others_ok  (bs[i]'e1) (cpt (bs[i]'e1) (bs[j]'e2)) w   )) ?_
        rintro _ _ ⟨rfl, rfl⟩
        have tr1 := tri_oth (hS.good _ (List.getElem_mem e1)) hm.1
        have pc := good_lt (hg _ (List.getElem_mem e1)) tr1.h2
        have pe := good_lt (hg _ (List.getElem_mem e1)) tr1.h3
        refine O.p rfl rfl rfl (Pu.move rfl rfl) ?_
        refine O.p rfl rfl rfl (Pu.extract rfl rfl rfl) ?_
        refine O.p rfl rfl rfl (Pu.extract rfl rfl rfl) ?_
        refine O.p rfl rfl rfl (Pu.assign rfl rfl) ?_
        refine O.p rfl rfl rfl (Pu.assign rfl rfl) ?_
        refine O.nil ?_
        refine X.next ?_
        refine V.seq ?_
        refine V.region ?_
        refine O.p rfl rfl rfl (Pu.fieldAddr 1 rfl Tryz.underlying26 rfl sz24 rfl rfl) ?_
        refine O.p rfl rfl rfl (Pu.load rfl pl24 rfl (Ld.blk 2 rfl rfl)) ?_
        refine O.p rfl rfl rfl (Pu.move rfl rfl) ?_
        refine O.p rfl rfl rfl (Pu.indexAddr (j) rfl Tryz.underlying24 sz51 rfl rfl (by omega) (by omega) (hx.some (by omega))) ?_
        refine O.p rfl rfl rfl (Pu.loadAgg' (v := B3.v (bs[j]'e2)) rfl rfl ag51 sz51 rfl rfl (Ld.rds (Ld.old hx) (k := j) e2 rfl)) ?_
        refine O.p rfl rfl rfl (Pu.move rfl rfl) ?_
        refine O.e rfl rfl rfl (Ef.callP call169 rfl rfl (fun w hw => l03Others_ok  (bs[j]'e2) (cpt (bs[i]'e1) (bs[j]'e2)) w   )) ?_
        rintro _ _ ⟨rfl, rfl⟩
        have tr2 := tri_oth (hS.good _ (List.getElem_mem e2)) hm.2
        have pd := good_lt (hg _ (List.getElem_mem e2)) tr2.h2
        have pf := good_lt (hg _ (List.getElem_mem e2)) tr2.h3
        refine O.p rfl rfl rfl (Pu.move rfl rfl) ?_
        refine O.p rfl rfl rfl (Pu.extract rfl rfl rfl) ?_
        refine O.p rfl rfl rfl (Pu.extract rfl rfl rfl) ?_
        refine O.p rfl rfl rfl (Pu.assign rfl rfl) ?_
        refine O.p rfl rfl rfl (Pu.assign rfl rfl) ?_
        refine O.nil ?_
        refine X.next ?_
        refine V.seq ?_
        refine V.region ?_
        refine O.p rfl rfl rfl (Pu.assign rfl rfl) ?_
        refine O.nil ?_
        refine X.next ?_
        refine V.block ?_
        refine V.loop3 (β := (Option Addr) × Nat × (List (Sl × List Int)) × Int × Int × Nat) (fun x => [(3, .slice x.1 (tops x.2.2.1).length x.2.1), (9, .int .i64 (x.2.2.2.1 : Int)), (10, .int .i64 (x.2.2.2.2.1 : Int)), (11, .int .i64 (x.2.2.2.2.2 : Int))]) _ (fun x => [Own 34 SlC x.1 x.2.1 (tops x.2.2.1), RowsA 2 I64 x.2.2.1]) _ (fun x => x.2.2.2.2.2 ≤ 2 ∧ (x.2.2.2.2.2 % 2 = 0 → x.2.2.2.1 = (oth1 (bs[j]'e2) (cpt (bs[i]'e1) (bs[j]'e2))) ∧ x.2.2.2.2.1 = (oth2 (bs[j]'e2) (cpt (bs[i]'e1) (bs[j]'e2)))) ∧ (x.2.2.2.2.2 % 2 = 1 → x.2.2.2.1 = (oth2 (bs[j]'e2) (cpt (bs[i]'e1) (bs[j]'e2))) ∧ x.2.2.2.2.1 = (oth1 (bs[j]'e2) (cpt (bs[i]'e1) (bs[j]'e2)))) ∧ SrtL (conts x.2.2.1) ∧ (∀ r, r ∈ conts x.2.2.1 ↔ r ∈ conts o1 ∨ HitT bs i j (oth1 (bs[i]'e1) (cpt (bs[i]'e1) (bs[j]'e2))) (oth2 (bs[i]'e1) (cpt (bs[i]'e1) (bs[j]'e2))) (oth1 (bs[j]'e2) (cpt (bs[i]'e1) (bs[j]'e2))) (oth2 (bs[j]'e2) (cpt (bs[i]'e1) (bs[j]'e2))) x.2.2.2.2.2 r) ∧ x.2.2.1.length ≤ i * 70 + j * 2 + x.2.2.2.2.2) (fun x => 2 - x.2.2.2.2.2) (o1A, o1c, o1, (oth1 (bs[j]'e2) (cpt (bs[i]'e1) (bs[j]'e2))), (oth2 (bs[j]'e2) (cpt (bs[i]'e1) (bs[j]'e2))), 0) (by (try dsimp only); exact ⟨by omega, fun _ => ⟨rfl, rfl⟩, fun h => by omega, hs1, fun r => ⟨.inl, fun h => h.elim id (fun h => (hitT_zero h).elim)⟩, by omega⟩) (Ent.cons rfl (Ent.cons rfl (Ent.cons rfl (Ent.cons rfl (Ent.nil _))))) (Ent.cons (t := 1) rfl (Ent.cons (t := 4) rfl (Ent.cons (t := 5) rfl (Ent.cons (t := 7) rfl (Ent.cons (t := 8) rfl (Ent.nil _)))))) (Sub.keep 0 rfl (Sub.keep 0 rfl (Sub.keep 0 rfl (Sub.nil _)))) ?_
        rintro ⟨o2A, o2c, o2, d, f, turn⟩ ⟨ht, hT0, hT1, hs2, hm2, b2⟩
        dsimp only at ht hT0 hT1 hs2 hm2 b2 ⊢
        have hdf : (0 ≤ d ∧ d < 15) ∧ (0 ≤ f ∧ f < 15) := by rcases Nat.mod_two_eq_zero_or_one turn with h | h; (· rw [(hT0 h).1, (hT0 h).2]; exact ⟨pd, pf⟩); (· rw [(hT1 h).1, (hT1 h).2]; exact ⟨pf, pd⟩)
        refine V.fact (RowsA.len 1 rfl) (fun hn_o2 => ?_)
        have htl_o2 := tops_len o2
        refine V.seq ?_
        refine V.seq ?_
        refine V.region ?_
        refine O.p rfl rfl rfl (Pu.move rfl rfl) ?_
        refine O.p rfl rfl rfl (Pu.lss rfl rfl rfl) ?_
        refine O.nil ?_
        refine X.next ?_
        refine V.condD rfl (fun c4 => ?_) (fun c4 => ?_)
        · skip
          refine V.skip ?_
          refine X.next ?_
          refine V.seq ?_
          refine V.block ?_
          refine V.seq ?_
          refine V.region ?_
          refine O.p rfl rfl rfl (Pu.loadAgg rfl ag26 sz26 rfl rfl (Ld.whole 2 rfl)) ?_
          refine O.p rfl rfl rfl (Pu.move rfl rfl) ?_
          refine O.p rfl rfl rfl (Pu.move rfl rfl) ?_
          refine O.e rfl rfl rfl (Ef.callP call170 rfl rfl (fun w hw => l01Third_ok  v bs (oth1 (bs[i]'e1) (cpt (bs[i]'e1) (bs[j]'e2))) f _ _ w ((Ld.old hx) w hw) (by first | omega | (simp only [tops_len, conts_len, bl, List.length_append, List.length_cons, List.length_nil] at *; omega)) hg (by omega) (by omega))) ?_
          rintro _ _ ⟨rfl, rfl⟩
          refine O.p rfl rfl rfl (Pu.assign rfl rfl) ?_
          refine O.nil ?_
          refine X.next ?_
          refine V.seq ?_
          refine V.seq ?_
          refine V.region ?_
          refine O.p rfl rfl rfl (Pu.move rfl rfl) ?_
          refine O.p rfl rfl rfl (Pu.geq rfl rfl rfl) ?_
          refine O.p rfl rfl rfl (Pu.move rfl rfl) ?_
          refine O.splitD 69 rfl (fun c5 => ?_) (fun c5 => ?_)
          · skip
            refine O.gp rfl rfl rfl rfl rfl (Pu.loadAgg rfl ag26 sz26 rfl rfl (Ld.whole 2 rfl)) ?_
            refine O.gp rfl rfl rfl rfl rfl (Pu.move rfl rfl) ?_
            refine O.gp rfl rfl rfl rfl rfl (Pu.move rfl rfl) ?_
            refine O.ge rfl rfl rfl rfl rfl (Ef.callP call170 rfl rfl (fun w hw => l01Third_ok  v bs d (oth2 (bs[i]'e1) (cpt (bs[i]'e1) (bs[j]'e2))) _ _ w ((Ld.old hx) w hw) (by first | omega | (simp only [tops_len, conts_len, bl, List.length_append, List.length_cons, List.length_nil] at *; omega)) hg (by omega) (by omega))) ?_
            rintro _ _ ⟨rfl, rfl⟩
            refine O.gp rfl rfl rfl rfl rfl (Pu.move rfl rfl) ?_
            refine O.gp rfl rfl rfl rfl rfl (Pu.eql rfl rfl rfl) ?_
            refine O.p rfl rfl rfl (Pu.pickT rfl rfl rfl) ?_
            refine O.nil ?_
            refine X.next ?_
            refine V.condD rfl (fun c6 => ?_) (fun c6 => ?_)
            · skip
              refine V.drawS mo (by kernel_rfl) (Sub.keep 2 rfl (Sub.nil _)) (fun hwf => ?_)
              refine D.p 0 rfl rfl rfl rfl rfl rfl (Pu.move rfl rfl) ?_
              refine D.p 1 rfl rfl rfl rfl rfl rfl (Pu.move rfl rfl) ?_
              refine D.p 2 rfl rfl rfl rfl rfl rfl (Pu.move rfl rfl) ?_
              refine D.p 3 rfl rfl rfl rfl rfl rfl (Pu.loadAgg rfl ag26 sz26 rfl rfl (Ld.whole 0 rfl)) ?_
              refine D.p 4 rfl rfl rfl rfl rfl rfl (Pu.move rfl rfl) ?_
              refine D.p 5 rfl rfl rfl rfl rfl rfl (Pu.move rfl rfl) ?_
              refine D.p 7 rfl rfl rfl rfl rfl rfl (Pu.loadAgg rfl ag26 sz26 rfl rfl (Ld.whole 0 rfl)) ?_
              refine D.p 8 rfl rfl rfl rfl rfl rfl (Pu.move rfl rfl) ?_
              refine D.p 9 rfl rfl rfl rfl rfl rfl (Pu.move rfl rfl) ?_
              refine D.eff hwf (e := 6) rfl rfl rfl rfl (Ef.callP call172 rfl rfl (fun w hw => l03Number_ok  v bs (oth1 (bs[i]'e1) (cpt (bs[i]'e1) (bs[j]'e2))) f _ _ w ((Ld.old hx) w hw) (by first | omega | (simp only [tops_len, conts_len, bl, List.length_append, List.length_cons, List.length_nil] at *; omega)) )) rfl rfl rfl ?_
              rintro _ _ ⟨rfl, rfl⟩ hs
              refine ⟨fun w hw => hw.sub (Sub.keep 2 rfl (Sub.nil _)), ?_⟩
              refine D.eff hwf (e := 10) rfl rfl rfl rfl (Ef.callP call172 rfl rfl (fun w hw => l03Number_ok  v bs d (oth2 (bs[i]'e1) (cpt (bs[i]'e1) (bs[j]'e2))) _ _ w ((Ld.old hx) w hw) (by first | omega | (simp only [tops_len, conts_len, bl, List.length_append, List.length_cons, List.length_nil] at *; omega)) )) rfl rfl rfl ?_
              rintro _ _ ⟨rfl, rfl⟩ hs
              refine ⟨fun w hw => hw.sub (Sub.keep 2 rfl (Sub.nil _)), ?_⟩
              refine D.eff hwf (e := 11) rfl rfl rfl rfl (Ef.build I64 ([(↑i : Int), (↑j : Int), (num bs (oth1 (bs[i]'e1) (cpt (bs[i]'e1) (bs[j]'e2))) f), (num bs d (oth2 (bs[i]'e1) (cpt (bs[i]'e1) (bs[j]'e2))))] : List Int) rfl Tryz.underlying34 inf2 rfl rfl rfl (by first | decide | (simp; done)) (by kernel_rfl)) rfl rfl rfl ?_
              rintro _ _ ⟨A2, hA2, rfl, rfl⟩ hs
              refine ⟨fun w hw => hw.sub (Sub.keep 3 rfl (Sub.nil _)), ?_⟩
              refine D.eff hwf (e := 12) rfl rfl rfl rfl (Ef.call1 call91 rfl rfl (fun w hw => l03Ascending_ok ([(↑i : Int), (↑j : Int), (num bs (oth1 (bs[i]'e1) (cpt (bs[i]'e1) (bs[j]'e2))) f), (num bs d (oth2 (bs[i]'e1) (cpt (bs[i]'e1) (bs[j]'e2))))] : List Int) _ _ w ((Ld.own 0 (by exact rfl)) w hw) (by first | omega | (simp only [List.length_cons, List.length_nil]; omega)))) rfl rfl rfl ?_
              rintro _ _ rfl hs
              refine ⟨fun w hw => hs w hw.tail, ?_⟩
              refine D.exi (fun p1 => ?_)
              refine D.sep ?_
              refine D.pur1 ?_
              rintro ⟨rfl, hp1⟩
              refine D.eff hwf (e := 13) rfl rfl rfl rfl (Ef.call call171 rfl rfl (Does.pre (fun w hw => hw.sub (Sub.keep 2 rfl (Sub.keep 2 rfl (Sub.keep 0 rfl (Sub.keep 0 rfl (Sub.keep 0 rfl (Sub.nil _))))))) (l03Put_ok o2 _ _ _ _ _ _ _ hs2 (by omega)))) rfl rfl rfl ?_
              rintro _ _ rfl hs
              refine ⟨fun w hw => hw.tail.sub (Sub.keep 1 rfl (Sub.nil _)), ?_⟩
              refine D.exi (fun p2 => ?_)
              refine D.sep ?_
              refine D.pur1 ?_
              rintro ⟨rfl, hp2_1, hp2_2, hp2_3⟩
              refine D.sep ?_
              refine D.last hwf (e := 14) rfl rfl rfl rfl rfl rfl (Pu.assign rfl rfl) ?_
              refine X.next ?_
              refine V.region ?_
              refine O.p rfl rfl rfl (Pu.move rfl rfl) ?_
              refine O.p rfl rfl rfl (Pu.move rfl rfl) ?_
              refine O.p rfl rfl rfl (Pu.assign rfl rfl) ?_
              refine O.p rfl rfl rfl (Pu.assign rfl rfl) ?_
              refine O.nil ?_
              refine X.blockNormal ?_
              refine X.next ?_
              refine V.region ?_
              refine O.p rfl rfl rfl (Pu.move rfl rfl) ?_
              refine O.p rfl rfl rfl (Pu.add64 (r := ((turn + 1 : Nat) : Int)) rfl (by omega) rfl rfl rfl) ?_
              refine O.p rfl rfl rfl (Pu.assign rfl rfl) ?_
              refine O.nil ?_
              exact X.back3 (p2.1.1, p2.1.2, p2.2, f, d, turn + 1) (by (try dsimp only); exact ⟨by omega, fun h => ⟨(hT1 (by omega)).2, (hT1 (by omega)).1⟩, fun h => ⟨(hT0 (by omega)).2, (hT0 (by omega)).1⟩, hp2_1, fun r => by rw [hp2_2 r, hm2 r, hitT_step (by omega) hT0 hT1, hit_eq (by omega) c6 hp1.1 hp1.2, or_assoc], by omega⟩) (by first | omega | (dsimp only; omega)) (Ent.cons' rfl (by first | rfl | (simp only [tops_append]; done) | (simp only [tops_append]; rfl)) (Ent.cons rfl (Ent.cons rfl (Ent.cons rfl (Ent.nil _))))) (Ent.cons (t := 1) rfl (Ent.cons (t := 4) rfl (Ent.cons (t := 5) rfl (Ent.cons (t := 7) rfl (Ent.cons (t := 8) rfl (Ent.nil _)))))) (Sub.keep 0 rfl (Sub.keep 0 rfl (Sub.keep 1 rfl (Sub.nil _))))
            · skip
              refine V.skip ?_
              refine X.next ?_
              refine V.region ?_
              refine O.p rfl rfl rfl (Pu.move rfl rfl) ?_
              refine O.p rfl rfl rfl (Pu.move rfl rfl) ?_
              refine O.p rfl rfl rfl (Pu.assign rfl rfl) ?_
              refine O.p rfl rfl rfl (Pu.assign rfl rfl) ?_
              refine O.nil ?_
              refine X.blockNormal ?_
              refine X.next ?_
              refine V.region ?_
              refine O.p rfl rfl rfl (Pu.move rfl rfl) ?_
              refine O.p rfl rfl rfl (Pu.add64 (r := ((turn + 1 : Nat) : Int)) rfl (by omega) rfl rfl rfl) ?_
              refine O.p rfl rfl rfl (Pu.assign rfl rfl) ?_
              refine O.nil ?_
              exact X.back3 (o2A, o2c, o2, f, d, turn + 1) (by (try dsimp only); exact ⟨by omega, fun h => ⟨(hT1 (by omega)).2, (hT1 (by omega)).1⟩, fun h => ⟨(hT0 (by omega)).2, (hT0 (by omega)).1⟩, hs2, fun r => by rw [hm2 r, hitT_step (by omega) hT0 hT1]; exact ⟨fun h => h.imp id .inl, fun h => h.imp id (fun h => h.elim id (fun h => (c6 h.2.1).elim))⟩, by omega⟩) (by first | omega | (dsimp only; omega)) (Ent.cons' rfl (by first | rfl | (simp only [tops_append]; done) | (simp only [tops_append]; rfl)) (Ent.cons rfl (Ent.cons rfl (Ent.cons rfl (Ent.nil _))))) (Ent.cons (t := 1) rfl (Ent.cons (t := 4) rfl (Ent.cons (t := 5) rfl (Ent.cons (t := 7) rfl (Ent.cons (t := 8) rfl (Ent.nil _)))))) (Sub.keep 0 rfl (Sub.keep 0 rfl (Sub.keep 0 rfl (Sub.nil _))))
          · skip
            refine O.gs rfl rfl rfl rfl rfl rfl ?_
            refine O.gs rfl rfl rfl rfl rfl rfl ?_
            refine O.gs rfl rfl rfl rfl rfl rfl ?_
            refine O.gs rfl rfl rfl rfl rfl rfl ?_
            refine O.gs rfl rfl rfl rfl rfl rfl ?_
            refine O.gs rfl rfl rfl rfl rfl rfl ?_
            refine O.p rfl rfl rfl (Pu.pickF rfl rfl rfl) ?_
            refine O.nil ?_
            refine X.next ?_
            refine V.condF rfl ?_
            refine V.skip ?_
            refine X.next ?_
            refine V.region ?_
            refine O.p rfl rfl rfl (Pu.move rfl rfl) ?_
            refine O.p rfl rfl rfl (Pu.move rfl rfl) ?_
            refine O.p rfl rfl rfl (Pu.assign rfl rfl) ?_
            refine O.p rfl rfl rfl (Pu.assign rfl rfl) ?_
            refine O.nil ?_
            refine X.blockNormal ?_
            refine X.next ?_
            refine V.region ?_
            refine O.p rfl rfl rfl (Pu.move rfl rfl) ?_
            refine O.p rfl rfl rfl (Pu.add64 (r := ((turn + 1 : Nat) : Int)) rfl (by omega) rfl rfl rfl) ?_
            refine O.p rfl rfl rfl (Pu.assign rfl rfl) ?_
            refine O.nil ?_
            exact X.back3 (o2A, o2c, o2, f, d, turn + 1) (by (try dsimp only); exact ⟨by omega, fun h => ⟨(hT1 (by omega)).2, (hT1 (by omega)).1⟩, fun h => ⟨(hT0 (by omega)).2, (hT0 (by omega)).1⟩, hs2, fun r => by rw [hm2 r, hitT_step (by omega) hT0 hT1]; exact ⟨fun h => h.imp id .inl, fun h => h.imp id (fun h => h.elim id (fun h => (h.1 (by omega)).elim))⟩, by omega⟩) (by first | omega | (dsimp only; omega)) (Ent.cons' rfl (by first | rfl | (simp only [tops_append]; done) | (simp only [tops_append]; rfl)) (Ent.cons rfl (Ent.cons rfl (Ent.cons rfl (Ent.nil _))))) (Ent.cons (t := 1) rfl (Ent.cons (t := 4) rfl (Ent.cons (t := 5) rfl (Ent.cons (t := 7) rfl (Ent.cons (t := 8) rfl (Ent.nil _)))))) (Sub.keep 0 rfl (Sub.keep 0 rfl (Sub.keep 0 rfl (Sub.nil _))))
        · skip
          refine V.exit ?_
          refine X.thenExit ?_
          refine X.thenExit ?_
          refine X.blockHit ?_
          refine X.blockNormal ?_
          refine X.next ?_
          refine V.region ?_
          refine O.p rfl rfl rfl (Pu.move rfl rfl) ?_
          refine O.p rfl rfl rfl (Pu.add64 (r := ((j + 1 : Nat) : Int)) rfl (by omega) rfl rfl rfl) ?_
          refine O.p rfl rfl rfl (Pu.assign rfl rfl) ?_
          refine O.nil ?_
          exact X.back3 (o2A, o2c, o2, j + 1) (by (try dsimp only); exact ⟨by omega, hs2, fun r => by rw [hm2 r, seen_step (by omega), ← hit_iff hS e1 e2 (by omega) tr1 tr2 r, ← hitT_end (show 2 ≤ turn by omega), hm1 r], by omega⟩) (by first | omega | (dsimp only; omega)) (Ent.cons' rfl (by first | rfl | (simp only [tops_append]; done) | (simp only [tops_append]; rfl)) (Ent.cons rfl (Ent.nil _))) (Ent.cons (t := 1) rfl (Ent.cons (t := 4) rfl (Ent.nil _))) (Sub.keep 0 rfl (Sub.keep 0 rfl (Sub.keep 0 rfl (Sub.nil _))))
    · skip
      refine V.exit ?_
      refine X.thenExit ?_
      refine X.thenExit ?_
      refine X.blockHit ?_
      refine X.blockNormal ?_
      refine X.next ?_
      refine V.region ?_
      refine O.p rfl rfl rfl (Pu.move rfl rfl) ?_
      refine O.p rfl rfl rfl (Pu.add64 (r := ((i + 1 : Nat) : Int)) rfl (by omega) rfl rfl rfl) ?_
      refine O.p rfl rfl rfl (Pu.assign rfl rfl) ?_
      refine O.nil ?_
      exact X.back3 (o1A, o1c, o1, i + 1) (by (try dsimp only); exact ⟨by omega, hs1, fun r => by rw [hm1 r, ← seen_row, show j = i by omega], by omega⟩) (by first | omega | (dsimp only; omega)) (Ent.cons' rfl (by first | rfl | (simp only [tops_append]; done) | (simp only [tops_append]; rfl)) (Ent.cons rfl (Ent.nil _))) (Ent.cons (t := 1) rfl (Ent.nil _)) (Sub.keep 0 rfl (Sub.keep 0 rfl (Sub.keep 0 rfl (Sub.nil _))))
  · skip
    refine V.exit ?_
    refine X.thenExit ?_
    refine X.thenExit ?_
    refine X.blockHit ?_
    refine X.next ?_
    refine V.seq ?_
    refine V.region ?_
    refine O.p rfl rfl rfl (Pu.move rfl rfl) ?_
    refine O.p rfl rfl rfl (Pu.assign rfl rfl) ?_
    refine O.nil ?_
    refine X.next ?_
    refine V.ret ?_
    refine X.ret1 rfl rfl ?_
    exact fun w hw => St.mkExi outA (St.mkExi outc (St.mkExi out (St.unsep (St.addPur ⟨(by first | rfl | (simp only [tops_append]; done) | (simp only [tops_append]; rfl)), ⟨hs0, fun r => by rw [hm0 r, show i = bs.length by omega, seen_all]⟩, by omega⟩ (St.unsep (hw.sub (Sub.keep 0 rfl (Sub.keep 0 rfl (Sub.nil _)))))))))
set_option maxRecDepth 100000 in
set_option maxHeartbeats 1000000 in
theorem specPaschList_ok (v : Int) (bs : List B3) (A : Option Addr) (c : Nat) (w : World) (hx : Rd B3C w A bs) (lx : bs.length ≤ 4611686018427387904) : Does Tryz.prog 10 [.agg #[.int .i64 v, .slice A bs.length c]] w [] (fun r => [.exi fun (pA : Option Addr) => .exi fun (pc : Nat) => .exi fun (p : List (Sl × List Int)) => .sep (.pur (r = .tuple #[.slice pA (tops p).length pc, .int .i64 (if STS v bs then 0 else 1)] ∧ ResL (STS v bs) (PQ bs) (conts p) ∧ p.length ≤ 1500625)) (.sep (Own 34 SlC pA pc (tops p)) (RowsA 2 I64 p))]) := by
  refine Does.enter Tryz.func10 rfl rfl [(0, .agg #[.int .i64 v, .slice A bs.length c])] rfl ?_
  refine V.seq ?_
  refine V.region ?_
  refine O.e rfl rfl rfl (Ef.box rfl rfl rfl) ?_
  rintro _ _ ⟨b1, rfl, rfl⟩
  refine O.p rfl rfl rfl (Pu.assign rfl rfl) ?_
  refine O.p rfl rfl rfl (Pu.assign rfl rfl) ?_
  refine O.nil ?_
  refine X.next ?_
  refine V.seq ?_
  refine V.seq ?_
  refine V.region ?_
  refine O.p rfl rfl rfl (Pu.loadAgg rfl ag26 sz26 rfl rfl (Ld.whole 0 rfl)) ?_
  refine O.e rfl rfl rfl (Ef.callP call79 rfl rfl (fun w hw => l01Is_ok _ bs _ _ w ((Ld.old hx) w hw) (by omega))) ?_
  rintro _ _ ⟨rfl, rfl⟩
  refine O.p rfl rfl rfl (Pu.not rfl rfl) ?_
  refine O.nil ?_
  refine X.next ?_
  refine V.condNot rfl (fun c1 => ?_) (fun c1 => ?_)
  · skip
    refine V.seq ?_
    refine V.region ?_
    refine O.p rfl rfl rfl (Pu.assign rfl rfl) ?_
    refine O.p rfl rfl rfl (Pu.assign rfl rfl) ?_
    refine O.nil ?_
    refine X.next ?_
    refine V.ret ?_
    refine X.thenRet ?_
    refine X.ret2 rfl rfl rfl ?_
    exact fun w hw => St.mkExi none (St.mkExi 0 (St.mkExi [] (St.unsep (St.addPur ⟨by rw [if_neg c1]; rfl, ⟨fun h => absurd h c1, fun _ => rfl⟩, by simp⟩ (St.unsep (St.addNil (T := 34) (C := SlC) (RowsA.nil (T := 2) (C := I64) (hw.sub (Sub.nil _)))))))))
  · skip
    refine V.skip ?_
    refine X.next ?_
    refine V.seq ?_
    refine V.region ?_
    refine O.p rfl rfl rfl (Pu.loadAgg rfl ag26 sz26 rfl rfl (Ld.whole 0 rfl)) ?_
    refine O.e rfl rfl rfl (Ef.call1 call80 rfl rfl (fun w hw => l03Pasch_ok  v bs _ _ w ((Ld.old hx) w hw) (by first | omega | (simp only [tops_len, conts_len, bl, List.length_append, List.length_cons, List.length_nil] at *; omega)) (by first | assumption | omega | (try dsimp only at *; omega)))) ?_
    rintro _ _ rfl
    refine O.exi (fun p1A => ?_)
    refine O.exi (fun p1c => ?_)
    refine O.exi (fun p1 => ?_)
    refine O.sep ?_
    refine O.pur ?_
    rintro ⟨rfl, hp1_1, hp1_2⟩
    refine O.sep ?_
    refine O.fact (RowsA.len 1 rfl) (fun hn_p1 => ?_)
    have htl_p1 := tops_len p1
    refine O.p rfl rfl rfl (Pu.assign rfl rfl) ?_
    refine O.p rfl rfl rfl (Pu.assign rfl rfl) ?_
    refine O.nil ?_
    refine X.next ?_
    refine V.ret ?_
    refine X.ret2 rfl rfl rfl ?_
    exact fun w hw => St.mkExi p1A (St.mkExi p1c (St.mkExi p1 (St.unsep (St.addPur ⟨by rw [if_pos c1], ⟨fun _ => hp1_1, fun h => absurd c1 h⟩, by omega⟩ (St.unsep (hw.sub (Sub.keep 0 rfl (Sub.keep 0 rfl (Sub.nil _)))))))))
end Go.Proofs.YtgjfcepnkllklaaGreat
