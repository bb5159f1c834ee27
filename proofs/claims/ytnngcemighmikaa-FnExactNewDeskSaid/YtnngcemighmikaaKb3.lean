/-
  Contracts, part 3.
-/
import Derived.Test.YtnngcemighmikaaKb2
set_option linter.unusedVariables false
set_option linter.unusedSimpArgs false
namespace Go.Proofs.Ytnngcemighmikaa
open Go Go.RowKit Go.Vc Go.Proofs
set_option maxRecDepth 100000 in
set_option maxHeartbeats 1000000 in
theorem turnedBlocks_ok (v_ : Int) (blocks : List B3) (blocksA : Option Addr) (blocksc : Nat) (w : World) (hblocks : Rd B3C w blocksA blocks) (lblocks : blocks.length ≤ 1099511627776) (hv : 0 < v_ ∧ v_ ≤ 15) (hb : ∀ b ∈ blocks, (0 ≤ b.1 ∧ b.1 ≤ 1000) ∧ (0 ≤ b.2.1 ∧ b.2.1 ≤ 1000) ∧ (0 ≤ b.2.2 ∧ b.2.2 ≤ 1000)) (lb : blocks.length ≤ 100) : Does Try.prog 74 [.int .i64 v_, .slice blocksA blocks.length blocksc] w [] (fun rv_ => [.exi fun (rA : Option Addr) => .exi fun (rc : Nat) => .exi fun (r : List B3) => .sep (.pur (rv_ = .agg #[.int .i64 v_, .slice rA r.length rc] ∧ r.Perm (tblT v_ blocks) ∧ SrtB r)) (Own 70 B3C rA rc r)]) := by
  refine Does.enter Try.func74 rfl rfl [(0, .int .i64 v_), (1, .slice blocksA blocks.length blocksc)] rfl ?_
  refine V.seq ?_
  refine V.region ?_
  refine O.e rfl rfl rfl (Ef.alloc rfl zr28 rfl) ?_
  rintro _ _ ⟨b1, rfl, rfl⟩
  refine O.nil ?_
  refine X.next ?_
  refine V.seq ?_
  refine V.region ?_
  refine O.p rfl rfl rfl (Pu.assign rfl rfl) ?_
  refine O.nil ?_
  refine X.next ?_
  refine V.seq ?_
  refine V.seq ?_
  refine V.region ?_
  refine O.p rfl rfl rfl (Pu.move rfl rfl) ?_
  refine O.p rfl rfl rfl (Pu.len rfl Try.underlying26 rfl) ?_
  refine O.p rfl rfl rfl (Pu.move rfl rfl) ?_
  refine O.nil ?_
  refine X.next ?_
  refine V.block ?_
  refine V.map (fun w hw => St.addNil (T := 70) (C := B3C) hw) ?_
  refine V.loop3 (β := (Option Addr) × Nat × (List B3) × Nat) (fun x => [(5, .slice x.1 x.2.2.1.length x.2.1), (12, .int .i64 (x.2.2.2 : Int))]) _ (fun x => [Own 70 B3C x.1 x.2.1 x.2.2.1]) _ (fun x => x.2.2.2 ≤ blocks.length ∧ x.2.2.1 = tblT v_ (blocks.take x.2.2.2)) (fun x => blocks.length - x.2.2.2) (none, 0, [], 0) (by (try dsimp only); exact ⟨by omega, rfl⟩) (Ent.cons rfl (Ent.cons rfl (Ent.nil _))) (Ent.cons (t := 0) rfl (Ent.cons (t := 4) rfl (Ent.cons (t := 10) rfl (Ent.cons (t := 11) rfl (Ent.nil _))))) (Sub.keep 0 rfl (Sub.keep 0 rfl (Sub.nil _))) ?_
  rintro ⟨listA, listc, list, i⟩ ⟨hi, ho⟩
  dsimp only at hi ho ⊢
  have hol : list.length ≤ 100 * 15 := by rw [ho]; refine Nat.le_trans (tblT_len _) (Nat.mul_le_mul ?_ (by omega)); rw [List.length_take]; omega
  refine V.seq ?_
  refine V.region ?_
  refine O.p rfl rfl rfl (Pu.lss rfl rfl rfl) ?_
  refine O.nil ?_
  refine X.next ?_
  refine V.seq ?_
  refine V.condD rfl (fun c1 => ?_) (fun c1 => ?_)
  · skip
    refine V.skip ?_
    refine X.next ?_
    refine V.seq ?_
    refine V.block ?_
    refine V.seq ?_
    have ei : i < blocks.length := by omega
    have hbi := hb (blocks[i]'ei) (List.getElem_mem ei)
    refine V.region ?_
    refine O.p rfl rfl rfl (Pu.indexAddr (i) rfl Try.underlying26 sz70 rfl rfl (by omega) (by omega) (hblocks.some (by omega))) ?_
    refine O.p rfl rfl rfl (Pu.loadAgg' (v := B3.v (blocks[i]'ei)) rfl rfl ag70 sz70 rfl rfl (Ld.rds (Ld.old hblocks) (k := i) ei rfl)) ?_
    refine O.e rfl rfl rfl (Ef.alloc rfl zr70 rfl) ?_
    rintro _ _ ⟨b2, rfl, rfl⟩
    refine O.s rfl rfl (Ef.storeAll 0 rfl sz70 rfl rfl rfl rfl (by simp [Value.oneCell']) rfl) ?_
    rintro _ _ rfl
    refine O.nil ?_
    refine X.next ?_
    refine V.seq ?_
    refine V.region ?_
    refine O.p rfl rfl rfl (Pu.move rfl rfl) ?_
    refine O.p rfl rfl rfl (Pu.move rfl rfl) ?_
    refine O.nil ?_
    refine X.next ?_
    refine V.block ?_
    refine V.loop3 (β := (Option Addr) × Nat × (List B3) × Nat) (fun x => [(5, .slice x.1 x.2.2.1.length x.2.1), (17, .int .i64 (x.2.2.2 : Int))]) _ (fun x => [Own 70 B3C x.1 x.2.1 x.2.2.1]) _ (fun x => x.2.2.2 ≤ v_.toNat ∧ x.2.2.1 = rowT v_ list (blocks[i]'ei) x.2.2.2) (fun x => v_.toNat - x.2.2.2) (listA, listc, list, 0) (by (try dsimp only); exact ⟨by omega, rfl⟩) (Ent.cons rfl (Ent.cons rfl (Ent.nil _))) (Ent.cons (t := 0) rfl (Ent.cons (t := 4) rfl (Ent.cons (t := 7) rfl (Ent.cons (t := 10) rfl (Ent.cons (t := 11) rfl (Ent.cons (t := 12) rfl (Ent.cons (t := 16) rfl (Ent.nil _)))))))) (Sub.keep 1 rfl (Sub.keep 0 rfl (Sub.keep 0 rfl (Sub.nil _)))) ?_
    rintro ⟨list2A, list2c, list2, j⟩ ⟨hj, hq⟩
    dsimp only at hj hq ⊢
    have hql : list2.length ≤ list.length + j := by rw [hq]; exact rowT_len j
    refine V.seq ?_
    refine V.region ?_
    refine O.p rfl rfl rfl (Pu.lss rfl rfl rfl) ?_
    refine O.nil ?_
    refine X.next ?_
    refine V.seq ?_
    refine V.condD rfl (fun c2 => ?_) (fun c2 => ?_)
    · skip
      refine V.skip ?_
      refine X.next ?_
      refine V.seq ?_
      refine V.block ?_
      refine V.seq ?_
      refine V.region ?_
      refine O.p rfl rfl rfl (Pu.move rfl rfl) ?_
      refine O.p rfl rfl rfl (Pu.assign rfl rfl) ?_
      refine O.nil ?_
      refine X.next ?_
      refine V.seq ?_
      refine V.draw mo (by kernel_rfl) (fun hwf => ?_)
      refine D.p 0 rfl rfl rfl rfl rfl rfl (Pu.indexArr 0 0 rfl Try.underlying70 sz2 rfl rfl (by decide) (by decide) (by decide)) ?_
      refine D.p 1 rfl rfl rfl rfl rfl rfl (Pu.load rfl pl2 rfl (Ld.blk 1 rfl rfl)) ?_
      refine D.p 2 rfl rfl rfl rfl rfl rfl (Pu.move rfl rfl) ?_
      refine D.p 3 rfl rfl rfl rfl rfl rfl (Pu.add64 rfl (by omega) rfl rfl rfl) ?_
      refine D.p 4 rfl rfl rfl rfl rfl rfl (Pu.move rfl rfl) ?_
      refine D.p 5 rfl rfl rfl rfl rfl rfl (Pu.rem64 (by omega) (by omega) rfl rfl rfl) ?_
      refine D.p 6 rfl rfl rfl rfl rfl rfl (Pu.indexArr 1 1 rfl Try.underlying70 sz2 rfl rfl (by decide) (by decide) (by decide)) ?_
      refine D.p 7 rfl rfl rfl rfl rfl rfl (Pu.load rfl pl2 rfl (Ld.blk 1 rfl rfl)) ?_
      refine D.p 8 rfl rfl rfl rfl rfl rfl (Pu.move rfl rfl) ?_
      refine D.p 9 rfl rfl rfl rfl rfl rfl (Pu.add64 rfl (by omega) rfl rfl rfl) ?_
      refine D.p 10 rfl rfl rfl rfl rfl rfl (Pu.move rfl rfl) ?_
      refine D.p 11 rfl rfl rfl rfl rfl rfl (Pu.rem64 (by omega) (by omega) rfl rfl rfl) ?_
      refine D.p 12 rfl rfl rfl rfl rfl rfl (Pu.indexArr 2 2 rfl Try.underlying70 sz2 rfl rfl (by decide) (by decide) (by decide)) ?_
      refine D.p 13 rfl rfl rfl rfl rfl rfl (Pu.load rfl pl2 rfl (Ld.blk 1 rfl rfl)) ?_
      refine D.p 14 rfl rfl rfl rfl rfl rfl (Pu.move rfl rfl) ?_
      refine D.p 15 rfl rfl rfl rfl rfl rfl (Pu.add64 rfl (by omega) rfl rfl rfl) ?_
      refine D.p 16 rfl rfl rfl rfl rfl rfl (Pu.move rfl rfl) ?_
      refine D.p 17 rfl rfl rfl rfl rfl rfl (Pu.rem64 (by omega) (by omega) rfl rfl rfl) ?_
      refine D.either hwf (e1 := 18) (e2 := 19) rfl ?_ ?_
      · skip
        refine ⟨_, _, rfl, rfl, fun _ _ => wanted_none rfl _, Ef.callP call82 rfl rfl (fun w hw => blockOf_ok  (((blocks[i]'ei).1 + (↑j : Int)) % v_) (((blocks[i]'ei).2.1 + (↑j : Int)) % v_) (((blocks[i]'ei).2.2 + (↑j : Int)) % v_) w   ), rfl, rfl, ?_⟩
        rintro _ _ ⟨rfl, rfl⟩ hs
        refine ⟨fun w hw => hw, ?_⟩
        refine D.eff hwf (e := 19) rfl rfl rfl rfl (Ef.alloc rfl zr70 rfl) rfl rfl rfl ?_
        rintro _ _ ⟨b3, rfl, rfl⟩ hs
        refine ⟨fun w hw => hw.sub (Sub.keep 1 rfl (Sub.keep 1 rfl (Sub.keep 1 rfl (Sub.nil _)))), ?_⟩
        refine D.eff hwf (e := 20) rfl rfl rfl rfl (Ef.storeAll 0 rfl sz70 rfl rfl rfl rfl (by simp [Value.oneCell']) rfl) rfl rfl rfl ?_
        rintro _ _ rfl hs
        refine ⟨fun w hw => hw.sub (Sub.keep 1 rfl (Sub.keep 1 rfl (Sub.keep 1 rfl (Sub.nil _)))), ?_⟩
        refine D.done hwf rfl ?_
        refine X.next ?_
        refine V.seq ?_
        refine V.region ?_
        refine O.p rfl rfl rfl (Pu.move rfl rfl) ?_
        refine O.p rfl rfl rfl (Pu.loadAgg' (v := B3.v (bk3 (((blocks[i]'ei).1 + (↑j : Int)) % v_) (((blocks[i]'ei).2.1 + (↑j : Int)) % v_) (((blocks[i]'ei).2.2 + (↑j : Int)) % v_))) rfl rfl ag70 sz70 rfl rfl (Ld.whole 0 rfl)) ?_
        refine O.e rfl rfl rfl (Ef.callP call72 rfl rfl (fun w hw => containsBl_ok  list2 (bk3 (((blocks[i]'ei).1 + (↑j : Int)) % v_) (((blocks[i]'ei).2.1 + (↑j : Int)) % v_) (((blocks[i]'ei).2.2 + (↑j : Int)) % v_)) _ _ w ((Ld.own 1 (by exact rfl)) w hw) (by first | omega | (simp only [tops_len, conts_len, bl, List.length_append, List.length_cons, List.length_nil] at *; omega)) )) ?_
        rintro _ _ ⟨rfl, rfl⟩
        refine O.p rfl rfl rfl (Pu.not rfl rfl) ?_
        refine O.nil ?_
        refine X.next ?_
        refine V.condNot rfl (fun c3 => ?_) (fun c3 => ?_)
        · skip
          refine V.region ?_
          refine O.p rfl rfl rfl (Pu.move rfl rfl) ?_
          refine O.p rfl rfl rfl (Pu.loadAgg' (v := B3.v (bk3 (((blocks[i]'ei).1 + (↑j : Int)) % v_) (((blocks[i]'ei).2.1 + (↑j : Int)) % v_) (((blocks[i]'ei).2.2 + (↑j : Int)) % v_))) rfl rfl ag70 sz70 rfl rfl (Ld.whole 0 rfl)) ?_
          refine O.e rfl rfl rfl (Ef.build B3C ([(bk3 (((blocks[i]'ei).1 + (↑j : Int)) % v_) (((blocks[i]'ei).2.1 + (↑j : Int)) % v_) (((blocks[i]'ei).2.2 + (↑j : Int)) % v_))] : List B3) rfl Try.underlying26 inf70 rfl rfl rfl (by first | decide | (simp; done)) (by kernel_rfl)) ?_
          rintro _ _ ⟨A1, hA1, rfl, rfl⟩
          refine O.e rfl rfl rfl (Ef.append (xs := list2) (ys := ([(bk3 (((blocks[i]'ei).1 + (↑j : Int)) % v_) (((blocks[i]'ei).2.1 + (↑j : Int)) % v_) (((blocks[i]'ei).2.2 + (↑j : Int)) % v_))] : List B3)) 2 rfl Try.underlying26 inf70 rfl rfl rfl rfl rfl rfl hA1 (Ld.own 0 (by exact rfl)) (by simp only [List.length_append, List.length_cons, List.length_nil] at *; omega) (by decide)) ?_
          rintro _ _ ⟨A2, k1, rfl, rfl, hA2⟩
          replace hA2 := hA2 (.inr (by simp))
          refine O.p rfl rfl rfl (Pu.assign rfl rfl) ?_
          refine O.nil ?_
          refine X.blockNormal ?_
          refine X.next ?_
          refine V.region ?_
          refine O.p rfl rfl rfl (Pu.add64 (r := ((j + 1 : Nat) : Int)) rfl (by omega) rfl rfl rfl) ?_
          refine O.p rfl rfl rfl (Pu.move rfl rfl) ?_
          refine O.nil ?_
          exact X.back3 (A2, k1, (list2 ++ ([(bk3 (((blocks[i]'ei).1 + (↑j : Int)) % v_) (((blocks[i]'ei).2.1 + (↑j : Int)) % v_) (((blocks[i]'ei).2.2 + (↑j : Int)) % v_))] : List B3)), j + 1) (by (try dsimp only); exact ⟨by omega, by rw [hq]; exact (rowT_no (by rw [← hq]; exact c3)).symm⟩) (by first | omega | (dsimp only; omega)) (Ent.cons rfl (Ent.cons rfl (Ent.nil _))) (Ent.cons (t := 0) rfl (Ent.cons (t := 4) rfl (Ent.cons (t := 7) rfl (Ent.cons (t := 10) rfl (Ent.cons (t := 11) rfl (Ent.cons (t := 12) rfl (Ent.cons (t := 16) rfl (Ent.nil _)))))))) (Sub.keep 2 rfl (Sub.keep 2 rfl (Sub.keep 2 rfl (Sub.nil _))))
        · skip
          refine V.skip ?_
          refine X.blockNormal ?_
          refine X.next ?_
          refine V.region ?_
          refine O.p rfl rfl rfl (Pu.add64 (r := ((j + 1 : Nat) : Int)) rfl (by omega) rfl rfl rfl) ?_
          refine O.p rfl rfl rfl (Pu.move rfl rfl) ?_
          refine O.nil ?_
          exact X.back3 (list2A, list2c, list2, j + 1) (by (try dsimp only); exact ⟨by omega, by rw [hq]; exact (rowT_yes (by rw [← hq]; exact c3)).symm⟩) (by first | omega | (dsimp only; omega)) (Ent.cons rfl (Ent.cons rfl (Ent.nil _))) (Ent.cons (t := 0) rfl (Ent.cons (t := 4) rfl (Ent.cons (t := 7) rfl (Ent.cons (t := 10) rfl (Ent.cons (t := 11) rfl (Ent.cons (t := 12) rfl (Ent.cons (t := 16) rfl (Ent.nil _)))))))) (Sub.keep 1 rfl (Sub.keep 1 rfl (Sub.keep 1 rfl (Sub.nil _))))
      · skip
        refine ⟨_, _, rfl, rfl, fun _ _ => wanted_none rfl _, Ef.alloc rfl zr70 rfl, rfl, rfl, ?_⟩
        rintro _ _ ⟨b3, rfl, rfl⟩ hs
        refine ⟨fun w hw => hw.sub (Sub.keep 1 rfl (Sub.keep 1 rfl (Sub.keep 1 rfl (Sub.nil _)))), ?_⟩
        refine D.eff hwf (e := 18) rfl rfl rfl rfl (Ef.callP call82 rfl rfl (fun w hw => blockOf_ok  (((blocks[i]'ei).1 + (↑j : Int)) % v_) (((blocks[i]'ei).2.1 + (↑j : Int)) % v_) (((blocks[i]'ei).2.2 + (↑j : Int)) % v_) w   )) rfl rfl rfl ?_
        rintro _ _ ⟨rfl, rfl⟩ hs
        refine ⟨fun w hw => hw.sub (Sub.keep 1 rfl (Sub.keep 1 rfl (Sub.keep 1 rfl (Sub.nil _)))), ?_⟩
        refine D.eff hwf (e := 20) rfl rfl rfl rfl (Ef.storeAll 0 rfl sz70 rfl rfl rfl rfl (by simp [Value.oneCell']) rfl) rfl rfl rfl ?_
        rintro _ _ rfl hs
        refine ⟨fun w hw => hw.sub (Sub.keep 1 rfl (Sub.keep 1 rfl (Sub.keep 1 rfl (Sub.nil _)))), ?_⟩
        refine D.done hwf rfl ?_
        refine X.next ?_
        refine V.seq ?_
        refine V.region ?_
        refine O.p rfl rfl rfl (Pu.move rfl rfl) ?_
        refine O.p rfl rfl rfl (Pu.loadAgg' (v := B3.v (bk3 (((blocks[i]'ei).1 + (↑j : Int)) % v_) (((blocks[i]'ei).2.1 + (↑j : Int)) % v_) (((blocks[i]'ei).2.2 + (↑j : Int)) % v_))) rfl rfl ag70 sz70 rfl rfl (Ld.whole 0 rfl)) ?_
        refine O.e rfl rfl rfl (Ef.callP call72 rfl rfl (fun w hw => containsBl_ok  list2 (bk3 (((blocks[i]'ei).1 + (↑j : Int)) % v_) (((blocks[i]'ei).2.1 + (↑j : Int)) % v_) (((blocks[i]'ei).2.2 + (↑j : Int)) % v_)) _ _ w ((Ld.own 1 (by exact rfl)) w hw) (by first | omega | (simp only [tops_len, conts_len, bl, List.length_append, List.length_cons, List.length_nil] at *; omega)) )) ?_
        rintro _ _ ⟨rfl, rfl⟩
        refine O.p rfl rfl rfl (Pu.not rfl rfl) ?_
        refine O.nil ?_
        refine X.next ?_
        refine V.condNot rfl (fun c3 => ?_) (fun c3 => ?_)
        · skip
          refine V.region ?_
          refine O.p rfl rfl rfl (Pu.move rfl rfl) ?_
          refine O.p rfl rfl rfl (Pu.loadAgg' (v := B3.v (bk3 (((blocks[i]'ei).1 + (↑j : Int)) % v_) (((blocks[i]'ei).2.1 + (↑j : Int)) % v_) (((blocks[i]'ei).2.2 + (↑j : Int)) % v_))) rfl rfl ag70 sz70 rfl rfl (Ld.whole 0 rfl)) ?_
          refine O.e rfl rfl rfl (Ef.build B3C ([(bk3 (((blocks[i]'ei).1 + (↑j : Int)) % v_) (((blocks[i]'ei).2.1 + (↑j : Int)) % v_) (((blocks[i]'ei).2.2 + (↑j : Int)) % v_))] : List B3) rfl Try.underlying26 inf70 rfl rfl rfl (by first | decide | (simp; done)) (by kernel_rfl)) ?_
          rintro _ _ ⟨A1, hA1, rfl, rfl⟩
          refine O.e rfl rfl rfl (Ef.append (xs := list2) (ys := ([(bk3 (((blocks[i]'ei).1 + (↑j : Int)) % v_) (((blocks[i]'ei).2.1 + (↑j : Int)) % v_) (((blocks[i]'ei).2.2 + (↑j : Int)) % v_))] : List B3)) 2 rfl Try.underlying26 inf70 rfl rfl rfl rfl rfl rfl hA1 (Ld.own 0 (by exact rfl)) (by simp only [List.length_append, List.length_cons, List.length_nil] at *; omega) (by decide)) ?_
          rintro _ _ ⟨A2, k1, rfl, rfl, hA2⟩
          replace hA2 := hA2 (.inr (by simp))
          refine O.p rfl rfl rfl (Pu.assign rfl rfl) ?_
          refine O.nil ?_
          refine X.blockNormal ?_
          refine X.next ?_
          refine V.region ?_
          refine O.p rfl rfl rfl (Pu.add64 (r := ((j + 1 : Nat) : Int)) rfl (by omega) rfl rfl rfl) ?_
          refine O.p rfl rfl rfl (Pu.move rfl rfl) ?_
          refine O.nil ?_
          exact X.back3 (A2, k1, (list2 ++ ([(bk3 (((blocks[i]'ei).1 + (↑j : Int)) % v_) (((blocks[i]'ei).2.1 + (↑j : Int)) % v_) (((blocks[i]'ei).2.2 + (↑j : Int)) % v_))] : List B3)), j + 1) (by (try dsimp only); exact ⟨by omega, by rw [hq]; exact (rowT_no (by rw [← hq]; exact c3)).symm⟩) (by first | omega | (dsimp only; omega)) (Ent.cons rfl (Ent.cons rfl (Ent.nil _))) (Ent.cons (t := 0) rfl (Ent.cons (t := 4) rfl (Ent.cons (t := 7) rfl (Ent.cons (t := 10) rfl (Ent.cons (t := 11) rfl (Ent.cons (t := 12) rfl (Ent.cons (t := 16) rfl (Ent.nil _)))))))) (Sub.keep 2 rfl (Sub.keep 2 rfl (Sub.keep 2 rfl (Sub.nil _))))
        · skip
          refine V.skip ?_
          refine X.blockNormal ?_
          refine X.next ?_
          refine V.region ?_
          refine O.p rfl rfl rfl (Pu.add64 (r := ((j + 1 : Nat) : Int)) rfl (by omega) rfl rfl rfl) ?_
          refine O.p rfl rfl rfl (Pu.move rfl rfl) ?_
          refine O.nil ?_
          exact X.back3 (list2A, list2c, list2, j + 1) (by (try dsimp only); exact ⟨by omega, by rw [hq]; exact (rowT_yes (by rw [← hq]; exact c3)).symm⟩) (by first | omega | (dsimp only; omega)) (Ent.cons rfl (Ent.cons rfl (Ent.nil _))) (Ent.cons (t := 0) rfl (Ent.cons (t := 4) rfl (Ent.cons (t := 7) rfl (Ent.cons (t := 10) rfl (Ent.cons (t := 11) rfl (Ent.cons (t := 12) rfl (Ent.cons (t := 16) rfl (Ent.nil _)))))))) (Sub.keep 1 rfl (Sub.keep 1 rfl (Sub.keep 1 rfl (Sub.nil _))))
    · skip
      refine V.exit ?_
      refine X.thenExit ?_
      refine X.thenExit ?_
      refine X.blockHit ?_
      refine X.blockNormal ?_
      refine X.next ?_
      refine V.region ?_
      refine O.p rfl rfl rfl (Pu.add64 (r := ((i + 1 : Nat) : Int)) rfl (by omega) rfl rfl rfl) ?_
      refine O.p rfl rfl rfl (Pu.move rfl rfl) ?_
      refine O.nil ?_
      exact X.back3 (list2A, list2c, list2, i + 1) (by (try dsimp only); exact ⟨by omega, by rw [tblT_snoc ei, ← ho, hq, show j = v_.toNat by omega]⟩) (by first | omega | (dsimp only; omega)) (Ent.cons rfl (Ent.cons rfl (Ent.nil _))) (Ent.cons (t := 0) rfl (Ent.cons (t := 4) rfl (Ent.cons (t := 10) rfl (Ent.cons (t := 11) rfl (Ent.nil _))))) (Sub.keep 0 rfl (Sub.keep 1 rfl (Sub.nil _)))
  · skip
    refine V.exit ?_
    refine X.thenExit ?_
    refine X.thenExit ?_
    refine X.blockHit ?_
    refine X.next ?_
    refine V.seq ?_
    refine V.region ?_
    refine O.p rfl rfl rfl (Pu.move rfl rfl) ?_
    refine O.p rfl rfl rfl (Pu.move rfl rfl) ?_
    refine O.e rfl rfl rfl (Ef.call1 call90 rfl rfl (fun w hw => system_ok  v_ list _ _ w ((Ld.own 0 (by exact rfl)) w hw) (by first | omega | (simp only [tops_len, conts_len, bl, List.length_append, List.length_cons, List.length_nil] at *; omega)) (by first | assumption | omega | (try dsimp only at *; omega)))) ?_
    rintro _ _ rfl
    refine O.exi (fun r1A => ?_)
    refine O.exi (fun r1c => ?_)
    refine O.exi (fun r1 => ?_)
    refine O.sep ?_
    refine O.pur ?_
    rintro ⟨rfl, hr1_1, hr1_2⟩
    refine O.s rfl rfl (Ef.storeAll 2 rfl sz28 rfl rfl rfl rfl (by simp [Value.oneCell']) rfl) ?_
    rintro _ _ rfl
    refine O.nil ?_
    refine X.next ?_
    refine V.ret ?_
    refine X.retCell rfl ag28 sz28 rfl rfl (Ld.whole 2 rfl) ?_
    exact fun w hw => St.mkExi r1A (St.mkExi r1c (St.mkExi r1 (St.unsep (St.addPur ⟨rfl, by rw [ho, List.take_of_length_le (by omega)] at hr1_1; exact hr1_1, hr1_2⟩ (hw.sub (Sub.keep 0 rfl (Sub.nil _)))))))
set_option maxRecDepth 100000 in
set_option maxHeartbeats 1000000 in
theorem namedFano_ok (w : World) : Does Try.prog 46 [.string (ByteArray.mk #[102, 97, 110, 111])] w [] (fun rv_ => [.exi fun (rA : Option Addr) => .exi fun (rc : Nat) => .exi fun (r : List B3) => .sep (.pur (rv_ = .tuple #[.agg #[.int .i64 7, .slice rA r.length rc], .int .i64 0] ∧ FanoR r)) (Own 70 B3C rA rc r)]) := by
  refine Does.enter Try.func46 rfl rfl [(0, .string (ByteArray.mk #[102, 97, 110, 111]))] rfl ?_
  refine V.seq ?_
  refine V.region ?_
  refine O.e rfl rfl rfl (Ef.alloc rfl zr28 rfl) ?_
  rintro _ _ ⟨b1, rfl, rfl⟩
  refine O.p rfl rfl rfl (Pu.assign rfl rfl) ?_
  refine O.nil ?_
  refine X.next ?_
  refine V.seq ?_
  refine V.seq ?_
  refine V.region ?_
  refine O.p rfl rfl rfl (Pu.move rfl rfl) ?_
  refine O.nil ?_
  refine X.next ?_
  refine V.block ?_
  refine V.seq ?_
  refine V.region ?_
  refine O.p rfl rfl rfl (Pu.eqlStr (b := false) (by kernel_rfl) rfl rfl rfl) ?_
  refine O.p rfl rfl rfl (Pu.assign rfl rfl) ?_
  refine O.nil ?_
  refine X.next ?_
  refine V.condF rfl ?_
  refine V.seq ?_
  refine V.region ?_
  refine O.p rfl rfl rfl (Pu.eqlStr (b := true) (by kernel_rfl) rfl rfl rfl) ?_
  refine O.p rfl rfl rfl (Pu.assign rfl rfl) ?_
  refine O.nil ?_
  refine X.next ?_
  refine V.condT rfl ?_
  refine V.seq ?_
  refine V.region ?_
  refine O.p rfl rfl rfl (Pu.buildA (cs := [.int .i64 (0 : Int), .int .i64 (1 : Int), .int .i64 (3 : Int)]) (v := B3.v ((0 : Int), (1 : Int), (3 : Int))) rfl rfl Try.underlying70 zr70 sz2 rfl (by kernel_rfl)) ?_
  refine O.e rfl rfl rfl (Ef.build B3C ([((0 : Int), (1 : Int), (3 : Int))] : List B3) rfl Try.underlying26 inf70 rfl rfl rfl (by first | decide | (simp; done)) (by kernel_rfl)) ?_
  rintro _ _ ⟨A1, hA1, rfl, rfl⟩
  refine O.e rfl rfl rfl (Ef.call1 call74 rfl rfl (fun w hw => turnedBlocks_ok  (7 : Int) ([((0 : Int), (1 : Int), (3 : Int))] : List B3) _ _ w ((Ld.own 0 (by exact rfl)) w hw) (by simp) (by decide) (by simp) (by simp))) ?_
  rintro _ _ rfl
  refine O.exi (fun r1A => ?_)
  refine O.exi (fun r1c => ?_)
  refine O.exi (fun r1 => ?_)
  refine O.sep ?_
  refine O.pur ?_
  rintro ⟨rfl, hr1_1, hr1_2⟩
  refine O.s rfl rfl (Ef.storeAll 2 rfl sz28 rfl rfl rfl rfl (by simp [Value.oneCell']) rfl) ?_
  rintro _ _ rfl
  refine O.p rfl rfl rfl (Pu.assign rfl rfl) ?_
  refine O.nil ?_
  refine X.next ?_
  refine V.ret ?_
  refine X.blockRet ?_
  refine X.thenRet ?_
  refine X.retCell2 rfl ag28 sz28 rfl rfl rfl (Ld.whole 2 rfl) ?_
  exact fun w hw => St.mkExi r1A (St.mkExi r1c (St.mkExi r1 (St.unsep (St.addPur ⟨rfl, hr1_1, hr1_2⟩ (hw.sub (Sub.keep 0 rfl (Sub.nil _)))))))
set_option maxRecDepth 100000 in
set_option maxHeartbeats 1000000 in
theorem namedSingle_ok (w : World) : Does Try.prog 46 [.string (ByteArray.mk #[115, 105, 110, 103, 108, 101])] w [] (fun rv_ => [.exi fun (rA : Option Addr) => .exi fun (rc : Nat) => .exi fun (r : List B3) => .sep (.pur (rv_ = .tuple #[.agg #[.int .i64 3, .slice rA r.length rc], .int .i64 0] ∧ r = [((0, 1, 2) : B3)])) (Own 70 B3C rA rc r)]) := by
  refine Does.enter Try.func46 rfl rfl [(0, .string (ByteArray.mk #[115, 105, 110, 103, 108, 101]))] rfl ?_
  refine V.seq ?_
  refine V.region ?_
  refine O.e rfl rfl rfl (Ef.alloc rfl zr28 rfl) ?_
  rintro _ _ ⟨b1, rfl, rfl⟩
  refine O.p rfl rfl rfl (Pu.assign rfl rfl) ?_
  refine O.nil ?_
  refine X.next ?_
  refine V.seq ?_
  refine V.seq ?_
  refine V.region ?_
  refine O.p rfl rfl rfl (Pu.move rfl rfl) ?_
  refine O.nil ?_
  refine X.next ?_
  refine V.block ?_
  refine V.seq ?_
  refine V.region ?_
  refine O.p rfl rfl rfl (Pu.eqlStr (b := true) (by kernel_rfl) rfl rfl rfl) ?_
  refine O.p rfl rfl rfl (Pu.assign rfl rfl) ?_
  refine O.nil ?_
  refine X.next ?_
  refine V.condT rfl ?_
  refine V.seq ?_
  refine V.region ?_
  refine O.p rfl rfl rfl (Pu.buildA (cs := [.int .i64 (0 : Int), .int .i64 (1 : Int), .int .i64 (2 : Int)]) (v := B3.v ((0 : Int), (1 : Int), (2 : Int))) rfl rfl Try.underlying70 zr70 sz2 rfl (by kernel_rfl)) ?_
  refine O.e rfl rfl rfl (Ef.build B3C ([((0 : Int), (1 : Int), (2 : Int))] : List B3) rfl Try.underlying26 inf70 rfl rfl rfl (by first | decide | (simp; done)) (by kernel_rfl)) ?_
  rintro _ _ ⟨A1, hA1, rfl, rfl⟩
  refine O.p rfl rfl rfl (Pu.buildS (cs := [.int .i64 (3 : Int), .slice A1 1 1]) rfl rfl Try.underlying28 zr28 (by kernel_rfl) rfl (by kernel_rfl)) ?_
  refine O.s rfl rfl (Ef.storeAll 1 rfl sz28 rfl rfl rfl rfl (by simp [Value.oneCell']) rfl) ?_
  rintro _ _ rfl
  refine O.p rfl rfl rfl (Pu.assign rfl rfl) ?_
  refine O.nil ?_
  refine X.next ?_
  refine V.ret ?_
  refine X.blockRet ?_
  refine X.thenRet ?_
  refine X.retCell2 rfl ag28 sz28 rfl rfl rfl (Ld.whole 1 rfl) ?_
  exact fun w hw => St.mkExi A1 (St.mkExi 1 (St.mkExi ([((0 : Int), (1 : Int), (2 : Int))] : List B3) (St.unsep (St.addPur ⟨rfl, rfl⟩ (hw.sub (Sub.keep 0 rfl (Sub.nil _)))))))
set_option maxRecDepth 100000 in
set_option maxHeartbeats 1000000 in
theorem implNewDesk_ok (w : World) : Does Try.prog 18 [] w [] (fun rv_ => [.exi fun (rA : Option Addr) => .exi fun (rc : Nat) => .exi fun (r : List B3) => .exi fun (sA : Option Addr) => .exi fun (sc : Nat) => .exi fun (s : List B3) => .sep (.pur (rv_ = .agg #[.int .i64 7, .slice rA r.length rc, .int .i64 3, .slice sA s.length sc] ∧ FanoR r ∧ s = [((0, 1, 2) : B3)])) (.sep (Own 70 B3C rA rc r) (Own 70 B3C sA sc s))]) := by
  refine Does.enter Try.func18 rfl rfl [] rfl ?_
  refine V.seq ?_
  refine V.region ?_
  refine O.e rfl rfl rfl (Ef.alloc rfl zr39 rfl) ?_
  rintro _ _ ⟨b1, rfl, rfl⟩
  refine O.nil ?_
  refine X.next ?_
  refine V.seq ?_
  refine V.region ?_
  refine O.e rfl rfl rfl (Ef.call1 call46 rfl rfl (fun w hw => namedFano_ok   w   )) ?_
  rintro _ _ rfl
  refine O.exi (fun r1A => ?_)
  refine O.exi (fun r1c => ?_)
  refine O.exi (fun r1 => ?_)
  refine O.sep ?_
  refine O.pur ?_
  rintro ⟨rfl, hr1_1⟩
  refine O.p rfl rfl rfl (Pu.move rfl rfl) ?_
  refine O.p rfl rfl rfl (Pu.extract rfl rfl rfl) ?_
  refine O.p rfl rfl rfl (Pu.extract rfl rfl rfl) ?_
  refine O.e rfl rfl rfl (Ef.alloc rfl zr28 rfl) ?_
  rintro _ _ ⟨b2, rfl, rfl⟩
  refine O.s rfl rfl (Ef.storeAll 0 rfl sz28 rfl rfl rfl rfl (by simp [Value.oneCell']) rfl) ?_
  rintro _ _ rfl
  refine O.p rfl rfl rfl (Pu.assign rfl rfl) ?_
  refine O.nil ?_
  refine X.next ?_
  refine V.seq ?_
  refine V.region ?_
  refine O.e rfl rfl rfl (Ef.call1 call46 rfl rfl (fun w hw => namedSingle_ok   w   )) ?_
  rintro _ _ rfl
  refine O.exi (fun r2A => ?_)
  refine O.exi (fun r2c => ?_)
  refine O.exi (fun r2 => ?_)
  refine O.sep ?_
  refine O.pur ?_
  rintro ⟨rfl, hr2_1⟩
  refine O.p rfl rfl rfl (Pu.move rfl rfl) ?_
  refine O.p rfl rfl rfl (Pu.extract rfl rfl rfl) ?_
  refine O.p rfl rfl rfl (Pu.extract rfl rfl rfl) ?_
  refine O.e rfl rfl rfl (Ef.alloc rfl zr28 rfl) ?_
  rintro _ _ ⟨b3, rfl, rfl⟩
  refine O.s rfl rfl (Ef.storeAll 0 rfl sz28 rfl rfl rfl rfl (by simp [Value.oneCell']) rfl) ?_
  rintro _ _ rfl
  refine O.p rfl rfl rfl (Pu.assign rfl rfl) ?_
  refine O.nil ?_
  refine X.next ?_
  refine V.seq ?_
  refine V.region ?_
  refine O.p rfl rfl rfl (Pu.loadAgg rfl ag28 sz28 rfl rfl (Ld.whole 2 rfl)) ?_
  refine O.p rfl rfl rfl (Pu.loadAgg rfl ag28 sz28 rfl rfl (Ld.whole 0 rfl)) ?_
  refine O.p rfl rfl rfl (Pu.buildS (cs := [.int .i64 7, .slice r1A r1.length r1c, .int .i64 3, .slice r2A r2.length r2c]) rfl rfl Try.underlying39 zr39 (by kernel_rfl) rfl (by kernel_rfl)) ?_
  refine O.s rfl rfl (Ef.storeAll 4 rfl sz39 rfl rfl rfl rfl (by simp [Value.oneCell']) rfl) ?_
  rintro _ _ rfl
  refine O.nil ?_
  refine X.next ?_
  refine V.ret ?_
  refine X.retCell rfl ag39 sz39 rfl rfl (Ld.whole 4 rfl) ?_
  exact fun w hw => St.mkExi r1A (St.mkExi r1c (St.mkExi r1 (St.mkExi r2A (St.mkExi r2c (St.mkExi r2 (St.unsep (St.addPur ⟨rfl, hr1_1, hr2_1⟩ (St.unsep (hw.sub (Sub.keep 3 rfl (Sub.keep 1 rfl (Sub.nil _))))))))))))
set_option maxRecDepth 100000 in
set_option maxHeartbeats 1000000 in
theorem l01Turned_ok (blocks : List B3) (v_ : Int) (a : Int) (b : Int) (c_ : Int) (blocksA : Option Addr) (blocksc : Nat) (w0 : World) (H : List Assn) (hv : 0 < v_ ∧ v_ ≤ 15) (ha : (0 ≤ a ∧ a ≤ 1000)) (hb : (0 ≤ b ∧ b ≤ 1000)) (hc : (0 ≤ c_ ∧ c_ ≤ 1000)) (lb : blocks.length ≤ 1000) : Does Try.prog 92 [.slice blocksA blocks.length blocksc, .int .i64 v_, .int .i64 a, .int .i64 b, .int .i64 c_] w0 (Own 70 B3C blocksA blocksc blocks :: H) (fun rv_ => [.exi fun (rA : Option Addr) => .exi fun (rc : Nat) => .exi fun (r : List B3) => .sep (.pur (rv_ = .slice rA r.length rc ∧ r = rowT v_ blocks (a, b, c_) v_.toNat)) (Own 70 B3C rA rc r)] ++ H) := by
  refine Does.enter Try.func92 rfl rfl [(0, .slice blocksA blocks.length blocksc), (1, .int .i64 v_), (2, .int .i64 a), (3, .int .i64 b), (4, .int .i64 c_)] rfl ?_
  refine V.seq ?_
  refine V.region ?_
  refine O.p rfl rfl rfl (Pu.assign rfl rfl) ?_
  refine O.nil ?_
  refine X.next ?_
  refine V.seq ?_
  refine V.seq ?_
  refine V.region ?_
  refine O.p rfl rfl rfl (Pu.assign rfl rfl) ?_
  refine O.nil ?_
  refine X.next ?_
  refine V.block ?_
  refine V.loop3 (β := (Option Addr) × Nat × (List B3) × Nat) (fun x => [(0, .slice x.1 x.2.2.1.length x.2.1), (11, .int .i64 (x.2.2.2 : Int))]) _ (fun x => [Own 70 B3C x.1 x.2.1 x.2.2.1]) _ (fun x => x.2.2.2 ≤ v_.toNat ∧ x.2.2.1 = rowT v_ blocks (a, b, c_) x.2.2.2) (fun x => v_.toNat - x.2.2.2) (blocksA, blocksc, blocks, 0) (by (try dsimp only); exact ⟨by omega, rfl⟩) (Ent.cons rfl (Ent.cons rfl (Ent.nil _))) (Ent.cons (t := 1) rfl (Ent.cons (t := 2) rfl (Ent.cons (t := 3) rfl (Ent.cons (t := 4) rfl (Ent.nil _))))) (Sub.keep 0 rfl (Sub.refl _)) ?_
  rintro ⟨zA, zc, z, i⟩ ⟨hi, hz⟩
  dsimp only at hi hz ⊢
  have hzl : z.length ≤ blocks.length + i := by rw [hz]; exact rowT_len i
  refine V.seq ?_
  refine V.seq ?_
  refine V.region ?_
  refine O.p rfl rfl rfl (Pu.move rfl rfl) ?_
  refine O.p rfl rfl rfl (Pu.move rfl rfl) ?_
  refine O.p rfl rfl rfl (Pu.lss rfl rfl rfl) ?_
  refine O.nil ?_
  refine X.next ?_
  refine V.condD rfl (fun c1 => ?_) (fun c1 => ?_)
  · skip
    refine V.skip ?_
    refine X.next ?_
    refine V.seq ?_
    refine V.block ?_
    refine V.seq ?_
    refine V.draw mo (by kernel_rfl) (fun hwf => ?_)
    refine D.p 0 rfl rfl rfl rfl rfl rfl (Pu.move rfl rfl) ?_
    refine D.p 1 rfl rfl rfl rfl rfl rfl (Pu.move rfl rfl) ?_
    refine D.p 2 rfl rfl rfl rfl rfl rfl (Pu.add64 rfl (by omega) rfl rfl rfl) ?_
    refine D.p 3 rfl rfl rfl rfl rfl rfl (Pu.move rfl rfl) ?_
    refine D.p 4 rfl rfl rfl rfl rfl rfl (Pu.rem64 (by omega) (by omega) rfl rfl rfl) ?_
    refine D.p 5 rfl rfl rfl rfl rfl rfl (Pu.move rfl rfl) ?_
    refine D.p 6 rfl rfl rfl rfl rfl rfl (Pu.move rfl rfl) ?_
    refine D.p 7 rfl rfl rfl rfl rfl rfl (Pu.add64 rfl (by omega) rfl rfl rfl) ?_
    refine D.p 8 rfl rfl rfl rfl rfl rfl (Pu.move rfl rfl) ?_
    refine D.p 9 rfl rfl rfl rfl rfl rfl (Pu.rem64 (by omega) (by omega) rfl rfl rfl) ?_
    refine D.p 10 rfl rfl rfl rfl rfl rfl (Pu.move rfl rfl) ?_
    refine D.p 11 rfl rfl rfl rfl rfl rfl (Pu.move rfl rfl) ?_
    refine D.p 12 rfl rfl rfl rfl rfl rfl (Pu.add64 rfl (by omega) rfl rfl rfl) ?_
    refine D.p 13 rfl rfl rfl rfl rfl rfl (Pu.move rfl rfl) ?_
    refine D.p 14 rfl rfl rfl rfl rfl rfl (Pu.rem64 (by omega) (by omega) rfl rfl rfl) ?_
    refine D.either hwf (e1 := 15) (e2 := 16) rfl ?_ ?_
    · skip
      refine ⟨_, _, rfl, rfl, fun _ _ => wanted_none rfl _, Ef.callP call50 rfl rfl (fun w hw => l01BlockG_ok  ((a + (↑i : Int)) % v_) ((b + (↑i : Int)) % v_) ((c_ + (↑i : Int)) % v_) w   (by have h1 := Int.emod_nonneg (a + (i : Int)) (show v_ ≠ 0 by omega); have h2 := Int.emod_lt_of_pos (a + (i : Int)) (show 0 < v_ by omega); omega) (by have h1 := Int.emod_nonneg (b + (i : Int)) (show v_ ≠ 0 by omega); have h2 := Int.emod_lt_of_pos (b + (i : Int)) (show 0 < v_ by omega); omega) (by have h1 := Int.emod_nonneg (c_ + (i : Int)) (show v_ ≠ 0 by omega); have h2 := Int.emod_lt_of_pos (c_ + (i : Int)) (show 0 < v_ by omega); omega)), rfl, rfl, ?_⟩
      rintro _ _ ⟨rfl, rfl⟩ hs
      refine ⟨fun w hw => hw, ?_⟩
      refine D.eff hwf (e := 16) rfl rfl rfl rfl (Ef.alloc rfl zr70 rfl) rfl rfl rfl ?_
      rintro _ _ ⟨b1, rfl, rfl⟩ hs
      refine ⟨fun w hw => hw.sub (Sub.keep 1 rfl (Sub.drop (Sub.refl _))), ?_⟩
      refine D.eff hwf (e := 17) rfl rfl rfl rfl (Ef.storeAll 0 rfl sz70 rfl rfl rfl rfl (by simp [Value.oneCell']) rfl) rfl rfl rfl ?_
      rintro _ _ rfl hs
      refine ⟨fun w hw => hw.sub (Sub.keep 1 rfl (Sub.drop (Sub.refl _))), ?_⟩
      refine D.p 18 rfl rfl rfl rfl rfl rfl (Pu.assign rfl rfl) ?_
      refine D.done hwf rfl ?_
      refine X.next ?_
      refine V.seq ?_
      refine V.seq ?_
      refine V.region ?_
      refine O.p rfl rfl rfl (Pu.assign rfl rfl) ?_
      refine O.nil ?_
      refine X.next ?_
      refine V.block ?_
      refine V.loop3 (β := Bool × Nat) (fun x => [(13, .bool x.1), (14, .int .i64 (x.2 : Int))]) _ (fun x => []) _ (fun x => x.2 ≤ z.length ∧ x.1 = decide (bkT v_ (a, b, c_) i ∈ z.take x.2)) (fun x => z.length - x.2) (false, 0) (by (try dsimp only); exact ⟨by omega, by simp⟩) (Ent.cons rfl (Ent.cons rfl (Ent.nil _))) (Ent.cons (t := 0) rfl (Ent.cons (t := 1) rfl (Ent.cons (t := 2) rfl (Ent.cons (t := 3) rfl (Ent.cons (t := 4) rfl (Ent.cons (t := 11) rfl (Ent.cons (t := 12) rfl (Ent.nil _)))))))) (Sub.keep 0 rfl (Sub.keep 0 rfl (Sub.refl _))) ?_
      rintro ⟨known, k⟩ ⟨hk, hk2⟩
      dsimp only at hk hk2 ⊢
      refine V.seq ?_
      refine V.seq ?_
      refine V.region ?_
      refine O.p rfl rfl rfl (Pu.move rfl rfl) ?_
      refine O.p rfl rfl rfl (Pu.move rfl rfl) ?_
      refine O.p rfl rfl rfl (Pu.len rfl Try.underlying26 rfl) ?_
      refine O.p rfl rfl rfl (Pu.lss rfl rfl rfl) ?_
      refine O.nil ?_
      refine X.next ?_
      refine V.condD rfl (fun c2 => ?_) (fun c2 => ?_)
      · skip
        refine V.skip ?_
        refine X.next ?_
        refine V.seq ?_
        refine V.block ?_
        refine V.draw mo (by kernel_rfl) (fun hwf => ?_)
        refine D.p 0 rfl rfl rfl rfl rfl rfl (Pu.move rfl rfl) ?_
        refine D.p 1 rfl rfl rfl rfl rfl rfl (Pu.move rfl rfl) ?_
        refine D.splitB 43 rfl (fun c3 => ?_) (fun c3 => ?_)
        · skip
          subst c3
          refine D.gs 2 rfl rfl rfl rfl rfl rfl rfl rfl rfl ?_
          refine D.gs 3 rfl rfl rfl rfl rfl rfl rfl rfl rfl ?_
          refine D.gs 4 rfl rfl rfl rfl rfl rfl rfl rfl rfl ?_
          refine D.gs 5 rfl rfl rfl rfl rfl rfl rfl rfl rfl ?_
          refine D.gs 6 rfl rfl rfl rfl rfl rfl rfl rfl rfl ?_
          refine D.gs 7 rfl rfl rfl rfl rfl rfl rfl rfl rfl ?_
          refine D.p 8 rfl rfl rfl rfl rfl rfl (Pu.pickT rfl rfl rfl) ?_
          refine D.last hwf (e := 9) rfl rfl rfl rfl rfl rfl (Pu.assign rfl rfl) ?_
          refine X.blockNormal ?_
          refine X.next ?_
          refine V.region ?_
          refine O.p rfl rfl rfl (Pu.move rfl rfl) ?_
          refine O.p rfl rfl rfl (Pu.add64 (r := ((k + 1 : Nat) : Int)) rfl (by omega) rfl rfl rfl) ?_
          refine O.p rfl rfl rfl (Pu.assign rfl rfl) ?_
          refine O.nil ?_
          exact X.back3 (true, k + 1) (by (try dsimp only); exact ⟨by omega, by rw [take_snoc (by omega)]; have h := hk2.symm; rw [decide_eq_true_eq] at h; exact (decide_eq_true (List.mem_append.2 (.inl h))).symm⟩) (by first | omega | (dsimp only; omega)) (Ent.cons rfl (Ent.cons rfl (Ent.nil _))) (Ent.cons (t := 0) rfl (Ent.cons (t := 1) rfl (Ent.cons (t := 2) rfl (Ent.cons (t := 3) rfl (Ent.cons (t := 4) rfl (Ent.cons (t := 11) rfl (Ent.cons (t := 12) rfl (Ent.nil _)))))))) (Sub.keep 0 rfl (Sub.keep 0 rfl (Sub.refl _)))
        · skip
          subst c3
          refine D.gp 2 rfl rfl rfl rfl rfl rfl rfl rfl (Pu.move rfl rfl) ?_
          refine D.gp 3 rfl rfl rfl rfl rfl rfl rfl rfl (Pu.move rfl rfl) ?_
          refine D.gp 4 rfl rfl rfl rfl rfl rfl rfl rfl (Pu.indexAddrS (k) rfl Try.underlying26 sz70 rfl rfl (by omega) (by omega) (fun w hw => Own.some hw (i := 1) (by exact rfl) (by omega))) ?_
          have e1 : k < z.length := by omega
          refine D.gp 5 rfl rfl rfl rfl rfl rfl rfl rfl (Pu.loadAgg' (v := B3.v (z[k]'e1)) rfl rfl ag70 sz70 rfl rfl (Ld.rds (C := B3C) (Ld.own 1 (by exact rfl)) (k := k) e1 rfl)) ?_
          refine D.gp 6 rfl rfl rfl rfl rfl rfl rfl rfl (Pu.loadAgg' (v := B3.v (bk3 ((a + (↑i : Int)) % v_) ((b + (↑i : Int)) % v_) ((c_ + (↑i : Int)) % v_))) rfl rfl ag70 sz70 rfl rfl (Ld.whole 0 rfl)) ?_
          refine D.gp 7 rfl rfl rfl rfl rfl rfl rfl rfl (Pu.eqlB3 Try.underlying70 Try.underlying2 sz2 (by kernel_rfl) rfl rfl rfl) ?_
          refine D.p 8 rfl rfl rfl rfl rfl rfl (Pu.pickF rfl rfl rfl) ?_
          refine D.last hwf (e := 9) rfl rfl rfl rfl rfl rfl (Pu.assign rfl rfl) ?_
          refine X.blockNormal ?_
          refine X.next ?_
          refine V.region ?_
          refine O.p rfl rfl rfl (Pu.move rfl rfl) ?_
          refine O.p rfl rfl rfl (Pu.add64 (r := ((k + 1 : Nat) : Int)) rfl (by omega) rfl rfl rfl) ?_
          refine O.p rfl rfl rfl (Pu.assign rfl rfl) ?_
          refine O.nil ?_
          exact X.back3 ((decide ((z[k]'e1) = (bk3 ((a + (↑i : Int)) % v_) ((b + (↑i : Int)) % v_) ((c_ + (↑i : Int)) % v_)))), k + 1) (by (try dsimp only); exact ⟨by omega, by rw [take_snoc (by omega)]; have h := hk2.symm; rw [decide_eq_false_iff_not] at h; apply decide_eq_decide.2; rw [List.mem_append, List.mem_singleton]; exact ⟨fun e => .inr e.symm, fun e => e.elim (fun e => absurd e h) Eq.symm⟩⟩) (by first | omega | (dsimp only; omega)) (Ent.cons rfl (Ent.cons rfl (Ent.nil _))) (Ent.cons (t := 0) rfl (Ent.cons (t := 1) rfl (Ent.cons (t := 2) rfl (Ent.cons (t := 3) rfl (Ent.cons (t := 4) rfl (Ent.cons (t := 11) rfl (Ent.cons (t := 12) rfl (Ent.nil _)))))))) (Sub.keep 0 rfl (Sub.keep 0 rfl (Sub.refl _)))
      · skip
        refine V.exit ?_
        refine X.thenExit ?_
        refine X.thenExit ?_
        refine X.blockHit ?_
        refine X.next ?_
        refine V.seq ?_
        refine V.region ?_
        refine O.p rfl rfl rfl (Pu.move rfl rfl) ?_
        refine O.p rfl rfl rfl (Pu.not rfl rfl) ?_
        refine O.nil ?_
        refine X.next ?_
        refine V.cond rfl (fun c4 => ?_) (fun c4 => ?_)
        · skip
          have hnk : ¬ bkT v_ (a, b, c_) i ∈ z := by rw [List.take_of_length_le (by omega)] at hk2; intro h; rw [decide_eq_true h] at hk2; simp_all
          refine V.region ?_
          refine O.p rfl rfl rfl (Pu.move rfl rfl) ?_
          refine O.p rfl rfl rfl (Pu.loadAgg' (v := B3.v (bk3 ((a + (↑i : Int)) % v_) ((b + (↑i : Int)) % v_) ((c_ + (↑i : Int)) % v_))) rfl rfl ag70 sz70 rfl rfl (Ld.whole 0 rfl)) ?_
          refine O.e rfl rfl rfl (Ef.build B3C ([(bk3 ((a + (↑i : Int)) % v_) ((b + (↑i : Int)) % v_) ((c_ + (↑i : Int)) % v_))] : List B3) rfl Try.underlying26 inf70 rfl rfl rfl (by first | decide | (simp; done)) (by kernel_rfl)) ?_
          rintro _ _ ⟨A1, hA1, rfl, rfl⟩
          refine O.e rfl rfl rfl (Ef.append (xs := z) (ys := ([(bk3 ((a + (↑i : Int)) % v_) ((b + (↑i : Int)) % v_) ((c_ + (↑i : Int)) % v_))] : List B3)) 2 rfl Try.underlying26 inf70 rfl rfl rfl rfl rfl rfl hA1 (Ld.own 0 (by exact rfl)) (by simp only [List.length_append, List.length_cons, List.length_nil] at *; omega) (by decide)) ?_
          rintro _ _ ⟨A2, k1, rfl, rfl, hA2⟩
          replace hA2 := hA2 (.inr (by simp))
          refine O.p rfl rfl rfl (Pu.assign rfl rfl) ?_
          refine O.nil ?_
          refine X.blockNormal ?_
          refine X.next ?_
          refine V.region ?_
          refine O.p rfl rfl rfl (Pu.move rfl rfl) ?_
          refine O.p rfl rfl rfl (Pu.add64 (r := ((i + 1 : Nat) : Int)) rfl (by omega) rfl rfl rfl) ?_
          refine O.p rfl rfl rfl (Pu.assign rfl rfl) ?_
          refine O.nil ?_
          exact X.back3 (A2, k1, (z ++ ([(bk3 ((a + (↑i : Int)) % v_) ((b + (↑i : Int)) % v_) ((c_ + (↑i : Int)) % v_))] : List B3)), i + 1) (by (try dsimp only); exact ⟨by omega, by rw [hz]; exact (rowT_no (by rw [← hz]; exact hnk)).symm⟩) (by first | omega | (dsimp only; omega)) (Ent.cons rfl (Ent.cons rfl (Ent.nil _))) (Ent.cons (t := 1) rfl (Ent.cons (t := 2) rfl (Ent.cons (t := 3) rfl (Ent.cons (t := 4) rfl (Ent.nil _))))) (Sub.keep 2 rfl (Sub.drop (Sub.drop (Sub.refl _))))
        · skip
          have hkn : bkT v_ (a, b, c_) i ∈ z := by rw [List.take_of_length_le (by omega)] at hk2; apply Decidable.byContradiction; intro h; rw [decide_eq_false h] at hk2; simp_all
          refine V.skip ?_
          refine X.blockNormal ?_
          refine X.next ?_
          refine V.region ?_
          refine O.p rfl rfl rfl (Pu.move rfl rfl) ?_
          refine O.p rfl rfl rfl (Pu.add64 (r := ((i + 1 : Nat) : Int)) rfl (by omega) rfl rfl rfl) ?_
          refine O.p rfl rfl rfl (Pu.assign rfl rfl) ?_
          refine O.nil ?_
          exact X.back3 (zA, zc, z, i + 1) (by (try dsimp only); exact ⟨by omega, by rw [hz]; exact (rowT_yes (by rw [← hz]; exact hkn)).symm⟩) (by first | omega | (dsimp only; omega)) (Ent.cons rfl (Ent.cons rfl (Ent.nil _))) (Ent.cons (t := 1) rfl (Ent.cons (t := 2) rfl (Ent.cons (t := 3) rfl (Ent.cons (t := 4) rfl (Ent.nil _))))) (Sub.keep 1 rfl (Sub.drop (Sub.refl _)))
    · skip
      refine ⟨_, _, rfl, rfl, fun _ _ => wanted_none rfl _, Ef.alloc rfl zr70 rfl, rfl, rfl, ?_⟩
      rintro _ _ ⟨b1, rfl, rfl⟩ hs
      refine ⟨fun w hw => hw.sub (Sub.keep 1 rfl (Sub.drop (Sub.refl _))), ?_⟩
      refine D.eff hwf (e := 15) rfl rfl rfl rfl (Ef.callP call50 rfl rfl (fun w hw => l01BlockG_ok  ((a + (↑i : Int)) % v_) ((b + (↑i : Int)) % v_) ((c_ + (↑i : Int)) % v_) w   (by have h1 := Int.emod_nonneg (a + (i : Int)) (show v_ ≠ 0 by omega); have h2 := Int.emod_lt_of_pos (a + (i : Int)) (show 0 < v_ by omega); omega) (by have h1 := Int.emod_nonneg (b + (i : Int)) (show v_ ≠ 0 by omega); have h2 := Int.emod_lt_of_pos (b + (i : Int)) (show 0 < v_ by omega); omega) (by have h1 := Int.emod_nonneg (c_ + (i : Int)) (show v_ ≠ 0 by omega); have h2 := Int.emod_lt_of_pos (c_ + (i : Int)) (show 0 < v_ by omega); omega))) rfl rfl rfl ?_
      rintro _ _ ⟨rfl, rfl⟩ hs
      refine ⟨fun w hw => hw.sub (Sub.keep 1 rfl (Sub.drop (Sub.refl _))), ?_⟩
      refine D.eff hwf (e := 17) rfl rfl rfl rfl (Ef.storeAll 0 rfl sz70 rfl rfl rfl rfl (by simp [Value.oneCell']) rfl) rfl rfl rfl ?_
      rintro _ _ rfl hs
      refine ⟨fun w hw => hw.sub (Sub.keep 1 rfl (Sub.drop (Sub.refl _))), ?_⟩
      refine D.p 18 rfl rfl rfl rfl rfl rfl (Pu.assign rfl rfl) ?_
      refine D.done hwf rfl ?_
      refine X.next ?_
      refine V.seq ?_
      refine V.seq ?_
      refine V.region ?_
      refine O.p rfl rfl rfl (Pu.assign rfl rfl) ?_
      refine O.nil ?_
      refine X.next ?_
      refine V.block ?_
      refine V.loop3 (β := Bool × Nat) (fun x => [(13, .bool x.1), (14, .int .i64 (x.2 : Int))]) _ (fun x => []) _ (fun x => x.2 ≤ z.length ∧ x.1 = decide (bkT v_ (a, b, c_) i ∈ z.take x.2)) (fun x => z.length - x.2) (false, 0) (by (try dsimp only); exact ⟨by omega, by simp⟩) (Ent.cons rfl (Ent.cons rfl (Ent.nil _))) (Ent.cons (t := 0) rfl (Ent.cons (t := 1) rfl (Ent.cons (t := 2) rfl (Ent.cons (t := 3) rfl (Ent.cons (t := 4) rfl (Ent.cons (t := 11) rfl (Ent.cons (t := 12) rfl (Ent.nil _)))))))) (Sub.keep 0 rfl (Sub.keep 0 rfl (Sub.refl _))) ?_
      rintro ⟨known, k⟩ ⟨hk, hk2⟩
      dsimp only at hk hk2 ⊢
      refine V.seq ?_
      refine V.seq ?_
      refine V.region ?_
      refine O.p rfl rfl rfl (Pu.move rfl rfl) ?_
      refine O.p rfl rfl rfl (Pu.move rfl rfl) ?_
      refine O.p rfl rfl rfl (Pu.len rfl Try.underlying26 rfl) ?_
      refine O.p rfl rfl rfl (Pu.lss rfl rfl rfl) ?_
      refine O.nil ?_
      refine X.next ?_
      refine V.condD rfl (fun c2 => ?_) (fun c2 => ?_)
      · skip
        refine V.skip ?_
        refine X.next ?_
        refine V.seq ?_
        refine V.block ?_
        refine V.draw mo (by kernel_rfl) (fun hwf => ?_)
        refine D.p 0 rfl rfl rfl rfl rfl rfl (Pu.move rfl rfl) ?_
        refine D.p 1 rfl rfl rfl rfl rfl rfl (Pu.move rfl rfl) ?_
        refine D.splitB 43 rfl (fun c3 => ?_) (fun c3 => ?_)
        · skip
          subst c3
          refine D.gs 2 rfl rfl rfl rfl rfl rfl rfl rfl rfl ?_
          refine D.gs 3 rfl rfl rfl rfl rfl rfl rfl rfl rfl ?_
          refine D.gs 4 rfl rfl rfl rfl rfl rfl rfl rfl rfl ?_
          refine D.gs 5 rfl rfl rfl rfl rfl rfl rfl rfl rfl ?_
          refine D.gs 6 rfl rfl rfl rfl rfl rfl rfl rfl rfl ?_
          refine D.gs 7 rfl rfl rfl rfl rfl rfl rfl rfl rfl ?_
          refine D.p 8 rfl rfl rfl rfl rfl rfl (Pu.pickT rfl rfl rfl) ?_
          refine D.last hwf (e := 9) rfl rfl rfl rfl rfl rfl (Pu.assign rfl rfl) ?_
          refine X.blockNormal ?_
          refine X.next ?_
          refine V.region ?_
          refine O.p rfl rfl rfl (Pu.move rfl rfl) ?_
          refine O.p rfl rfl rfl (Pu.add64 (r := ((k + 1 : Nat) : Int)) rfl (by omega) rfl rfl rfl) ?_
          refine O.p rfl rfl rfl (Pu.assign rfl rfl) ?_
          refine O.nil ?_
          exact X.back3 (true, k + 1) (by (try dsimp only); exact ⟨by omega, by rw [take_snoc (by omega)]; have h := hk2.symm; rw [decide_eq_true_eq] at h; exact (decide_eq_true (List.mem_append.2 (.inl h))).symm⟩) (by first | omega | (dsimp only; omega)) (Ent.cons rfl (Ent.cons rfl (Ent.nil _))) (Ent.cons (t := 0) rfl (Ent.cons (t := 1) rfl (Ent.cons (t := 2) rfl (Ent.cons (t := 3) rfl (Ent.cons (t := 4) rfl (Ent.cons (t := 11) rfl (Ent.cons (t := 12) rfl (Ent.nil _)))))))) (Sub.keep 0 rfl (Sub.keep 0 rfl (Sub.refl _)))
        · skip
          subst c3
          refine D.gp 2 rfl rfl rfl rfl rfl rfl rfl rfl (Pu.move rfl rfl) ?_
          refine D.gp 3 rfl rfl rfl rfl rfl rfl rfl rfl (Pu.move rfl rfl) ?_
          refine D.gp 4 rfl rfl rfl rfl rfl rfl rfl rfl (Pu.indexAddrS (k) rfl Try.underlying26 sz70 rfl rfl (by omega) (by omega) (fun w hw => Own.some hw (i := 1) (by exact rfl) (by omega))) ?_
          have e1 : k < z.length := by omega
          refine D.gp 5 rfl rfl rfl rfl rfl rfl rfl rfl (Pu.loadAgg' (v := B3.v (z[k]'e1)) rfl rfl ag70 sz70 rfl rfl (Ld.rds (C := B3C) (Ld.own 1 (by exact rfl)) (k := k) e1 rfl)) ?_
          refine D.gp 6 rfl rfl rfl rfl rfl rfl rfl rfl (Pu.loadAgg' (v := B3.v (bk3 ((a + (↑i : Int)) % v_) ((b + (↑i : Int)) % v_) ((c_ + (↑i : Int)) % v_))) rfl rfl ag70 sz70 rfl rfl (Ld.whole 0 rfl)) ?_
          refine D.gp 7 rfl rfl rfl rfl rfl rfl rfl rfl (Pu.eqlB3 Try.underlying70 Try.underlying2 sz2 (by kernel_rfl) rfl rfl rfl) ?_
          refine D.p 8 rfl rfl rfl rfl rfl rfl (Pu.pickF rfl rfl rfl) ?_
          refine D.last hwf (e := 9) rfl rfl rfl rfl rfl rfl (Pu.assign rfl rfl) ?_
          refine X.blockNormal ?_
          refine X.next ?_
          refine V.region ?_
          refine O.p rfl rfl rfl (Pu.move rfl rfl) ?_
          refine O.p rfl rfl rfl (Pu.add64 (r := ((k + 1 : Nat) : Int)) rfl (by omega) rfl rfl rfl) ?_
          refine O.p rfl rfl rfl (Pu.assign rfl rfl) ?_
          refine O.nil ?_
          exact X.back3 ((decide ((z[k]'e1) = (bk3 ((a + (↑i : Int)) % v_) ((b + (↑i : Int)) % v_) ((c_ + (↑i : Int)) % v_)))), k + 1) (by (try dsimp only); exact ⟨by omega, by rw [take_snoc (by omega)]; have h := hk2.symm; rw [decide_eq_false_iff_not] at h; apply decide_eq_decide.2; rw [List.mem_append, List.mem_singleton]; exact ⟨fun e => .inr e.symm, fun e => e.elim (fun e => absurd e h) Eq.symm⟩⟩) (by first | omega | (dsimp only; omega)) (Ent.cons rfl (Ent.cons rfl (Ent.nil _))) (Ent.cons (t := 0) rfl (Ent.cons (t := 1) rfl (Ent.cons (t := 2) rfl (Ent.cons (t := 3) rfl (Ent.cons (t := 4) rfl (Ent.cons (t := 11) rfl (Ent.cons (t := 12) rfl (Ent.nil _)))))))) (Sub.keep 0 rfl (Sub.keep 0 rfl (Sub.refl _)))
      · skip
        refine V.exit ?_
        refine X.thenExit ?_
        refine X.thenExit ?_
        refine X.blockHit ?_
        refine X.next ?_
        refine V.seq ?_
        refine V.region ?_
        refine O.p rfl rfl rfl (Pu.move rfl rfl) ?_
        refine O.p rfl rfl rfl (Pu.not rfl rfl) ?_
        refine O.nil ?_
        refine X.next ?_
        refine V.cond rfl (fun c4 => ?_) (fun c4 => ?_)
        · skip
          have hnk : ¬ bkT v_ (a, b, c_) i ∈ z := by rw [List.take_of_length_le (by omega)] at hk2; intro h; rw [decide_eq_true h] at hk2; simp_all
          refine V.region ?_
          refine O.p rfl rfl rfl (Pu.move rfl rfl) ?_
          refine O.p rfl rfl rfl (Pu.loadAgg' (v := B3.v (bk3 ((a + (↑i : Int)) % v_) ((b + (↑i : Int)) % v_) ((c_ + (↑i : Int)) % v_))) rfl rfl ag70 sz70 rfl rfl (Ld.whole 0 rfl)) ?_
          refine O.e rfl rfl rfl (Ef.build B3C ([(bk3 ((a + (↑i : Int)) % v_) ((b + (↑i : Int)) % v_) ((c_ + (↑i : Int)) % v_))] : List B3) rfl Try.underlying26 inf70 rfl rfl rfl (by first | decide | (simp; done)) (by kernel_rfl)) ?_
          rintro _ _ ⟨A1, hA1, rfl, rfl⟩
          refine O.e rfl rfl rfl (Ef.append (xs := z) (ys := ([(bk3 ((a + (↑i : Int)) % v_) ((b + (↑i : Int)) % v_) ((c_ + (↑i : Int)) % v_))] : List B3)) 2 rfl Try.underlying26 inf70 rfl rfl rfl rfl rfl rfl hA1 (Ld.own 0 (by exact rfl)) (by simp only [List.length_append, List.length_cons, List.length_nil] at *; omega) (by decide)) ?_
          rintro _ _ ⟨A2, k1, rfl, rfl, hA2⟩
          replace hA2 := hA2 (.inr (by simp))
          refine O.p rfl rfl rfl (Pu.assign rfl rfl) ?_
          refine O.nil ?_
          refine X.blockNormal ?_
          refine X.next ?_
          refine V.region ?_
          refine O.p rfl rfl rfl (Pu.move rfl rfl) ?_
          refine O.p rfl rfl rfl (Pu.add64 (r := ((i + 1 : Nat) : Int)) rfl (by omega) rfl rfl rfl) ?_
          refine O.p rfl rfl rfl (Pu.assign rfl rfl) ?_
          refine O.nil ?_
          exact X.back3 (A2, k1, (z ++ ([(bk3 ((a + (↑i : Int)) % v_) ((b + (↑i : Int)) % v_) ((c_ + (↑i : Int)) % v_))] : List B3)), i + 1) (by (try dsimp only); exact ⟨by omega, by rw [hz]; exact (rowT_no (by rw [← hz]; exact hnk)).symm⟩) (by first | omega | (dsimp only; omega)) (Ent.cons rfl (Ent.cons rfl (Ent.nil _))) (Ent.cons (t := 1) rfl (Ent.cons (t := 2) rfl (Ent.cons (t := 3) rfl (Ent.cons (t := 4) rfl (Ent.nil _))))) (Sub.keep 2 rfl (Sub.drop (Sub.drop (Sub.refl _))))
        · skip
          have hkn : bkT v_ (a, b, c_) i ∈ z := by rw [List.take_of_length_le (by omega)] at hk2; apply Decidable.byContradiction; intro h; rw [decide_eq_false h] at hk2; simp_all
          refine V.skip ?_
          refine X.blockNormal ?_
          refine X.next ?_
          refine V.region ?_
          refine O.p rfl rfl rfl (Pu.move rfl rfl) ?_
          refine O.p rfl rfl rfl (Pu.add64 (r := ((i + 1 : Nat) : Int)) rfl (by omega) rfl rfl rfl) ?_
          refine O.p rfl rfl rfl (Pu.assign rfl rfl) ?_
          refine O.nil ?_
          exact X.back3 (zA, zc, z, i + 1) (by (try dsimp only); exact ⟨by omega, by rw [hz]; exact (rowT_yes (by rw [← hz]; exact hkn)).symm⟩) (by first | omega | (dsimp only; omega)) (Ent.cons rfl (Ent.cons rfl (Ent.nil _))) (Ent.cons (t := 1) rfl (Ent.cons (t := 2) rfl (Ent.cons (t := 3) rfl (Ent.cons (t := 4) rfl (Ent.nil _))))) (Sub.keep 1 rfl (Sub.drop (Sub.refl _)))
  · skip
    refine V.exit ?_
    refine X.thenExit ?_
    refine X.thenExit ?_
    refine X.blockHit ?_
    refine X.next ?_
    refine V.seq ?_
    refine V.region ?_
    refine O.p rfl rfl rfl (Pu.move rfl rfl) ?_
    refine O.p rfl rfl rfl (Pu.assign rfl rfl) ?_
    refine O.nil ?_
    refine X.next ?_
    refine V.ret ?_
    refine X.ret1 rfl rfl ?_
    exact fun w hw => St.mkExi zA (St.mkExi zc (St.mkExi z (St.unsep (St.addPur ⟨rfl, by rw [hz, show i = v_.toNat by omega]⟩ (hw.sub (Sub.keep 0 rfl (Sub.refl _)))))))
set_option maxRecDepth 100000 in
set_option maxHeartbeats 1000000 in
theorem l01NamedFano_ok (w : World) : Does Try.prog 73 [.string (ByteArray.mk #[102, 97, 110, 111])] w [] (fun rv_ => [.exi fun (rA : Option Addr) => .exi fun (rc : Nat) => .exi fun (r : List B3) => .sep (.pur (rv_ = .tuple #[.agg #[.int .i64 7, .slice rA r.length rc], .bool true] ∧ FanoR r)) (Own 70 B3C rA rc r)]) := by
  refine Does.enter Try.func73 rfl rfl [(0, .string (ByteArray.mk #[102, 97, 110, 111]))] rfl ?_
  refine V.seq ?_
  refine V.region ?_
  refine O.e rfl rfl rfl (Ef.alloc rfl zr28 rfl) ?_
  rintro _ _ ⟨b1, rfl, rfl⟩
  refine O.p rfl rfl rfl (Pu.assign rfl rfl) ?_
  refine O.nil ?_
  refine X.next ?_
  refine V.seq ?_
  refine V.region ?_
  refine O.e rfl rfl rfl (Ef.build B3C ([] : List B3) rfl Try.underlying26 inf70 rfl rfl rfl (by first | decide | (simp; done)) (by kernel_rfl)) ?_
  rintro _ _ ⟨A1, hA1, rfl, rfl⟩
  refine O.p rfl rfl rfl (Pu.assign rfl rfl) ?_
  refine O.nil ?_
  refine X.next ?_
  refine V.seq ?_
  refine V.seq ?_
  refine V.region ?_
  refine O.p rfl rfl rfl (Pu.move rfl rfl) ?_
  refine O.nil ?_
  refine X.next ?_
  refine V.block ?_
  refine V.seq ?_
  refine V.region ?_
  refine O.p rfl rfl rfl (Pu.eqlStr (b := false) (by kernel_rfl) rfl rfl rfl) ?_
  refine O.p rfl rfl rfl (Pu.assign rfl rfl) ?_
  refine O.nil ?_
  refine X.next ?_
  refine V.condF rfl ?_
  refine V.seq ?_
  refine V.region ?_
  refine O.p rfl rfl rfl (Pu.eqlStr (b := true) (by kernel_rfl) rfl rfl rfl) ?_
  refine O.p rfl rfl rfl (Pu.assign rfl rfl) ?_
  refine O.nil ?_
  refine X.next ?_
  refine V.condT rfl ?_
  refine V.seq ?_
  refine V.region ?_
  refine O.p rfl rfl rfl (Pu.move rfl rfl) ?_
  refine O.e rfl rfl rfl (Ef.call call92 rfl rfl (Does.pre (fun w hw => hw.sub (Sub.keep 0 rfl (Sub.keep 0 rfl (Sub.nil _)))) (l01Turned_ok  ([] : List B3) (7 : Int) (0 : Int) (1 : Int) (3 : Int) _ _ w _   (by decide) (by decide) (by decide) (by decide) (by simp)))) ?_
  rintro _ _ rfl
  refine O.exi (fun r1A => ?_)
  refine O.exi (fun r1c => ?_)
  refine O.exi (fun r1 => ?_)
  refine O.sep ?_
  refine O.pur ?_
  rintro ⟨rfl, hr1_1⟩
  refine O.e rfl rfl rfl (Ef.call1 call87 rfl rfl (fun w hw => l01Made_ok  (7 : Int) r1 _ _ w ((Ld.own 0 (by exact rfl)) w hw) (by rw [hr1_1]; decide) (by rw [hr1_1]; decide))) ?_
  rintro _ _ rfl
  refine O.exi (fun r2A => ?_)
  refine O.exi (fun r2c => ?_)
  refine O.exi (fun r2 => ?_)
  refine O.sep ?_
  refine O.pur ?_
  rintro ⟨rfl, hr2_1, hr2_2⟩
  refine O.s rfl rfl (Ef.storeAll 2 rfl sz28 rfl rfl rfl rfl (by simp [Value.oneCell']) rfl) ?_
  rintro _ _ rfl
  refine O.p rfl rfl rfl (Pu.assign rfl rfl) ?_
  refine O.nil ?_
  refine X.next ?_
  refine V.ret ?_
  refine X.blockRet ?_
  refine X.thenRet ?_
  refine X.retCell2 rfl ag28 sz28 rfl rfl rfl (Ld.whole 2 rfl) ?_
  exact fun w hw => St.mkExi r2A (St.mkExi r2c (St.mkExi r2 (St.unsep (St.addPur ⟨rfl, by rw [hr1_1] at hr2_1; exact ⟨hr2_1, hr2_2⟩⟩ (hw.sub (Sub.keep 0 rfl (Sub.nil _)))))))
set_option maxRecDepth 100000 in
set_option maxHeartbeats 1000000 in
theorem l01NamedSingle_ok (w : World) : Does Try.prog 73 [.string (ByteArray.mk #[115, 105, 110, 103, 108, 101])] w [] (fun rv_ => [.exi fun (rA : Option Addr) => .exi fun (rc : Nat) => .exi fun (r : List B3) => .sep (.pur (rv_ = .tuple #[.agg #[.int .i64 3, .slice rA r.length rc], .bool true] ∧ r = [((0, 1, 2) : B3)])) (Own 70 B3C rA rc r)]) := by
  refine Does.enter Try.func73 rfl rfl [(0, .string (ByteArray.mk #[115, 105, 110, 103, 108, 101]))] rfl ?_
  refine V.seq ?_
  refine V.region ?_
  refine O.e rfl rfl rfl (Ef.alloc rfl zr28 rfl) ?_
  rintro _ _ ⟨b1, rfl, rfl⟩
  refine O.p rfl rfl rfl (Pu.assign rfl rfl) ?_
  refine O.nil ?_
  refine X.next ?_
  refine V.seq ?_
  refine V.region ?_
  refine O.e rfl rfl rfl (Ef.build B3C ([] : List B3) rfl Try.underlying26 inf70 rfl rfl rfl (by first | decide | (simp; done)) (by kernel_rfl)) ?_
  rintro _ _ ⟨A1, hA1, rfl, rfl⟩
  refine O.p rfl rfl rfl (Pu.assign rfl rfl) ?_
  refine O.nil ?_
  refine X.next ?_
  refine V.seq ?_
  refine V.seq ?_
  refine V.region ?_
  refine O.p rfl rfl rfl (Pu.move rfl rfl) ?_
  refine O.nil ?_
  refine X.next ?_
  refine V.block ?_
  refine V.seq ?_
  refine V.region ?_
  refine O.p rfl rfl rfl (Pu.eqlStr (b := true) (by kernel_rfl) rfl rfl rfl) ?_
  refine O.p rfl rfl rfl (Pu.assign rfl rfl) ?_
  refine O.nil ?_
  refine X.next ?_
  refine V.condT rfl ?_
  refine V.seq ?_
  refine V.region ?_
  refine O.p rfl rfl rfl (Pu.buildA (cs := [.int .i64 (0 : Int), .int .i64 (1 : Int), .int .i64 (2 : Int)]) (v := B3.v ((0 : Int), (1 : Int), (2 : Int))) rfl rfl Try.underlying70 zr70 sz2 rfl (by kernel_rfl)) ?_
  refine O.e rfl rfl rfl (Ef.build B3C ([((0 : Int), (1 : Int), (2 : Int))] : List B3) rfl Try.underlying26 inf70 rfl rfl rfl (by first | decide | (simp; done)) (by kernel_rfl)) ?_
  rintro _ _ ⟨A2, hA2, rfl, rfl⟩
  refine O.e rfl rfl rfl (Ef.call1 call87 rfl rfl (fun w hw => l01Made_ok  (3 : Int) ([((0 : Int), (1 : Int), (2 : Int))] : List B3) _ _ w ((Ld.own 0 (by exact rfl)) w hw) (by simp) (by simp))) ?_
  rintro _ _ rfl
  refine O.exi (fun r1A => ?_)
  refine O.exi (fun r1c => ?_)
  refine O.exi (fun r1 => ?_)
  refine O.sep ?_
  refine O.pur ?_
  rintro ⟨rfl, hr1_1, hr1_2⟩
  refine O.s rfl rfl (Ef.storeAll 3 rfl sz28 rfl rfl rfl rfl (by simp [Value.oneCell']) rfl) ?_
  rintro _ _ rfl
  refine O.p rfl rfl rfl (Pu.assign rfl rfl) ?_
  refine O.nil ?_
  refine X.next ?_
  refine V.ret ?_
  refine X.blockRet ?_
  refine X.thenRet ?_
  refine X.retCell2 rfl ag28 sz28 rfl rfl rfl (Ld.whole 3 rfl) ?_
  exact fun w hw => St.mkExi r1A (St.mkExi r1c (St.mkExi r1 (St.unsep (St.addPur ⟨rfl, List.perm_singleton.1 hr1_1⟩ (hw.sub (Sub.keep 0 rfl (Sub.nil _)))))))
set_option maxRecDepth 100000 in
set_option maxHeartbeats 1000000 in
theorem l11New_ok (w : World) : Does Try.prog 45 [] w [] (fun rv_ => [.exi fun (rA : Option Addr) => .exi fun (rc : Nat) => .exi fun (r : List B3) => .exi fun (sA : Option Addr) => .exi fun (sc : Nat) => .exi fun (s : List B3) => .sep (.pur (rv_ = .agg #[.int .i64 7, .slice rA r.length rc, .int .i64 3, .slice sA s.length sc] ∧ FanoR r ∧ s = [((0, 1, 2) : B3)])) (.sep (Own 70 B3C rA rc r) (Own 70 B3C sA sc s))]) := by
  refine Does.enter Try.func45 rfl rfl [] rfl ?_
  refine V.seq ?_
  refine V.region ?_
  refine O.e rfl rfl rfl (Ef.alloc rfl zr39 rfl) ?_
  rintro _ _ ⟨b1, rfl, rfl⟩
  refine O.nil ?_
  refine X.next ?_
  refine V.seq ?_
  refine V.region ?_
  refine O.e rfl rfl rfl (Ef.call1 call73 rfl rfl (fun w hw => l01NamedFano_ok   w   )) ?_
  rintro _ _ rfl
  refine O.exi (fun r1A => ?_)
  refine O.exi (fun r1c => ?_)
  refine O.exi (fun r1 => ?_)
  refine O.sep ?_
  refine O.pur ?_
  rintro ⟨rfl, hr1_1⟩
  refine O.p rfl rfl rfl (Pu.move rfl rfl) ?_
  refine O.p rfl rfl rfl (Pu.extract rfl rfl rfl) ?_
  refine O.p rfl rfl rfl (Pu.extract rfl rfl rfl) ?_
  refine O.e rfl rfl rfl (Ef.alloc rfl zr28 rfl) ?_
  rintro _ _ ⟨b2, rfl, rfl⟩
  refine O.s rfl rfl (Ef.storeAll 0 rfl sz28 rfl rfl rfl rfl (by simp [Value.oneCell']) rfl) ?_
  rintro _ _ rfl
  refine O.p rfl rfl rfl (Pu.assign rfl rfl) ?_
  refine O.nil ?_
  refine X.next ?_
  refine V.seq ?_
  refine V.region ?_
  refine O.e rfl rfl rfl (Ef.call1 call73 rfl rfl (fun w hw => l01NamedSingle_ok   w   )) ?_
  rintro _ _ rfl
  refine O.exi (fun r2A => ?_)
  refine O.exi (fun r2c => ?_)
  refine O.exi (fun r2 => ?_)
  refine O.sep ?_
  refine O.pur ?_
  rintro ⟨rfl, hr2_1⟩
  refine O.p rfl rfl rfl (Pu.move rfl rfl) ?_
  refine O.p rfl rfl rfl (Pu.extract rfl rfl rfl) ?_
  refine O.p rfl rfl rfl (Pu.extract rfl rfl rfl) ?_
  refine O.e rfl rfl rfl (Ef.alloc rfl zr28 rfl) ?_
  rintro _ _ ⟨b3, rfl, rfl⟩
  refine O.s rfl rfl (Ef.storeAll 0 rfl sz28 rfl rfl rfl rfl (by simp [Value.oneCell']) rfl) ?_
  rintro _ _ rfl
  refine O.p rfl rfl rfl (Pu.assign rfl rfl) ?_
  refine O.nil ?_
  refine X.next ?_
  refine V.seq ?_
  refine V.region ?_
  refine O.p rfl rfl rfl (Pu.loadAgg rfl ag28 sz28 rfl rfl (Ld.whole 2 rfl)) ?_
  refine O.p rfl rfl rfl (Pu.loadAgg rfl ag28 sz28 rfl rfl (Ld.whole 0 rfl)) ?_
  refine O.p rfl rfl rfl (Pu.buildS (cs := [.int .i64 7, .slice r1A r1.length r1c, .int .i64 3, .slice r2A r2.length r2c]) rfl rfl Try.underlying39 zr39 (by kernel_rfl) rfl (by kernel_rfl)) ?_
  refine O.s rfl rfl (Ef.storeAll 4 rfl sz39 rfl rfl rfl rfl (by simp [Value.oneCell']) rfl) ?_
  rintro _ _ rfl
  refine O.nil ?_
  refine X.next ?_
  refine V.ret ?_
  refine X.retCell rfl ag39 sz39 rfl rfl (Ld.whole 4 rfl) ?_
  exact fun w hw => St.mkExi r1A (St.mkExi r1c (St.mkExi r1 (St.mkExi r2A (St.mkExi r2c (St.mkExi r2 (St.unsep (St.addPur ⟨rfl, hr1_1, hr2_1⟩ (St.unsep (hw.sub (Sub.keep 3 rfl (Sub.keep 1 rfl (Sub.nil _))))))))))))
set_option maxRecDepth 100000 in
set_option maxHeartbeats 1000000 in
theorem specNewDesk_ok (w : World) : Does Try.prog 17 [] w [] (fun rv_ => [.exi fun (rA : Option Addr) => .exi fun (rc : Nat) => .exi fun (r : List B3) => .exi fun (sA : Option Addr) => .exi fun (sc : Nat) => .exi fun (s : List B3) => .sep (.pur (rv_ = .agg #[.int .i64 7, .slice rA r.length rc, .int .i64 3, .slice sA s.length sc] ∧ FanoR r ∧ s = [((0, 1, 2) : B3)])) (.sep (Own 70 B3C rA rc r) (Own 70 B3C sA sc s))]) := by
  refine Does.enter Try.func17 rfl rfl [] rfl ?_
  refine V.seq ?_
  refine V.region ?_
  refine O.e rfl rfl rfl (Ef.alloc rfl zr39 rfl) ?_
  rintro _ _ ⟨b1, rfl, rfl⟩
  refine O.nil ?_
  refine X.next ?_
  refine V.seq ?_
  refine V.region ?_
  refine O.e rfl rfl rfl (Ef.call1 call45 rfl rfl (fun w hw => l11New_ok   w   )) ?_
  rintro _ _ rfl
  refine O.exi (fun r1A => ?_)
  refine O.exi (fun r1c => ?_)
  refine O.exi (fun r1 => ?_)
  refine O.exi (fun s1A => ?_)
  refine O.exi (fun s1c => ?_)
  refine O.exi (fun s1 => ?_)
  refine O.sep ?_
  refine O.pur ?_
  rintro ⟨rfl, hr1_1, hr1_2⟩
  refine O.sep ?_
  refine O.s rfl rfl (Ef.storeAll 2 rfl sz39 rfl rfl rfl rfl (by simp [Value.oneCell']) rfl) ?_
  rintro _ _ rfl
  refine O.nil ?_
  refine X.next ?_
  refine V.ret ?_
  refine X.retCell rfl ag39 sz39 rfl rfl (Ld.whole 2 rfl) ?_
  exact fun w hw => St.mkExi r1A (St.mkExi r1c (St.mkExi r1 (St.mkExi s1A (St.mkExi s1c (St.mkExi s1 (St.unsep (St.addPur ⟨rfl, hr1_1, hr1_2⟩ (St.unsep (hw.sub (Sub.keep 0 rfl (Sub.keep 0 rfl (Sub.nil _))))))))))))
set_option maxRecDepth 100000 in
theorem markDesk_ok (p1 p2 : Int) (xs ys : List B3) (m : Int) (A1 A2 : Option Addr) (k1 k2 : Nat) (w0 : World) (H : List Assn) (hm : 0 ≤ m ∧ m ≤ 1000000000) (lx : xs.length ≤ 1000000) (ly : ys.length ≤ 1000000) : Does Try.prog 20 [.agg #[.int .i64 p1, .slice A1 xs.length k1, .int .i64 p2, .slice A2 ys.length k2], .int .i64 m] w0 (Own 70 B3C A1 k1 xs :: Own 70 B3C A2 k2 ys :: H) (fun v => .pur (v = .int .i64 (m + 3 * xs.length + 3 * ys.length)) :: Own 70 B3C A1 k1 (marksB m xs.length) :: Own 70 B3C A2 k2 (marksB (m + 3 * xs.length) ys.length) :: H) := by
  refine Does.enter Try.func20 rfl rfl [(0, .agg #[.int .i64 p1, .slice A1 xs.length k1, .int .i64 p2, .slice A2 ys.length k2]), (1, .int .i64 m)] rfl ?_
  refine V.seq ?_
  refine V.region ?_
  refine O.e rfl rfl rfl (Ef.box rfl rfl rfl) ?_
  rintro _ _ ⟨b1, rfl, rfl⟩
  refine O.p rfl rfl rfl (Pu.assign rfl rfl) ?_
  refine O.nil ?_
  refine X.next ?_
  refine V.seq ?_
  refine V.region ?_
  refine O.p rfl rfl rfl (Pu.fieldAddr 0 rfl Try.underlying39 rfl sz28 rfl rfl) ?_
  refine O.p rfl rfl rfl (Pu.loadAgg (cs := [_, _]) rfl ag28 sz28 rfl rfl (Ld.blks 0 rfl rfl)) ?_
  refine O.p rfl rfl rfl (Pu.move rfl rfl) ?_
  refine O.e rfl rfl rfl (Ef.callM 1 call13 rfl rfl rfl (fun H _ => markSystemX_ok _ _ _ _ _ _ H (by omega) (by omega))) ?_
  rintro _ _ ⟨rfl, rfl⟩
  refine O.p rfl rfl rfl (Pu.assign rfl rfl) ?_
  refine O.nil ?_
  refine X.next ?_
  refine V.seq ?_
  refine V.region ?_
  refine O.p rfl rfl rfl (Pu.fieldAddr 2 rfl Try.underlying39 rfl sz28 rfl rfl) ?_
  refine O.p rfl rfl rfl (Pu.loadAgg (cs := [_, _]) rfl ag28 sz28 rfl rfl (Ld.blks 0 rfl rfl)) ?_
  refine O.p rfl rfl rfl (Pu.move rfl rfl) ?_
  refine O.e rfl rfl rfl (Ef.callM 2 call13 rfl rfl rfl (fun H _ => markSystemX_ok _ _ _ _ _ _ H (by omega) (by omega))) ?_
  rintro _ _ ⟨rfl, rfl⟩
  refine O.p rfl rfl rfl (Pu.assign rfl rfl) ?_
  refine O.nil ?_
  refine X.next ?_
  refine V.seq ?_
  refine V.region ?_
  refine O.p rfl rfl rfl (Pu.move rfl rfl) ?_
  refine O.p rfl rfl rfl (Pu.assign rfl rfl) ?_
  refine O.nil ?_
  refine X.next ?_
  refine V.ret ?_
  refine X.ret1 rfl rfl ?_
  exact fun w hw => St.addPur rfl (hw.sub (Sub.keep 1 rfl (Sub.keep 1 rfl (Sub.drop (Sub.refl _)))))
set_option maxRecDepth 100000 in
theorem heldDesk_ok (p1 p2 : Int) (n1 n2 : Nat) (m : Int) (A1 A2 : Option Addr) (k1 k2 : Nat) (w : World) (hx : Rd B3C w A1 (marksB m n1)) (hy : Rd B3C w A2 (marksB (m + 3 * (n1 : Int)) n2)) (hm : 0 ≤ m ∧ m ≤ 1000000000) (lx : n1 ≤ 1000000) (ly : n2 ≤ 1000000) : Does Try.prog 21 [.agg #[.int .i64 p1, .slice A1 n1 k1, .int .i64 p2, .slice A2 n2 k2], .int .i64 m] w [] (fun v => [.pur (v = .int .i64 (m + 3 * n1 + 3 * n2))]) := by
  refine Does.enter Try.func21 rfl rfl [(0, .agg #[.int .i64 p1, .slice A1 n1 k1, .int .i64 p2, .slice A2 n2 k2]), (1, .int .i64 m)] rfl ?_
  refine V.seq ?_
  refine V.region ?_
  refine O.e rfl rfl rfl (Ef.box rfl rfl rfl) ?_
  rintro _ _ ⟨b1, rfl, rfl⟩
  refine O.p rfl rfl rfl (Pu.assign rfl rfl) ?_
  refine O.nil ?_
  refine X.next ?_
  refine V.seq ?_
  refine V.region ?_
  refine O.p rfl rfl rfl (Pu.fieldAddr 0 rfl Try.underlying39 rfl sz28 rfl rfl) ?_
  refine O.p rfl rfl rfl (Pu.loadAgg (cs := [_, _]) rfl ag28 sz28 rfl rfl (Ld.blks 0 rfl rfl)) ?_
  refine O.p rfl rfl rfl (Pu.move rfl rfl) ?_
  refine O.e rfl rfl rfl (Ef.callP call14 rfl rfl (fun w hw => heldSystemX_ok _ n1 _ _ _ w ((Ld.old hx) w hw) (by omega) (by omega))) ?_
  rintro _ _ ⟨rfl, rfl⟩
  refine O.p rfl rfl rfl (Pu.assign rfl rfl) ?_
  refine O.nil ?_
  refine X.next ?_
  refine V.seq ?_
  refine V.seq ?_
  refine V.region ?_
  refine O.p rfl rfl rfl (Pu.move rfl rfl) ?_
  refine O.p rfl rfl rfl (Pu.lss rfl rfl rfl) ?_
  refine O.nil ?_
  refine X.next ?_
  refine V.condD rfl (fun c1 => ?_) (fun c1 => ?_)
  · skip
    exact absurd c1 (by omega)
  · skip
    refine V.skip ?_
    refine X.next ?_
    refine V.seq ?_
    refine V.region ?_
    refine O.p rfl rfl rfl (Pu.fieldAddr 2 rfl Try.underlying39 rfl sz28 rfl rfl) ?_
    refine O.p rfl rfl rfl (Pu.loadAgg (cs := [_, _]) rfl ag28 sz28 rfl rfl (Ld.blks 0 rfl rfl)) ?_
    refine O.p rfl rfl rfl (Pu.move rfl rfl) ?_
    refine O.e rfl rfl rfl (Ef.callP call14 rfl rfl (fun w hw => heldSystemX_ok _ n2 _ _ _ w ((Ld.old hy) w hw) (by omega) (by omega))) ?_
    rintro _ _ ⟨rfl, rfl⟩
    refine O.p rfl rfl rfl (Pu.assign rfl rfl) ?_
    refine O.nil ?_
    refine X.next ?_
    refine V.seq ?_
    refine V.seq ?_
    refine V.region ?_
    refine O.p rfl rfl rfl (Pu.move rfl rfl) ?_
    refine O.p rfl rfl rfl (Pu.lss rfl rfl rfl) ?_
    refine O.nil ?_
    refine X.next ?_
    refine V.condD rfl (fun c2 => ?_) (fun c2 => ?_)
    · skip
      exact absurd c2 (by omega)
    · skip
      refine V.skip ?_
      refine X.next ?_
      refine V.seq ?_
      refine V.region ?_
      refine O.p rfl rfl rfl (Pu.move rfl rfl) ?_
      refine O.p rfl rfl rfl (Pu.assign rfl rfl) ?_
      refine O.nil ?_
      refine X.next ?_
      refine V.ret ?_
      refine X.ret1 rfl rfl ?_
      exact fun w hw => St.retP (iv (by omega)) hw
set_option maxRecDepth 100000 in
set_option maxHeartbeats 1000000 in
theorem FnExactNewDesk_ok (w : World) : Does Try.prog 5 [] w [] (fun r => [.pur (r = .bool true)]) := by
  refine Does.enter Try.func5 rfl rfl [] rfl ?_
  refine V.seq ?_
  refine V.region ?_
  refine O.p rfl rfl rfl (Pu.assign rfl rfl) ?_
  refine O.nil ?_
  refine X.next ?_
  refine V.seq ?_
  refine V.region ?_
  refine O.e rfl rfl rfl (Ef.call1 call17 rfl rfl (fun w hw => specNewDesk_ok   w   )) ?_
  rintro _ _ rfl
  refine O.exi (fun r1A => ?_)
  refine O.exi (fun r1c => ?_)
  refine O.exi (fun r1 => ?_)
  refine O.exi (fun s1A => ?_)
  refine O.exi (fun s1c => ?_)
  refine O.exi (fun s1 => ?_)
  refine O.sep ?_
  refine O.pur ?_
  rintro ⟨rfl, hr1_1, hr1_2⟩
  refine O.sep ?_
  refine O.e rfl rfl rfl (Ef.alloc rfl zr39 rfl) ?_
  rintro _ _ ⟨b1, rfl, rfl⟩
  refine O.s rfl rfl (Ef.storeAll 0 rfl sz39 rfl rfl rfl rfl (by simp [Value.oneCell']) rfl) ?_
  rintro _ _ rfl
  refine O.nil ?_
  refine X.next ?_
  refine V.seq ?_
  refine V.region ?_
  refine O.e rfl rfl rfl (Ef.call1 call18 rfl rfl (fun w hw => implNewDesk_ok   w   )) ?_
  rintro _ _ rfl
  refine O.exi (fun r2A => ?_)
  refine O.exi (fun r2c => ?_)
  refine O.exi (fun r2 => ?_)
  refine O.exi (fun s2A => ?_)
  refine O.exi (fun s2c => ?_)
  refine O.exi (fun s2 => ?_)
  refine O.sep ?_
  refine O.pur ?_
  rintro ⟨rfl, hr2_1, hr2_2⟩
  refine O.sep ?_
  have heq := hr2_1.unique hr1_1
  have heq2 := hr2_2.trans hr1_2.symm
  have hlr2 := hr2_1.len
  have hmr2 : s2.length = 1 := by rw [hr2_2]; rfl
  have hl0 := hr1_1.len
  have hm0 : s1.length = 1 := by rw [hr1_2]; rfl
  refine O.e rfl rfl rfl (Ef.alloc rfl zr39 rfl) ?_
  rintro _ _ ⟨b2, rfl, rfl⟩
  refine O.s rfl rfl (Ef.storeAll 0 rfl sz39 rfl rfl rfl rfl (by simp [Value.oneCell']) rfl) ?_
  rintro _ _ rfl
  refine O.nil ?_
  refine X.next ?_
  refine V.seq ?_
  refine V.seq ?_
  refine V.region ?_
  refine O.p rfl rfl rfl (Pu.loadAgg rfl ag39 sz39 rfl rfl (Ld.whole 0 rfl)) ?_
  refine O.p rfl rfl rfl (Pu.loadAgg rfl ag39 sz39 rfl rfl (Ld.whole 3 rfl)) ?_
  refine O.e rfl rfl rfl (Ef.callP call19 rfl rfl (fun w hw => eqDesk_ok _ _ _ _ r2 s2 r1 s1 _ _ _ _ _ _ _ _ w ((Ld.own 1 (by exact rfl)) w hw) ((Ld.own 2 (by exact rfl)) w hw) ((Ld.own 4 (by exact rfl)) w hw) ((Ld.own 5 (by exact rfl)) w hw) (by omega) (by omega) (by omega) (by omega))) ?_
  rintro _ _ ⟨rfl, rfl⟩
  refine O.p rfl rfl rfl (Pu.not rfl rfl) ?_
  refine O.nil ?_
  refine X.next ?_
  refine V.condNot rfl (fun c1 => ?_) (fun c1 => ?_)
  · skip
    refine V.seq ?_
    refine V.region ?_
    refine O.p rfl rfl rfl (Pu.assign rfl rfl) ?_
    refine O.nil ?_
    refine X.next ?_
    refine V.ret ?_
    refine X.thenRet ?_
    refine X.ret1 rfl rfl ?_
    exact absurd (by first | assumption | rfl | exact ⟨rfl, rfl⟩ | exact ⟨rfl, by assumption⟩ | exact ⟨⟨rfl, by assumption⟩, rfl, by assumption⟩ | omega | (simp only [*]; done) | (rw [rfl])) c1
  · skip
    refine V.skip ?_
    refine X.next ?_
    refine V.seq ?_
    refine V.region ?_
    refine O.p rfl rfl rfl (Pu.assign rfl rfl) ?_
    refine O.nil ?_
    refine X.next ?_
    refine V.seq ?_
    refine V.region ?_
    refine O.p rfl rfl rfl (Pu.loadAgg rfl ag39 sz39 rfl rfl (Ld.whole 0 rfl)) ?_
    refine O.p rfl rfl rfl (Pu.move rfl rfl) ?_
    refine O.e rfl rfl rfl (Ef.call call20 rfl rfl (Does.pre (fun w hw => hw.sub (Sub.keep 1 rfl (Sub.keep 1 rfl (Sub.keep 0 rfl (Sub.keep 0 rfl (Sub.keep 0 rfl (Sub.keep 0 rfl (Sub.nil _)))))))) (markDesk_ok _ _ r2 s2 _ _ _ _ _ _ _ (by omega) (by omega) (by omega)))) ?_
    rintro _ _ rfl
    refine O.pur ?_
    rintro rfl
    refine O.p rfl rfl rfl (Pu.assign rfl rfl) ?_
    refine O.nil ?_
    refine X.next ?_
    refine V.seq ?_
    refine V.region ?_
    refine O.p rfl rfl rfl (Pu.assign rfl rfl) ?_
    refine O.nil ?_
    refine X.next ?_
    refine V.seq ?_
    refine V.region ?_
    refine O.p rfl rfl rfl (Pu.loadAgg rfl ag39 sz39 rfl rfl (Ld.whole 2 rfl)) ?_
    refine O.p rfl rfl rfl (Pu.move rfl rfl) ?_
    refine O.e rfl rfl rfl (Ef.callP call21 rfl rfl (fun w hw => heldDesk_ok _ _ r2.length s2.length _ _ _ _ _ w ((Ld.own 0 (by exact rfl)) w hw) ((Ld.own 1 (by exact rfl)) w hw) (by omega) (by omega) (by omega))) ?_
    rintro _ _ ⟨rfl, rfl⟩
    refine O.p rfl rfl rfl (Pu.assign rfl rfl) ?_
    refine O.nil ?_
    refine X.next ?_
    refine V.seq ?_
    refine V.seq ?_
    refine V.region ?_
    refine O.p rfl rfl rfl (Pu.move rfl rfl) ?_
    refine O.p rfl rfl rfl (Pu.lss rfl rfl rfl) ?_
    refine O.nil ?_
    refine X.next ?_
    refine V.condD rfl (fun c2 => ?_) (fun c2 => ?_)
    · skip
      refine V.seq ?_
      refine V.region ?_
      refine O.p rfl rfl rfl (Pu.assign rfl rfl) ?_
      refine O.nil ?_
      refine X.next ?_
      refine V.ret ?_
      refine X.thenRet ?_
      refine X.ret1 rfl rfl ?_
      exact absurd c2 (by first | omega | assumption)
    · skip
      refine V.skip ?_
      refine X.next ?_
      refine V.seq ?_
      refine V.seq ?_
      refine V.region ?_
      refine O.p rfl rfl rfl (Pu.move rfl rfl) ?_
      refine O.p rfl rfl rfl (Pu.move rfl rfl) ?_
      refine O.p rfl rfl rfl (Pu.neq rfl rfl rfl) ?_
      refine O.nil ?_
      refine X.next ?_
      refine V.condNot rfl (fun c3 => ?_) (fun c3 => ?_)
      · skip
        refine V.seq ?_
        refine V.region ?_
        refine O.p rfl rfl rfl (Pu.assign rfl rfl) ?_
        refine O.nil ?_
        refine X.next ?_
        refine V.ret ?_
        refine X.thenRet ?_
        refine X.ret1 rfl rfl ?_
        exact absurd (by first | assumption | rfl | exact ⟨rfl, rfl⟩ | exact ⟨rfl, by assumption⟩ | exact ⟨⟨rfl, by assumption⟩, rfl, by assumption⟩ | omega | (simp only [*]; done) | (rw [rfl])) c3
      · skip
        refine V.skip ?_
        refine X.next ?_
        refine V.seq ?_
        refine V.region ?_
        refine O.e rfl rfl rfl (Ef.call1 call18 rfl rfl (fun w hw => implNewDesk_ok   w   )) ?_
        rintro _ _ rfl
        refine O.exi (fun r3A => ?_)
        refine O.exi (fun r3c => ?_)
        refine O.exi (fun r3 => ?_)
        refine O.exi (fun s3A => ?_)
        refine O.exi (fun s3c => ?_)
        refine O.exi (fun s3 => ?_)
        refine O.sep ?_
        refine O.pur ?_
        rintro ⟨rfl, hr3_1, hr3_2⟩
        refine O.sep ?_
        have heq := hr3_1.unique hr1_1
        have heq2 := hr3_2.trans hr1_2.symm
        have hlr3 := hr3_1.len
        have hmr3 : s3.length = 1 := by rw [hr3_2]; rfl
        have hl0 := hr1_1.len
        have hm0 : s1.length = 1 := by rw [hr1_2]; rfl
        refine O.e rfl rfl rfl (Ef.alloc rfl zr39 rfl) ?_
        rintro _ _ ⟨b3, rfl, rfl⟩
        refine O.s rfl rfl (Ef.storeAll 0 rfl sz39 rfl rfl rfl rfl (by simp [Value.oneCell']) rfl) ?_
        rintro _ _ rfl
        refine O.nil ?_
        refine X.next ?_
        refine V.seq ?_
        refine V.seq ?_
        refine V.region ?_
        refine O.p rfl rfl rfl (Pu.loadAgg rfl ag39 sz39 rfl rfl (Ld.whole 0 rfl)) ?_
        refine O.p rfl rfl rfl (Pu.loadAgg rfl ag39 sz39 rfl rfl (Ld.whole 6 rfl)) ?_
        refine O.e rfl rfl rfl (Ef.callP call19 rfl rfl (fun w hw => eqDesk_ok _ _ _ _ r3 s3 r1 s1 _ _ _ _ _ _ _ _ w ((Ld.own 1 (by exact rfl)) w hw) ((Ld.own 2 (by exact rfl)) w hw) ((Ld.own 7 (by exact rfl)) w hw) ((Ld.own 8 (by exact rfl)) w hw) (by omega) (by omega) (by omega) (by omega))) ?_
        rintro _ _ ⟨rfl, rfl⟩
        refine O.p rfl rfl rfl (Pu.not rfl rfl) ?_
        refine O.nil ?_
        refine X.next ?_
        refine V.condNot rfl (fun c4 => ?_) (fun c4 => ?_)
        · skip
          refine V.seq ?_
          refine V.region ?_
          refine O.p rfl rfl rfl (Pu.assign rfl rfl) ?_
          refine O.nil ?_
          refine X.next ?_
          refine V.ret ?_
          refine X.thenRet ?_
          refine X.ret1 rfl rfl ?_
          exact absurd (by first | assumption | rfl | exact ⟨rfl, rfl⟩ | exact ⟨rfl, by assumption⟩ | exact ⟨⟨rfl, by assumption⟩, rfl, by assumption⟩ | omega | (simp only [*]; done) | (rw [rfl])) c4
        · skip
          refine V.skip ?_
          refine X.next ?_
          refine V.seq ?_
          refine V.region ?_
          refine O.p rfl rfl rfl (Pu.assign rfl rfl) ?_
          refine O.nil ?_
          refine X.next ?_
          refine V.seq ?_
          refine V.region ?_
          refine O.p rfl rfl rfl (Pu.loadAgg rfl ag39 sz39 rfl rfl (Ld.whole 5 rfl)) ?_
          refine O.p rfl rfl rfl (Pu.move rfl rfl) ?_
          refine O.e rfl rfl rfl (Ef.callP call21 rfl rfl (fun w hw => heldDesk_ok _ _ r2.length s2.length _ _ _ _ _ w ((Ld.own 3 (by exact rfl)) w hw) ((Ld.own 4 (by exact rfl)) w hw) (by omega) (by omega) (by omega))) ?_
          rintro _ _ ⟨rfl, rfl⟩
          refine O.p rfl rfl rfl (Pu.assign rfl rfl) ?_
          refine O.nil ?_
          refine X.next ?_
          refine V.seq ?_
          refine V.seq ?_
          refine V.region ?_
          refine O.p rfl rfl rfl (Pu.move rfl rfl) ?_
          refine O.p rfl rfl rfl (Pu.lss rfl rfl rfl) ?_
          refine O.nil ?_
          refine X.next ?_
          refine V.condD rfl (fun c5 => ?_) (fun c5 => ?_)
          · skip
            refine V.seq ?_
            refine V.region ?_
            refine O.p rfl rfl rfl (Pu.assign rfl rfl) ?_
            refine O.nil ?_
            refine X.next ?_
            refine V.ret ?_
            refine X.thenRet ?_
            refine X.ret1 rfl rfl ?_
            exact absurd c5 (by first | omega | assumption)
          · skip
            refine V.skip ?_
            refine X.next ?_
            refine V.seq ?_
            refine V.seq ?_
            refine V.region ?_
            refine O.p rfl rfl rfl (Pu.move rfl rfl) ?_
            refine O.p rfl rfl rfl (Pu.move rfl rfl) ?_
            refine O.p rfl rfl rfl (Pu.neq rfl rfl rfl) ?_
            refine O.nil ?_
            refine X.next ?_
            refine V.condNot rfl (fun c6 => ?_) (fun c6 => ?_)
            · skip
              refine V.seq ?_
              refine V.region ?_
              refine O.p rfl rfl rfl (Pu.assign rfl rfl) ?_
              refine O.nil ?_
              refine X.next ?_
              refine V.ret ?_
              refine X.thenRet ?_
              refine X.ret1 rfl rfl ?_
              exact absurd (by first | assumption | rfl | exact ⟨rfl, rfl⟩ | exact ⟨rfl, by assumption⟩ | exact ⟨⟨rfl, by assumption⟩, rfl, by assumption⟩ | omega | (simp only [*]; done) | (rw [rfl])) c6
            · skip
              refine V.skip ?_
              refine X.next ?_
              refine V.seq ?_
              refine V.region ?_
              refine O.p rfl rfl rfl (Pu.assign rfl rfl) ?_
              refine O.nil ?_
              refine X.next ?_
              refine V.ret ?_
              refine X.ret1 rfl rfl ?_
              exact fun w hw => St.retP rfl hw
end Go.Proofs.Ytnngcemighmikaa
