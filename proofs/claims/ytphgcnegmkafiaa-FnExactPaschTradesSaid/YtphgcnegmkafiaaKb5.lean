/-
  Contracts, part 5.
-/
import Derived.Test.YtphgcnegmkafiaaKb4
set_option linter.unusedVariables false
set_option linter.unusedSimpArgs false
namespace Go.Proofs.Ytphgcnegmkafiaa
open Go Go.RowKit Go.Vc Go.Proofs
set_option maxRecDepth 100000 in
set_option maxHeartbeats 1000000 in
theorem exchangedT_ok (blocks : List B3) (a : Int) (b : Int) (blocksA : Option Addr) (blocksc : Nat) (w : World) (hblocks : Rd B3C w blocksA blocks) (lblocks : blocks.length ≤ 1099511627776) (lb : blocks.length ≤ 1000) : Does Try.prog 115 [.slice blocksA blocks.length blocksc, .int .i64 a, .int .i64 b] w [] (fun rv_ => [.exi fun (rA : Option Addr) => .exi fun (rc : Nat) => .exi fun (r : List B3) => .sep (.pur (rv_ = .slice rA r.length rc ∧ r.Perm (blocks.map (exB a b)) ∧ SrtB r)) (Own 67 B3C rA rc r)]) := by
  refine Does.enter Try.func115 rfl rfl [(0, .slice blocksA blocks.length blocksc), (1, .int .i64 a), (2, .int .i64 b)] rfl ?_
  refine V.seq ?_
  refine V.region ?_
  refine O.p rfl rfl rfl (Pu.assign rfl rfl) ?_
  refine O.nil ?_
  refine X.next ?_
  refine V.seq ?_
  refine V.region ?_
  refine O.p rfl rfl rfl (Pu.assign rfl rfl) ?_
  refine O.nil ?_
  refine X.next ?_
  refine V.seq ?_
  refine V.seq ?_
  refine V.region ?_
  refine O.p rfl rfl rfl (Pu.move rfl rfl) ?_
  refine O.p rfl rfl rfl (Pu.len rfl Try.underlying28 rfl) ?_
  refine O.p rfl rfl rfl (Pu.move rfl rfl) ?_
  refine O.nil ?_
  refine X.next ?_
  refine V.block ?_
  refine V.map (fun w hw => St.addNil (T := 67) (C := B3C) hw) ?_
  refine V.loop2 (β := (Option Addr) × Nat × (List B3) × Nat) (fun x => [(7, .slice x.1 x.2.2.1.length x.2.1), (14, .int .i64 (x.2.2.2 : Int))]) _ (fun x => [Own 67 B3C x.1 x.2.1 x.2.2.1]) (fun x => x.2.2.2 ≤ blocks.length ∧ x.2.2.1 = (blocks.take x.2.2.2).map (exB a b) ∧ x.2.2.1.length ≤ x.2.2.2) (fun x => blocks.length - x.2.2.2) (none, 0, [], 0) (by (try dsimp only); exact ⟨by omega, rfl, by simp⟩) (Ent.cons rfl (Ent.cons rfl (Ent.nil _))) (Ent.cons (t := 1) rfl (Ent.cons (t := 2) rfl (Ent.cons (t := 12) rfl (Ent.cons (t := 13) rfl (Ent.nil _))))) (Sub.keep 0 rfl (Sub.nil _)) ?_
  rintro ⟨outA, outc, out, i⟩ ⟨hi, ho, hl⟩
  dsimp only at hi ho hl ⊢
  refine V.seq ?_
  refine V.region ?_
  refine O.p rfl rfl rfl (Pu.lss rfl rfl rfl) ?_
  refine O.nil ?_
  refine X.next ?_
  refine V.seq ?_
  refine V.condD rfl (fun c1 => ?_) (fun c1 => ?_)
  · skip
    refine V.skip ?_
    refine X.next ?_
    refine V.seq ?_
    refine V.block ?_
    refine V.seq ?_
    refine V.region ?_
    refine O.p rfl rfl rfl (Pu.indexAddr (i) rfl Try.underlying28 sz67 rfl rfl (by omega) (by omega) (hblocks.some (by omega))) ?_
    have e1 : i < blocks.length := by omega
    refine O.p rfl rfl rfl (Pu.loadAgg' (v := B3.v (blocks[i]'e1)) rfl rfl ag67 sz67 rfl rfl (Ld.rds (Ld.old hblocks) (k := i) e1 rfl)) ?_
    refine O.e rfl rfl rfl (Ef.alloc rfl zr67 rfl) ?_
    rintro _ _ ⟨b1, rfl, rfl⟩
    refine O.s rfl rfl (Ef.storeAll 0 rfl sz67 rfl rfl rfl rfl (by simp [Value.oneCell']) rfl) ?_
    rintro _ _ rfl
    refine O.nil ?_
    refine X.next ?_
    refine V.seq ?_
    refine V.seq ?_
    refine V.region ?_
    refine O.p rfl rfl rfl (Pu.loadAgg' (v := B3.v (blocks[i]'e1)) rfl rfl ag67 sz67 rfl rfl (Ld.whole 0 rfl)) ?_
    refine O.p rfl rfl rfl (Pu.move rfl rfl) ?_
    refine O.nil ?_
    refine X.next ?_
    refine V.block ?_
    refine V.unroll 3 ?_
    refine V.seq ?_
    refine V.region ?_
    refine O.p rfl rfl rfl (Pu.isT (by decide) (Pu.lss rfl rfl rfl)) ?_
    refine O.nil ?_
    refine X.next ?_
    refine V.seq ?_
    refine V.condT rfl ?_
    refine V.skip ?_
    refine X.next ?_
    refine V.seq ?_
    refine V.block ?_
    refine V.seq ?_
    refine V.region ?_
    refine O.p rfl rfl rfl (Pu.move rfl rfl) ?_
    refine O.p rfl rfl rfl (Pu.indexAgg 0 rfl Try.underlying67 sz2 pl2 rfl rfl (by decide) (by decide) rfl) ?_
    refine O.p rfl rfl rfl (Pu.assign rfl rfl) ?_
    refine O.p rfl rfl rfl (Pu.assign rfl rfl) ?_
    refine O.nil ?_
    refine X.next ?_
    refine V.seq ?_
    refine V.region ?_
    refine O.p rfl rfl rfl (Pu.move rfl rfl) ?_
    refine O.nil ?_
    refine X.next ?_
    refine V.block ?_
    refine V.seq ?_
    refine V.region ?_
    refine O.p rfl rfl rfl (Pu.move rfl rfl) ?_
    refine O.p rfl rfl rfl (Pu.eql rfl rfl rfl) ?_
    refine O.p rfl rfl rfl (Pu.assign rfl rfl) ?_
    refine O.nil ?_
    refine X.next ?_
    refine V.condD rfl (fun c2 => ?_) (fun c2 => ?_)
    · skip
      refine V.region ?_
      refine O.p rfl rfl rfl (Pu.move rfl rfl) ?_
      refine O.p rfl rfl rfl (Pu.move rfl rfl) ?_
      refine O.p rfl rfl rfl (Pu.indexArr 0 0 rfl Try.underlying67 sz2 rfl rfl (by decide) (by decide) (by decide)) ?_
      refine O.s rfl rfl (Ef.store1 (cs' := [_, _, _]) 0 rfl sz2 rfl rfl rfl rfl rfl (ltb rfl) rfl) ?_
      rintro _ _ rfl
      refine O.nil ?_
      refine X.blockNormal ?_
      refine X.blockNormal ?_
      refine X.next ?_
      refine V.region ?_
      refine O.p rfl rfl rfl (Pu.add64 (r := 1) (by decide) (by decide) rfl rfl rfl) ?_
      refine O.p rfl rfl rfl (Pu.move rfl rfl) ?_
      refine O.nil ?_
      refine X.again 2 ?_
      refine V.seq ?_
      refine V.region ?_
      refine O.p rfl rfl rfl (Pu.isT (by decide) (Pu.lss rfl rfl rfl)) ?_
      refine O.nil ?_
      refine X.next ?_
      refine V.seq ?_
      refine V.condT rfl ?_
      refine V.skip ?_
      refine X.next ?_
      refine V.seq ?_
      refine V.block ?_
      refine V.seq ?_
      refine V.region ?_
      refine O.p rfl rfl rfl (Pu.move rfl rfl) ?_
      refine O.p rfl rfl rfl (Pu.indexAgg 1 rfl Try.underlying67 sz2 pl2 rfl rfl (by decide) (by decide) rfl) ?_
      refine O.p rfl rfl rfl (Pu.assign rfl rfl) ?_
      refine O.p rfl rfl rfl (Pu.assign rfl rfl) ?_
      refine O.nil ?_
      refine X.next ?_
      refine V.seq ?_
      refine V.region ?_
      refine O.p rfl rfl rfl (Pu.move rfl rfl) ?_
      refine O.nil ?_
      refine X.next ?_
      refine V.block ?_
      refine V.seq ?_
      refine V.region ?_
      refine O.p rfl rfl rfl (Pu.move rfl rfl) ?_
      refine O.p rfl rfl rfl (Pu.eql rfl rfl rfl) ?_
      refine O.p rfl rfl rfl (Pu.assign rfl rfl) ?_
      refine O.nil ?_
      refine X.next ?_
      refine V.condD rfl (fun c3 => ?_) (fun c3 => ?_)
      · skip
        refine V.region ?_
        refine O.p rfl rfl rfl (Pu.move rfl rfl) ?_
        refine O.p rfl rfl rfl (Pu.move rfl rfl) ?_
        refine O.p rfl rfl rfl (Pu.indexArr 1 1 rfl Try.underlying67 sz2 rfl rfl (by decide) (by decide) (by decide)) ?_
        refine O.s rfl rfl (Ef.store1 (cs' := [_, _, _]) 0 rfl sz2 rfl rfl rfl rfl rfl (ltb rfl) rfl) ?_
        rintro _ _ rfl
        refine O.nil ?_
        refine X.blockNormal ?_
        refine X.blockNormal ?_
        refine X.next ?_
        refine V.region ?_
        refine O.p rfl rfl rfl (Pu.add64 (r := 2) (by decide) (by decide) rfl rfl rfl) ?_
        refine O.p rfl rfl rfl (Pu.move rfl rfl) ?_
        refine O.nil ?_
        refine X.again 1 ?_
        refine V.seq ?_
        refine V.region ?_
        refine O.p rfl rfl rfl (Pu.isT (by decide) (Pu.lss rfl rfl rfl)) ?_
        refine O.nil ?_
        refine X.next ?_
        refine V.seq ?_
        refine V.condT rfl ?_
        refine V.skip ?_
        refine X.next ?_
        refine V.seq ?_
        refine V.block ?_
        refine V.seq ?_
        refine V.region ?_
        refine O.p rfl rfl rfl (Pu.move rfl rfl) ?_
        refine O.p rfl rfl rfl (Pu.indexAgg 2 rfl Try.underlying67 sz2 pl2 rfl rfl (by decide) (by decide) rfl) ?_
        refine O.p rfl rfl rfl (Pu.assign rfl rfl) ?_
        refine O.p rfl rfl rfl (Pu.assign rfl rfl) ?_
        refine O.nil ?_
        refine X.next ?_
        refine V.seq ?_
        refine V.region ?_
        refine O.p rfl rfl rfl (Pu.move rfl rfl) ?_
        refine O.nil ?_
        refine X.next ?_
        refine V.block ?_
        refine V.seq ?_
        refine V.region ?_
        refine O.p rfl rfl rfl (Pu.move rfl rfl) ?_
        refine O.p rfl rfl rfl (Pu.eql rfl rfl rfl) ?_
        refine O.p rfl rfl rfl (Pu.assign rfl rfl) ?_
        refine O.nil ?_
        refine X.next ?_
        refine V.condD rfl (fun c4 => ?_) (fun c4 => ?_)
        · skip
          refine V.region ?_
          refine O.p rfl rfl rfl (Pu.move rfl rfl) ?_
          refine O.p rfl rfl rfl (Pu.move rfl rfl) ?_
          refine O.p rfl rfl rfl (Pu.indexArr 2 2 rfl Try.underlying67 sz2 rfl rfl (by decide) (by decide) (by decide)) ?_
          refine O.s rfl rfl (Ef.store1 (cs' := [_, _, _]) 0 rfl sz2 rfl rfl rfl rfl rfl (ltb rfl) rfl) ?_
          rintro _ _ rfl
          refine O.nil ?_
          refine X.blockNormal ?_
          refine X.blockNormal ?_
          refine X.next ?_
          refine V.region ?_
          refine O.p rfl rfl rfl (Pu.add64 (r := 3) (by decide) (by decide) rfl rfl rfl) ?_
          refine O.p rfl rfl rfl (Pu.move rfl rfl) ?_
          refine O.nil ?_
          refine X.again 0 ?_
          refine V.seq ?_
          refine V.region ?_
          refine O.p rfl rfl rfl (Pu.isF (by decide) (Pu.lss rfl rfl rfl)) ?_
          refine O.nil ?_
          refine X.next ?_
          refine V.seq ?_
          refine V.condF rfl ?_
          refine V.exit ?_
          refine X.thenExit ?_
          refine X.thenExit ?_
          refine X.blockHit ?_
          refine X.next ?_
          refine V.region ?_
          refine O.p rfl rfl rfl (Pu.move rfl rfl) ?_
          refine O.p rfl rfl rfl (Pu.indexArr 0 0 rfl Try.underlying67 sz2 rfl rfl (by decide) (by decide) (by decide)) ?_
          refine O.p rfl rfl rfl (Pu.load rfl pl2 rfl (Ld.blk 0 rfl rfl)) ?_
          refine O.p rfl rfl rfl (Pu.indexArr 1 1 rfl Try.underlying67 sz2 rfl rfl (by decide) (by decide) (by decide)) ?_
          refine O.p rfl rfl rfl (Pu.load rfl pl2 rfl (Ld.blk 0 rfl rfl)) ?_
          refine O.p rfl rfl rfl (Pu.indexArr 2 2 rfl Try.underlying67 sz2 rfl rfl (by decide) (by decide) (by decide)) ?_
          refine O.p rfl rfl rfl (Pu.load rfl pl2 rfl (Ld.blk 0 rfl rfl)) ?_
          refine O.e rfl rfl rfl (Ef.callP call131 rfl rfl (fun w hw => blockOf_ok  b b b w   )) ?_
          rintro _ _ ⟨rfl, rfl⟩
          refine O.e rfl rfl rfl (Ef.build B3C ([(bk3 b b b)] : List B3) rfl Try.underlying28 inf67 rfl rfl rfl (by first | decide | (simp; done)) (by kernel_rfl)) ?_
          rintro _ _ ⟨A1, hA1, rfl, rfl⟩
          refine O.e rfl rfl rfl (Ef.append (xs := out) (ys := ([(bk3 b b b)] : List B3)) 2 rfl Try.underlying28 inf67 rfl rfl rfl rfl rfl rfl hA1 (Ld.own 0 (by exact rfl)) (by simp only [List.length_append, List.length_cons, List.length_nil] at *; omega) (by decide)) ?_
          rintro _ _ ⟨A2, k1, rfl, rfl, hA2⟩
          replace hA2 := hA2 (.inr (by simp))
          refine O.p rfl rfl rfl (Pu.assign rfl rfl) ?_
          refine O.nil ?_
          refine X.blockNormal ?_
          refine X.next ?_
          refine V.region ?_
          refine O.p rfl rfl rfl (Pu.add64 (r := ((i + 1 : Nat) : Int)) rfl (by omega) rfl rfl rfl) ?_
          refine O.p rfl rfl rfl (Pu.move rfl rfl) ?_
          refine O.nil ?_
          exact X.back2 (A2, k1, (out ++ ([(bk3 b b b)] : List B3)), i + 1) (by (try dsimp only); exact ⟨by omega, by rw [take_snoc e1, List.map_append, ho]; refine congrArg _ (congrArg (· :: []) ?_); unfold exB sw2; (repeat' split) <;> first | (exfalso; omega) | rfl, by simp only [List.length_append, List.length_singleton]; omega⟩) (by first | omega | (dsimp only; omega)) (Ent.cons rfl (Ent.cons rfl (Ent.nil _))) (Ent.cons (t := 1) rfl (Ent.cons (t := 2) rfl (Ent.cons (t := 12) rfl (Ent.cons (t := 13) rfl (Ent.nil _))))) (Sub.keep 2 rfl (Sub.nil _))
        · skip
          refine V.seq ?_
          refine V.region ?_
          refine O.p rfl rfl rfl (Pu.move rfl rfl) ?_
          refine O.p rfl rfl rfl (Pu.eql rfl rfl rfl) ?_
          refine O.p rfl rfl rfl (Pu.assign rfl rfl) ?_
          refine O.nil ?_
          refine X.next ?_
          refine V.condD rfl (fun c5 => ?_) (fun c5 => ?_)
          · skip
            refine V.region ?_
            refine O.p rfl rfl rfl (Pu.move rfl rfl) ?_
            refine O.p rfl rfl rfl (Pu.move rfl rfl) ?_
            refine O.p rfl rfl rfl (Pu.indexArr 2 2 rfl Try.underlying67 sz2 rfl rfl (by decide) (by decide) (by decide)) ?_
            refine O.s rfl rfl (Ef.store1 (cs' := [_, _, _]) 0 rfl sz2 rfl rfl rfl rfl rfl (ltb rfl) rfl) ?_
            rintro _ _ rfl
            refine O.nil ?_
            refine X.blockNormal ?_
            refine X.blockNormal ?_
            refine X.next ?_
            refine V.region ?_
            refine O.p rfl rfl rfl (Pu.add64 (r := 3) (by decide) (by decide) rfl rfl rfl) ?_
            refine O.p rfl rfl rfl (Pu.move rfl rfl) ?_
            refine O.nil ?_
            refine X.again 0 ?_
            refine V.seq ?_
            refine V.region ?_
            refine O.p rfl rfl rfl (Pu.isF (by decide) (Pu.lss rfl rfl rfl)) ?_
            refine O.nil ?_
            refine X.next ?_
            refine V.seq ?_
            refine V.condF rfl ?_
            refine V.exit ?_
            refine X.thenExit ?_
            refine X.thenExit ?_
            refine X.blockHit ?_
            refine X.next ?_
            refine V.region ?_
            refine O.p rfl rfl rfl (Pu.move rfl rfl) ?_
            refine O.p rfl rfl rfl (Pu.indexArr 0 0 rfl Try.underlying67 sz2 rfl rfl (by decide) (by decide) (by decide)) ?_
            refine O.p rfl rfl rfl (Pu.load rfl pl2 rfl (Ld.blk 0 rfl rfl)) ?_
            refine O.p rfl rfl rfl (Pu.indexArr 1 1 rfl Try.underlying67 sz2 rfl rfl (by decide) (by decide) (by decide)) ?_
            refine O.p rfl rfl rfl (Pu.load rfl pl2 rfl (Ld.blk 0 rfl rfl)) ?_
            refine O.p rfl rfl rfl (Pu.indexArr 2 2 rfl Try.underlying67 sz2 rfl rfl (by decide) (by decide) (by decide)) ?_
            refine O.p rfl rfl rfl (Pu.load rfl pl2 rfl (Ld.blk 0 rfl rfl)) ?_
            refine O.e rfl rfl rfl (Ef.callP call131 rfl rfl (fun w hw => blockOf_ok  b b a w   )) ?_
            rintro _ _ ⟨rfl, rfl⟩
            refine O.e rfl rfl rfl (Ef.build B3C ([(bk3 b b a)] : List B3) rfl Try.underlying28 inf67 rfl rfl rfl (by first | decide | (simp; done)) (by kernel_rfl)) ?_
            rintro _ _ ⟨A3, hA3, rfl, rfl⟩
            refine O.e rfl rfl rfl (Ef.append (xs := out) (ys := ([(bk3 b b a)] : List B3)) 2 rfl Try.underlying28 inf67 rfl rfl rfl rfl rfl rfl hA3 (Ld.own 0 (by exact rfl)) (by simp only [List.length_append, List.length_cons, List.length_nil] at *; omega) (by decide)) ?_
            rintro _ _ ⟨A4, k2, rfl, rfl, hA4⟩
            replace hA4 := hA4 (.inr (by simp))
            refine O.p rfl rfl rfl (Pu.assign rfl rfl) ?_
            refine O.nil ?_
            refine X.blockNormal ?_
            refine X.next ?_
            refine V.region ?_
            refine O.p rfl rfl rfl (Pu.add64 (r := ((i + 1 : Nat) : Int)) rfl (by omega) rfl rfl rfl) ?_
            refine O.p rfl rfl rfl (Pu.move rfl rfl) ?_
            refine O.nil ?_
            exact X.back2 (A4, k2, (out ++ ([(bk3 b b a)] : List B3)), i + 1) (by (try dsimp only); exact ⟨by omega, by rw [take_snoc e1, List.map_append, ho]; refine congrArg _ (congrArg (· :: []) ?_); unfold exB sw2; (repeat' split) <;> first | (exfalso; omega) | rfl, by simp only [List.length_append, List.length_singleton]; omega⟩) (by first | omega | (dsimp only; omega)) (Ent.cons rfl (Ent.cons rfl (Ent.nil _))) (Ent.cons (t := 1) rfl (Ent.cons (t := 2) rfl (Ent.cons (t := 12) rfl (Ent.cons (t := 13) rfl (Ent.nil _))))) (Sub.keep 2 rfl (Sub.nil _))
          · skip
            refine V.skip ?_
            refine X.blockNormal ?_
            refine X.blockNormal ?_
            refine X.next ?_
            refine V.region ?_
            refine O.p rfl rfl rfl (Pu.add64 (r := 3) (by decide) (by decide) rfl rfl rfl) ?_
            refine O.p rfl rfl rfl (Pu.move rfl rfl) ?_
            refine O.nil ?_
            refine X.again 0 ?_
            refine V.seq ?_
            refine V.region ?_
            refine O.p rfl rfl rfl (Pu.isF (by decide) (Pu.lss rfl rfl rfl)) ?_
            refine O.nil ?_
            refine X.next ?_
            refine V.seq ?_
            refine V.condF rfl ?_
            refine V.exit ?_
            refine X.thenExit ?_
            refine X.thenExit ?_
            refine X.blockHit ?_
            refine X.next ?_
            refine V.region ?_
            refine O.p rfl rfl rfl (Pu.move rfl rfl) ?_
            refine O.p rfl rfl rfl (Pu.indexArr 0 0 rfl Try.underlying67 sz2 rfl rfl (by decide) (by decide) (by decide)) ?_
            refine O.p rfl rfl rfl (Pu.load rfl pl2 rfl (Ld.blk 0 rfl rfl)) ?_
            refine O.p rfl rfl rfl (Pu.indexArr 1 1 rfl Try.underlying67 sz2 rfl rfl (by decide) (by decide) (by decide)) ?_
            refine O.p rfl rfl rfl (Pu.load rfl pl2 rfl (Ld.blk 0 rfl rfl)) ?_
            refine O.p rfl rfl rfl (Pu.indexArr 2 2 rfl Try.underlying67 sz2 rfl rfl (by decide) (by decide) (by decide)) ?_
            refine O.p rfl rfl rfl (Pu.load rfl pl2 rfl (Ld.blk 0 rfl rfl)) ?_
            refine O.e rfl rfl rfl (Ef.callP call131 rfl rfl (fun w hw => blockOf_ok  b b ((blocks[i]'e1).2.2) w   )) ?_
            rintro _ _ ⟨rfl, rfl⟩
            refine O.e rfl rfl rfl (Ef.build B3C ([(bk3 b b ((blocks[i]'e1).2.2))] : List B3) rfl Try.underlying28 inf67 rfl rfl rfl (by first | decide | (simp; done)) (by kernel_rfl)) ?_
            rintro _ _ ⟨A5, hA5, rfl, rfl⟩
            refine O.e rfl rfl rfl (Ef.append (xs := out) (ys := ([(bk3 b b ((blocks[i]'e1).2.2))] : List B3)) 2 rfl Try.underlying28 inf67 rfl rfl rfl rfl rfl rfl hA5 (Ld.own 0 (by exact rfl)) (by simp only [List.length_append, List.length_cons, List.length_nil] at *; omega) (by decide)) ?_
            rintro _ _ ⟨A6, k3, rfl, rfl, hA6⟩
            replace hA6 := hA6 (.inr (by simp))
            refine O.p rfl rfl rfl (Pu.assign rfl rfl) ?_
            refine O.nil ?_
            refine X.blockNormal ?_
            refine X.next ?_
            refine V.region ?_
            refine O.p rfl rfl rfl (Pu.add64 (r := ((i + 1 : Nat) : Int)) rfl (by omega) rfl rfl rfl) ?_
            refine O.p rfl rfl rfl (Pu.move rfl rfl) ?_
            refine O.nil ?_
            exact X.back2 (A6, k3, (out ++ ([(bk3 b b ((blocks[i]'e1).2.2))] : List B3)), i + 1) (by (try dsimp only); exact ⟨by omega, by rw [take_snoc e1, List.map_append, ho]; refine congrArg _ (congrArg (· :: []) ?_); unfold exB sw2; (repeat' split) <;> first | (exfalso; omega) | rfl, by simp only [List.length_append, List.length_singleton]; omega⟩) (by first | omega | (dsimp only; omega)) (Ent.cons rfl (Ent.cons rfl (Ent.nil _))) (Ent.cons (t := 1) rfl (Ent.cons (t := 2) rfl (Ent.cons (t := 12) rfl (Ent.cons (t := 13) rfl (Ent.nil _))))) (Sub.keep 2 rfl (Sub.nil _))
      · skip
        refine V.seq ?_
        refine V.region ?_
        refine O.p rfl rfl rfl (Pu.move rfl rfl) ?_
        refine O.p rfl rfl rfl (Pu.eql rfl rfl rfl) ?_
        refine O.p rfl rfl rfl (Pu.assign rfl rfl) ?_
        refine O.nil ?_
        refine X.next ?_
        refine V.condD rfl (fun c6 => ?_) (fun c6 => ?_)
        · skip
          refine V.region ?_
          refine O.p rfl rfl rfl (Pu.move rfl rfl) ?_
          refine O.p rfl rfl rfl (Pu.move rfl rfl) ?_
          refine O.p rfl rfl rfl (Pu.indexArr 1 1 rfl Try.underlying67 sz2 rfl rfl (by decide) (by decide) (by decide)) ?_
          refine O.s rfl rfl (Ef.store1 (cs' := [_, _, _]) 0 rfl sz2 rfl rfl rfl rfl rfl (ltb rfl) rfl) ?_
          rintro _ _ rfl
          refine O.nil ?_
          refine X.blockNormal ?_
          refine X.blockNormal ?_
          refine X.next ?_
          refine V.region ?_
          refine O.p rfl rfl rfl (Pu.add64 (r := 2) (by decide) (by decide) rfl rfl rfl) ?_
          refine O.p rfl rfl rfl (Pu.move rfl rfl) ?_
          refine O.nil ?_
          refine X.again 1 ?_
          refine V.seq ?_
          refine V.region ?_
          refine O.p rfl rfl rfl (Pu.isT (by decide) (Pu.lss rfl rfl rfl)) ?_
          refine O.nil ?_
          refine X.next ?_
          refine V.seq ?_
          refine V.condT rfl ?_
          refine V.skip ?_
          refine X.next ?_
          refine V.seq ?_
          refine V.block ?_
          refine V.seq ?_
          refine V.region ?_
          refine O.p rfl rfl rfl (Pu.move rfl rfl) ?_
          refine O.p rfl rfl rfl (Pu.indexAgg 2 rfl Try.underlying67 sz2 pl2 rfl rfl (by decide) (by decide) rfl) ?_
          refine O.p rfl rfl rfl (Pu.assign rfl rfl) ?_
          refine O.p rfl rfl rfl (Pu.assign rfl rfl) ?_
          refine O.nil ?_
          refine X.next ?_
          refine V.seq ?_
          refine V.region ?_
          refine O.p rfl rfl rfl (Pu.move rfl rfl) ?_
          refine O.nil ?_
          refine X.next ?_
          refine V.block ?_
          refine V.seq ?_
          refine V.region ?_
          refine O.p rfl rfl rfl (Pu.move rfl rfl) ?_
          refine O.p rfl rfl rfl (Pu.eql rfl rfl rfl) ?_
          refine O.p rfl rfl rfl (Pu.assign rfl rfl) ?_
          refine O.nil ?_
          refine X.next ?_
          refine V.condD rfl (fun c7 => ?_) (fun c7 => ?_)
          · skip
            refine V.region ?_
            refine O.p rfl rfl rfl (Pu.move rfl rfl) ?_
            refine O.p rfl rfl rfl (Pu.move rfl rfl) ?_
            refine O.p rfl rfl rfl (Pu.indexArr 2 2 rfl Try.underlying67 sz2 rfl rfl (by decide) (by decide) (by decide)) ?_
            refine O.s rfl rfl (Ef.store1 (cs' := [_, _, _]) 0 rfl sz2 rfl rfl rfl rfl rfl (ltb rfl) rfl) ?_
            rintro _ _ rfl
            refine O.nil ?_
            refine X.blockNormal ?_
            refine X.blockNormal ?_
            refine X.next ?_
            refine V.region ?_
            refine O.p rfl rfl rfl (Pu.add64 (r := 3) (by decide) (by decide) rfl rfl rfl) ?_
            refine O.p rfl rfl rfl (Pu.move rfl rfl) ?_
            refine O.nil ?_
            refine X.again 0 ?_
            refine V.seq ?_
            refine V.region ?_
            refine O.p rfl rfl rfl (Pu.isF (by decide) (Pu.lss rfl rfl rfl)) ?_
            refine O.nil ?_
            refine X.next ?_
            refine V.seq ?_
            refine V.condF rfl ?_
            refine V.exit ?_
            refine X.thenExit ?_
            refine X.thenExit ?_
            refine X.blockHit ?_
            refine X.next ?_
            refine V.region ?_
            refine O.p rfl rfl rfl (Pu.move rfl rfl) ?_
            refine O.p rfl rfl rfl (Pu.indexArr 0 0 rfl Try.underlying67 sz2 rfl rfl (by decide) (by decide) (by decide)) ?_
            refine O.p rfl rfl rfl (Pu.load rfl pl2 rfl (Ld.blk 0 rfl rfl)) ?_
            refine O.p rfl rfl rfl (Pu.indexArr 1 1 rfl Try.underlying67 sz2 rfl rfl (by decide) (by decide) (by decide)) ?_
            refine O.p rfl rfl rfl (Pu.load rfl pl2 rfl (Ld.blk 0 rfl rfl)) ?_
            refine O.p rfl rfl rfl (Pu.indexArr 2 2 rfl Try.underlying67 sz2 rfl rfl (by decide) (by decide) (by decide)) ?_
            refine O.p rfl rfl rfl (Pu.load rfl pl2 rfl (Ld.blk 0 rfl rfl)) ?_
            refine O.e rfl rfl rfl (Ef.callP call131 rfl rfl (fun w hw => blockOf_ok  b a b w   )) ?_
            rintro _ _ ⟨rfl, rfl⟩
            refine O.e rfl rfl rfl (Ef.build B3C ([(bk3 b a b)] : List B3) rfl Try.underlying28 inf67 rfl rfl rfl (by first | decide | (simp; done)) (by kernel_rfl)) ?_
            rintro _ _ ⟨A7, hA7, rfl, rfl⟩
            refine O.e rfl rfl rfl (Ef.append (xs := out) (ys := ([(bk3 b a b)] : List B3)) 2 rfl Try.underlying28 inf67 rfl rfl rfl rfl rfl rfl hA7 (Ld.own 0 (by exact rfl)) (by simp only [List.length_append, List.length_cons, List.length_nil] at *; omega) (by decide)) ?_
            rintro _ _ ⟨A8, k4, rfl, rfl, hA8⟩
            replace hA8 := hA8 (.inr (by simp))
            refine O.p rfl rfl rfl (Pu.assign rfl rfl) ?_
            refine O.nil ?_
            refine X.blockNormal ?_
            refine X.next ?_
            refine V.region ?_
            refine O.p rfl rfl rfl (Pu.add64 (r := ((i + 1 : Nat) : Int)) rfl (by omega) rfl rfl rfl) ?_
            refine O.p rfl rfl rfl (Pu.move rfl rfl) ?_
            refine O.nil ?_
            exact X.back2 (A8, k4, (out ++ ([(bk3 b a b)] : List B3)), i + 1) (by (try dsimp only); exact ⟨by omega, by rw [take_snoc e1, List.map_append, ho]; refine congrArg _ (congrArg (· :: []) ?_); unfold exB sw2; (repeat' split) <;> first | (exfalso; omega) | rfl, by simp only [List.length_append, List.length_singleton]; omega⟩) (by first | omega | (dsimp only; omega)) (Ent.cons rfl (Ent.cons rfl (Ent.nil _))) (Ent.cons (t := 1) rfl (Ent.cons (t := 2) rfl (Ent.cons (t := 12) rfl (Ent.cons (t := 13) rfl (Ent.nil _))))) (Sub.keep 2 rfl (Sub.nil _))
          · skip
            refine V.seq ?_
            refine V.region ?_
            refine O.p rfl rfl rfl (Pu.move rfl rfl) ?_
            refine O.p rfl rfl rfl (Pu.eql rfl rfl rfl) ?_
            refine O.p rfl rfl rfl (Pu.assign rfl rfl) ?_
            refine O.nil ?_
            refine X.next ?_
            refine V.condD rfl (fun c8 => ?_) (fun c8 => ?_)
            · skip
              refine V.region ?_
              refine O.p rfl rfl rfl (Pu.move rfl rfl) ?_
              refine O.p rfl rfl rfl (Pu.move rfl rfl) ?_
              refine O.p rfl rfl rfl (Pu.indexArr 2 2 rfl Try.underlying67 sz2 rfl rfl (by decide) (by decide) (by decide)) ?_
              refine O.s rfl rfl (Ef.store1 (cs' := [_, _, _]) 0 rfl sz2 rfl rfl rfl rfl rfl (ltb rfl) rfl) ?_
              rintro _ _ rfl
              refine O.nil ?_
              refine X.blockNormal ?_
              refine X.blockNormal ?_
              refine X.next ?_
              refine V.region ?_
              refine O.p rfl rfl rfl (Pu.add64 (r := 3) (by decide) (by decide) rfl rfl rfl) ?_
              refine O.p rfl rfl rfl (Pu.move rfl rfl) ?_
              refine O.nil ?_
              refine X.again 0 ?_
              refine V.seq ?_
              refine V.region ?_
              refine O.p rfl rfl rfl (Pu.isF (by decide) (Pu.lss rfl rfl rfl)) ?_
              refine O.nil ?_
              refine X.next ?_
              refine V.seq ?_
              refine V.condF rfl ?_
              refine V.exit ?_
              refine X.thenExit ?_
              refine X.thenExit ?_
              refine X.blockHit ?_
              refine X.next ?_
              refine V.region ?_
              refine O.p rfl rfl rfl (Pu.move rfl rfl) ?_
              refine O.p rfl rfl rfl (Pu.indexArr 0 0 rfl Try.underlying67 sz2 rfl rfl (by decide) (by decide) (by decide)) ?_
              refine O.p rfl rfl rfl (Pu.load rfl pl2 rfl (Ld.blk 0 rfl rfl)) ?_
              refine O.p rfl rfl rfl (Pu.indexArr 1 1 rfl Try.underlying67 sz2 rfl rfl (by decide) (by decide) (by decide)) ?_
              refine O.p rfl rfl rfl (Pu.load rfl pl2 rfl (Ld.blk 0 rfl rfl)) ?_
              refine O.p rfl rfl rfl (Pu.indexArr 2 2 rfl Try.underlying67 sz2 rfl rfl (by decide) (by decide) (by decide)) ?_
              refine O.p rfl rfl rfl (Pu.load rfl pl2 rfl (Ld.blk 0 rfl rfl)) ?_
              refine O.e rfl rfl rfl (Ef.callP call131 rfl rfl (fun w hw => blockOf_ok  b a a w   )) ?_
              rintro _ _ ⟨rfl, rfl⟩
              refine O.e rfl rfl rfl (Ef.build B3C ([(bk3 b a a)] : List B3) rfl Try.underlying28 inf67 rfl rfl rfl (by first | decide | (simp; done)) (by kernel_rfl)) ?_
              rintro _ _ ⟨A9, hA9, rfl, rfl⟩
              refine O.e rfl rfl rfl (Ef.append (xs := out) (ys := ([(bk3 b a a)] : List B3)) 2 rfl Try.underlying28 inf67 rfl rfl rfl rfl rfl rfl hA9 (Ld.own 0 (by exact rfl)) (by simp only [List.length_append, List.length_cons, List.length_nil] at *; omega) (by decide)) ?_
              rintro _ _ ⟨A10, k5, rfl, rfl, hA10⟩
              replace hA10 := hA10 (.inr (by simp))
              refine O.p rfl rfl rfl (Pu.assign rfl rfl) ?_
              refine O.nil ?_
              refine X.blockNormal ?_
              refine X.next ?_
              refine V.region ?_
              refine O.p rfl rfl rfl (Pu.add64 (r := ((i + 1 : Nat) : Int)) rfl (by omega) rfl rfl rfl) ?_
              refine O.p rfl rfl rfl (Pu.move rfl rfl) ?_
              refine O.nil ?_
              exact X.back2 (A10, k5, (out ++ ([(bk3 b a a)] : List B3)), i + 1) (by (try dsimp only); exact ⟨by omega, by rw [take_snoc e1, List.map_append, ho]; refine congrArg _ (congrArg (· :: []) ?_); unfold exB sw2; (repeat' split) <;> first | (exfalso; omega) | rfl, by simp only [List.length_append, List.length_singleton]; omega⟩) (by first | omega | (dsimp only; omega)) (Ent.cons rfl (Ent.cons rfl (Ent.nil _))) (Ent.cons (t := 1) rfl (Ent.cons (t := 2) rfl (Ent.cons (t := 12) rfl (Ent.cons (t := 13) rfl (Ent.nil _))))) (Sub.keep 2 rfl (Sub.nil _))
            · skip
              refine V.skip ?_
              refine X.blockNormal ?_
              refine X.blockNormal ?_
              refine X.next ?_
              refine V.region ?_
              refine O.p rfl rfl rfl (Pu.add64 (r := 3) (by decide) (by decide) rfl rfl rfl) ?_
              refine O.p rfl rfl rfl (Pu.move rfl rfl) ?_
              refine O.nil ?_
              refine X.again 0 ?_
              refine V.seq ?_
              refine V.region ?_
              refine O.p rfl rfl rfl (Pu.isF (by decide) (Pu.lss rfl rfl rfl)) ?_
              refine O.nil ?_
              refine X.next ?_
              refine V.seq ?_
              refine V.condF rfl ?_
              refine V.exit ?_
              refine X.thenExit ?_
              refine X.thenExit ?_
              refine X.blockHit ?_
              refine X.next ?_
              refine V.region ?_
              refine O.p rfl rfl rfl (Pu.move rfl rfl) ?_
              refine O.p rfl rfl rfl (Pu.indexArr 0 0 rfl Try.underlying67 sz2 rfl rfl (by decide) (by decide) (by decide)) ?_
              refine O.p rfl rfl rfl (Pu.load rfl pl2 rfl (Ld.blk 0 rfl rfl)) ?_
              refine O.p rfl rfl rfl (Pu.indexArr 1 1 rfl Try.underlying67 sz2 rfl rfl (by decide) (by decide) (by decide)) ?_
              refine O.p rfl rfl rfl (Pu.load rfl pl2 rfl (Ld.blk 0 rfl rfl)) ?_
              refine O.p rfl rfl rfl (Pu.indexArr 2 2 rfl Try.underlying67 sz2 rfl rfl (by decide) (by decide) (by decide)) ?_
              refine O.p rfl rfl rfl (Pu.load rfl pl2 rfl (Ld.blk 0 rfl rfl)) ?_
              refine O.e rfl rfl rfl (Ef.callP call131 rfl rfl (fun w hw => blockOf_ok  b a ((blocks[i]'e1).2.2) w   )) ?_
              rintro _ _ ⟨rfl, rfl⟩
              refine O.e rfl rfl rfl (Ef.build B3C ([(bk3 b a ((blocks[i]'e1).2.2))] : List B3) rfl Try.underlying28 inf67 rfl rfl rfl (by first | decide | (simp; done)) (by kernel_rfl)) ?_
              rintro _ _ ⟨A11, hA11, rfl, rfl⟩
              refine O.e rfl rfl rfl (Ef.append (xs := out) (ys := ([(bk3 b a ((blocks[i]'e1).2.2))] : List B3)) 2 rfl Try.underlying28 inf67 rfl rfl rfl rfl rfl rfl hA11 (Ld.own 0 (by exact rfl)) (by simp only [List.length_append, List.length_cons, List.length_nil] at *; omega) (by decide)) ?_
              rintro _ _ ⟨A12, k6, rfl, rfl, hA12⟩
              replace hA12 := hA12 (.inr (by simp))
              refine O.p rfl rfl rfl (Pu.assign rfl rfl) ?_
              refine O.nil ?_
              refine X.blockNormal ?_
              refine X.next ?_
              refine V.region ?_
              refine O.p rfl rfl rfl (Pu.add64 (r := ((i + 1 : Nat) : Int)) rfl (by omega) rfl rfl rfl) ?_
              refine O.p rfl rfl rfl (Pu.move rfl rfl) ?_
              refine O.nil ?_
              exact X.back2 (A12, k6, (out ++ ([(bk3 b a ((blocks[i]'e1).2.2))] : List B3)), i + 1) (by (try dsimp only); exact ⟨by omega, by rw [take_snoc e1, List.map_append, ho]; refine congrArg _ (congrArg (· :: []) ?_); unfold exB sw2; (repeat' split) <;> first | (exfalso; omega) | rfl, by simp only [List.length_append, List.length_singleton]; omega⟩) (by first | omega | (dsimp only; omega)) (Ent.cons rfl (Ent.cons rfl (Ent.nil _))) (Ent.cons (t := 1) rfl (Ent.cons (t := 2) rfl (Ent.cons (t := 12) rfl (Ent.cons (t := 13) rfl (Ent.nil _))))) (Sub.keep 2 rfl (Sub.nil _))
        · skip
          refine V.skip ?_
          refine X.blockNormal ?_
          refine X.blockNormal ?_
          refine X.next ?_
          refine V.region ?_
          refine O.p rfl rfl rfl (Pu.add64 (r := 2) (by decide) (by decide) rfl rfl rfl) ?_
          refine O.p rfl rfl rfl (Pu.move rfl rfl) ?_
          refine O.nil ?_
          refine X.again 1 ?_
          refine V.seq ?_
          refine V.region ?_
          refine O.p rfl rfl rfl (Pu.isT (by decide) (Pu.lss rfl rfl rfl)) ?_
          refine O.nil ?_
          refine X.next ?_
          refine V.seq ?_
          refine V.condT rfl ?_
          refine V.skip ?_
          refine X.next ?_
          refine V.seq ?_
          refine V.block ?_
          refine V.seq ?_
          refine V.region ?_
          refine O.p rfl rfl rfl (Pu.move rfl rfl) ?_
          refine O.p rfl rfl rfl (Pu.indexAgg 2 rfl Try.underlying67 sz2 pl2 rfl rfl (by decide) (by decide) rfl) ?_
          refine O.p rfl rfl rfl (Pu.assign rfl rfl) ?_
          refine O.p rfl rfl rfl (Pu.assign rfl rfl) ?_
          refine O.nil ?_
          refine X.next ?_
          refine V.seq ?_
          refine V.region ?_
          refine O.p rfl rfl rfl (Pu.move rfl rfl) ?_
          refine O.nil ?_
          refine X.next ?_
          refine V.block ?_
          refine V.seq ?_
          refine V.region ?_
          refine O.p rfl rfl rfl (Pu.move rfl rfl) ?_
          refine O.p rfl rfl rfl (Pu.eql rfl rfl rfl) ?_
          refine O.p rfl rfl rfl (Pu.assign rfl rfl) ?_
          refine O.nil ?_
          refine X.next ?_
          refine V.condD rfl (fun c9 => ?_) (fun c9 => ?_)
          · skip
            refine V.region ?_
            refine O.p rfl rfl rfl (Pu.move rfl rfl) ?_
            refine O.p rfl rfl rfl (Pu.move rfl rfl) ?_
            refine O.p rfl rfl rfl (Pu.indexArr 2 2 rfl Try.underlying67 sz2 rfl rfl (by decide) (by decide) (by decide)) ?_
            refine O.s rfl rfl (Ef.store1 (cs' := [_, _, _]) 0 rfl sz2 rfl rfl rfl rfl rfl (ltb rfl) rfl) ?_
            rintro _ _ rfl
            refine O.nil ?_
            refine X.blockNormal ?_
            refine X.blockNormal ?_
            refine X.next ?_
            refine V.region ?_
            refine O.p rfl rfl rfl (Pu.add64 (r := 3) (by decide) (by decide) rfl rfl rfl) ?_
            refine O.p rfl rfl rfl (Pu.move rfl rfl) ?_
            refine O.nil ?_
            refine X.again 0 ?_
            refine V.seq ?_
            refine V.region ?_
            refine O.p rfl rfl rfl (Pu.isF (by decide) (Pu.lss rfl rfl rfl)) ?_
            refine O.nil ?_
            refine X.next ?_
            refine V.seq ?_
            refine V.condF rfl ?_
            refine V.exit ?_
            refine X.thenExit ?_
            refine X.thenExit ?_
            refine X.blockHit ?_
            refine X.next ?_
            refine V.region ?_
            refine O.p rfl rfl rfl (Pu.move rfl rfl) ?_
            refine O.p rfl rfl rfl (Pu.indexArr 0 0 rfl Try.underlying67 sz2 rfl rfl (by decide) (by decide) (by decide)) ?_
            refine O.p rfl rfl rfl (Pu.load rfl pl2 rfl (Ld.blk 0 rfl rfl)) ?_
            refine O.p rfl rfl rfl (Pu.indexArr 1 1 rfl Try.underlying67 sz2 rfl rfl (by decide) (by decide) (by decide)) ?_
            refine O.p rfl rfl rfl (Pu.load rfl pl2 rfl (Ld.blk 0 rfl rfl)) ?_
            refine O.p rfl rfl rfl (Pu.indexArr 2 2 rfl Try.underlying67 sz2 rfl rfl (by decide) (by decide) (by decide)) ?_
            refine O.p rfl rfl rfl (Pu.load rfl pl2 rfl (Ld.blk 0 rfl rfl)) ?_
            refine O.e rfl rfl rfl (Ef.callP call131 rfl rfl (fun w hw => blockOf_ok  b ((blocks[i]'e1).2.1) b w   )) ?_
            rintro _ _ ⟨rfl, rfl⟩
            refine O.e rfl rfl rfl (Ef.build B3C ([(bk3 b ((blocks[i]'e1).2.1) b)] : List B3) rfl Try.underlying28 inf67 rfl rfl rfl (by first | decide | (simp; done)) (by kernel_rfl)) ?_
            rintro _ _ ⟨A13, hA13, rfl, rfl⟩
            refine O.e rfl rfl rfl (Ef.append (xs := out) (ys := ([(bk3 b ((blocks[i]'e1).2.1) b)] : List B3)) 2 rfl Try.underlying28 inf67 rfl rfl rfl rfl rfl rfl hA13 (Ld.own 0 (by exact rfl)) (by simp only [List.length_append, List.length_cons, List.length_nil] at *; omega) (by decide)) ?_
            rintro _ _ ⟨A14, k7, rfl, rfl, hA14⟩
            replace hA14 := hA14 (.inr (by simp))
            refine O.p rfl rfl rfl (Pu.assign rfl rfl) ?_
            refine O.nil ?_
            refine X.blockNormal ?_
            refine X.next ?_
            refine V.region ?_
            refine O.p rfl rfl rfl (Pu.add64 (r := ((i + 1 : Nat) : Int)) rfl (by omega) rfl rfl rfl) ?_
            refine O.p rfl rfl rfl (Pu.move rfl rfl) ?_
            refine O.nil ?_
            exact X.back2 (A14, k7, (out ++ ([(bk3 b ((blocks[i]'e1).2.1) b)] : List B3)), i + 1) (by (try dsimp only); exact ⟨by omega, by rw [take_snoc e1, List.map_append, ho]; refine congrArg _ (congrArg (· :: []) ?_); unfold exB sw2; (repeat' split) <;> first | (exfalso; omega) | rfl, by simp only [List.length_append, List.length_singleton]; omega⟩) (by first | omega | (dsimp only; omega)) (Ent.cons rfl (Ent.cons rfl (Ent.nil _))) (Ent.cons (t := 1) rfl (Ent.cons (t := 2) rfl (Ent.cons (t := 12) rfl (Ent.cons (t := 13) rfl (Ent.nil _))))) (Sub.keep 2 rfl (Sub.nil _))
          · skip
            refine V.seq ?_
            refine V.region ?_
            refine O.p rfl rfl rfl (Pu.move rfl rfl) ?_
            refine O.p rfl rfl rfl (Pu.eql rfl rfl rfl) ?_
            refine O.p rfl rfl rfl (Pu.assign rfl rfl) ?_
            refine O.nil ?_
            refine X.next ?_
            refine V.condD rfl (fun c10 => ?_) (fun c10 => ?_)
            · skip
              refine V.region ?_
              refine O.p rfl rfl rfl (Pu.move rfl rfl) ?_
              refine O.p rfl rfl rfl (Pu.move rfl rfl) ?_
              refine O.p rfl rfl rfl (Pu.indexArr 2 2 rfl Try.underlying67 sz2 rfl rfl (by decide) (by decide) (by decide)) ?_
              refine O.s rfl rfl (Ef.store1 (cs' := [_, _, _]) 0 rfl sz2 rfl rfl rfl rfl rfl (ltb rfl) rfl) ?_
              rintro _ _ rfl
              refine O.nil ?_
              refine X.blockNormal ?_
              refine X.blockNormal ?_
              refine X.next ?_
              refine V.region ?_
              refine O.p rfl rfl rfl (Pu.add64 (r := 3) (by decide) (by decide) rfl rfl rfl) ?_
              refine O.p rfl rfl rfl (Pu.move rfl rfl) ?_
              refine O.nil ?_
              refine X.again 0 ?_
              refine V.seq ?_
              refine V.region ?_
              refine O.p rfl rfl rfl (Pu.isF (by decide) (Pu.lss rfl rfl rfl)) ?_
              refine O.nil ?_
              refine X.next ?_
              refine V.seq ?_
              refine V.condF rfl ?_
              refine V.exit ?_
              refine X.thenExit ?_
              refine X.thenExit ?_
              refine X.blockHit ?_
              refine X.next ?_
              refine V.region ?_
              refine O.p rfl rfl rfl (Pu.move rfl rfl) ?_
              refine O.p rfl rfl rfl (Pu.indexArr 0 0 rfl Try.underlying67 sz2 rfl rfl (by decide) (by decide) (by decide)) ?_
              refine O.p rfl rfl rfl (Pu.load rfl pl2 rfl (Ld.blk 0 rfl rfl)) ?_
              refine O.p rfl rfl rfl (Pu.indexArr 1 1 rfl Try.underlying67 sz2 rfl rfl (by decide) (by decide) (by decide)) ?_
              refine O.p rfl rfl rfl (Pu.load rfl pl2 rfl (Ld.blk 0 rfl rfl)) ?_
              refine O.p rfl rfl rfl (Pu.indexArr 2 2 rfl Try.underlying67 sz2 rfl rfl (by decide) (by decide) (by decide)) ?_
              refine O.p rfl rfl rfl (Pu.load rfl pl2 rfl (Ld.blk 0 rfl rfl)) ?_
              refine O.e rfl rfl rfl (Ef.callP call131 rfl rfl (fun w hw => blockOf_ok  b ((blocks[i]'e1).2.1) a w   )) ?_
              rintro _ _ ⟨rfl, rfl⟩
              refine O.e rfl rfl rfl (Ef.build B3C ([(bk3 b ((blocks[i]'e1).2.1) a)] : List B3) rfl Try.underlying28 inf67 rfl rfl rfl (by first | decide | (simp; done)) (by kernel_rfl)) ?_
              rintro _ _ ⟨A15, hA15, rfl, rfl⟩
              refine O.e rfl rfl rfl (Ef.append (xs := out) (ys := ([(bk3 b ((blocks[i]'e1).2.1) a)] : List B3)) 2 rfl Try.underlying28 inf67 rfl rfl rfl rfl rfl rfl hA15 (Ld.own 0 (by exact rfl)) (by simp only [List.length_append, List.length_cons, List.length_nil] at *; omega) (by decide)) ?_
              rintro _ _ ⟨A16, k8, rfl, rfl, hA16⟩
              replace hA16 := hA16 (.inr (by simp))
              refine O.p rfl rfl rfl (Pu.assign rfl rfl) ?_
              refine O.nil ?_
              refine X.blockNormal ?_
              refine X.next ?_
              refine V.region ?_
              refine O.p rfl rfl rfl (Pu.add64 (r := ((i + 1 : Nat) : Int)) rfl (by omega) rfl rfl rfl) ?_
              refine O.p rfl rfl rfl (Pu.move rfl rfl) ?_
              refine O.nil ?_
              exact X.back2 (A16, k8, (out ++ ([(bk3 b ((blocks[i]'e1).2.1) a)] : List B3)), i + 1) (by (try dsimp only); exact ⟨by omega, by rw [take_snoc e1, List.map_append, ho]; refine congrArg _ (congrArg (· :: []) ?_); unfold exB sw2; (repeat' split) <;> first | (exfalso; omega) | rfl, by simp only [List.length_append, List.length_singleton]; omega⟩) (by first | omega | (dsimp only; omega)) (Ent.cons rfl (Ent.cons rfl (Ent.nil _))) (Ent.cons (t := 1) rfl (Ent.cons (t := 2) rfl (Ent.cons (t := 12) rfl (Ent.cons (t := 13) rfl (Ent.nil _))))) (Sub.keep 2 rfl (Sub.nil _))
            · skip
              refine V.skip ?_
              refine X.blockNormal ?_
              refine X.blockNormal ?_
              refine X.next ?_
              refine V.region ?_
              refine O.p rfl rfl rfl (Pu.add64 (r := 3) (by decide) (by decide) rfl rfl rfl) ?_
              refine O.p rfl rfl rfl (Pu.move rfl rfl) ?_
              refine O.nil ?_
              refine X.again 0 ?_
              refine V.seq ?_
              refine V.region ?_
              refine O.p rfl rfl rfl (Pu.isF (by decide) (Pu.lss rfl rfl rfl)) ?_
              refine O.nil ?_
              refine X.next ?_
              refine V.seq ?_
              refine V.condF rfl ?_
              refine V.exit ?_
              refine X.thenExit ?_
              refine X.thenExit ?_
              refine X.blockHit ?_
              refine X.next ?_
              refine V.region ?_
              refine O.p rfl rfl rfl (Pu.move rfl rfl) ?_
              refine O.p rfl rfl rfl (Pu.indexArr 0 0 rfl Try.underlying67 sz2 rfl rfl (by decide) (by decide) (by decide)) ?_
              refine O.p rfl rfl rfl (Pu.load rfl pl2 rfl (Ld.blk 0 rfl rfl)) ?_
              refine O.p rfl rfl rfl (Pu.indexArr 1 1 rfl Try.underlying67 sz2 rfl rfl (by decide) (by decide) (by decide)) ?_
              refine O.p rfl rfl rfl (Pu.load rfl pl2 rfl (Ld.blk 0 rfl rfl)) ?_
              refine O.p rfl rfl rfl (Pu.indexArr 2 2 rfl Try.underlying67 sz2 rfl rfl (by decide) (by decide) (by decide)) ?_
              refine O.p rfl rfl rfl (Pu.load rfl pl2 rfl (Ld.blk 0 rfl rfl)) ?_
              refine O.e rfl rfl rfl (Ef.callP call131 rfl rfl (fun w hw => blockOf_ok  b ((blocks[i]'e1).2.1) ((blocks[i]'e1).2.2) w   )) ?_
              rintro _ _ ⟨rfl, rfl⟩
              refine O.e rfl rfl rfl (Ef.build B3C ([(bk3 b ((blocks[i]'e1).2.1) ((blocks[i]'e1).2.2))] : List B3) rfl Try.underlying28 inf67 rfl rfl rfl (by first | decide | (simp; done)) (by kernel_rfl)) ?_
              rintro _ _ ⟨A17, hA17, rfl, rfl⟩
              refine O.e rfl rfl rfl (Ef.append (xs := out) (ys := ([(bk3 b ((blocks[i]'e1).2.1) ((blocks[i]'e1).2.2))] : List B3)) 2 rfl Try.underlying28 inf67 rfl rfl rfl rfl rfl rfl hA17 (Ld.own 0 (by exact rfl)) (by simp only [List.length_append, List.length_cons, List.length_nil] at *; omega) (by decide)) ?_
              rintro _ _ ⟨A18, k9, rfl, rfl, hA18⟩
              replace hA18 := hA18 (.inr (by simp))
              refine O.p rfl rfl rfl (Pu.assign rfl rfl) ?_
              refine O.nil ?_
              refine X.blockNormal ?_
              refine X.next ?_
              refine V.region ?_
              refine O.p rfl rfl rfl (Pu.add64 (r := ((i + 1 : Nat) : Int)) rfl (by omega) rfl rfl rfl) ?_
              refine O.p rfl rfl rfl (Pu.move rfl rfl) ?_
              refine O.nil ?_
              exact X.back2 (A18, k9, (out ++ ([(bk3 b ((blocks[i]'e1).2.1) ((blocks[i]'e1).2.2))] : List B3)), i + 1) (by (try dsimp only); exact ⟨by omega, by rw [take_snoc e1, List.map_append, ho]; refine congrArg _ (congrArg (· :: []) ?_); unfold exB sw2; (repeat' split) <;> first | (exfalso; omega) | rfl, by simp only [List.length_append, List.length_singleton]; omega⟩) (by first | omega | (dsimp only; omega)) (Ent.cons rfl (Ent.cons rfl (Ent.nil _))) (Ent.cons (t := 1) rfl (Ent.cons (t := 2) rfl (Ent.cons (t := 12) rfl (Ent.cons (t := 13) rfl (Ent.nil _))))) (Sub.keep 2 rfl (Sub.nil _))
    · skip
      refine V.seq ?_
      refine V.region ?_
      refine O.p rfl rfl rfl (Pu.move rfl rfl) ?_
      refine O.p rfl rfl rfl (Pu.eql rfl rfl rfl) ?_
      refine O.p rfl rfl rfl (Pu.assign rfl rfl) ?_
      refine O.nil ?_
      refine X.next ?_
      refine V.condD rfl (fun c11 => ?_) (fun c11 => ?_)
      · skip
        refine V.region ?_
        refine O.p rfl rfl rfl (Pu.move rfl rfl) ?_
        refine O.p rfl rfl rfl (Pu.move rfl rfl) ?_
        refine O.p rfl rfl rfl (Pu.indexArr 0 0 rfl Try.underlying67 sz2 rfl rfl (by decide) (by decide) (by decide)) ?_
        refine O.s rfl rfl (Ef.store1 (cs' := [_, _, _]) 0 rfl sz2 rfl rfl rfl rfl rfl (ltb rfl) rfl) ?_
        rintro _ _ rfl
        refine O.nil ?_
        refine X.blockNormal ?_
        refine X.blockNormal ?_
        refine X.next ?_
        refine V.region ?_
        refine O.p rfl rfl rfl (Pu.add64 (r := 1) (by decide) (by decide) rfl rfl rfl) ?_
        refine O.p rfl rfl rfl (Pu.move rfl rfl) ?_
        refine O.nil ?_
        refine X.again 2 ?_
        refine V.seq ?_
        refine V.region ?_
        refine O.p rfl rfl rfl (Pu.isT (by decide) (Pu.lss rfl rfl rfl)) ?_
        refine O.nil ?_
        refine X.next ?_
        refine V.seq ?_
        refine V.condT rfl ?_
        refine V.skip ?_
        refine X.next ?_
        refine V.seq ?_
        refine V.block ?_
        refine V.seq ?_
        refine V.region ?_
        refine O.p rfl rfl rfl (Pu.move rfl rfl) ?_
        refine O.p rfl rfl rfl (Pu.indexAgg 1 rfl Try.underlying67 sz2 pl2 rfl rfl (by decide) (by decide) rfl) ?_
        refine O.p rfl rfl rfl (Pu.assign rfl rfl) ?_
        refine O.p rfl rfl rfl (Pu.assign rfl rfl) ?_
        refine O.nil ?_
        refine X.next ?_
        refine V.seq ?_
        refine V.region ?_
        refine O.p rfl rfl rfl (Pu.move rfl rfl) ?_
        refine O.nil ?_
        refine X.next ?_
        refine V.block ?_
        refine V.seq ?_
        refine V.region ?_
        refine O.p rfl rfl rfl (Pu.move rfl rfl) ?_
        refine O.p rfl rfl rfl (Pu.eql rfl rfl rfl) ?_
        refine O.p rfl rfl rfl (Pu.assign rfl rfl) ?_
        refine O.nil ?_
        refine X.next ?_
        refine V.condD rfl (fun c12 => ?_) (fun c12 => ?_)
        · skip
          refine V.region ?_
          refine O.p rfl rfl rfl (Pu.move rfl rfl) ?_
          refine O.p rfl rfl rfl (Pu.move rfl rfl) ?_
          refine O.p rfl rfl rfl (Pu.indexArr 1 1 rfl Try.underlying67 sz2 rfl rfl (by decide) (by decide) (by decide)) ?_
          refine O.s rfl rfl (Ef.store1 (cs' := [_, _, _]) 0 rfl sz2 rfl rfl rfl rfl rfl (ltb rfl) rfl) ?_
          rintro _ _ rfl
          refine O.nil ?_
          refine X.blockNormal ?_
          refine X.blockNormal ?_
          refine X.next ?_
          refine V.region ?_
          refine O.p rfl rfl rfl (Pu.add64 (r := 2) (by decide) (by decide) rfl rfl rfl) ?_
          refine O.p rfl rfl rfl (Pu.move rfl rfl) ?_
          refine O.nil ?_
          refine X.again 1 ?_
          refine V.seq ?_
          refine V.region ?_
          refine O.p rfl rfl rfl (Pu.isT (by decide) (Pu.lss rfl rfl rfl)) ?_
          refine O.nil ?_
          refine X.next ?_
          refine V.seq ?_
          refine V.condT rfl ?_
          refine V.skip ?_
          refine X.next ?_
          refine V.seq ?_
          refine V.block ?_
          refine V.seq ?_
          refine V.region ?_
          refine O.p rfl rfl rfl (Pu.move rfl rfl) ?_
          refine O.p rfl rfl rfl (Pu.indexAgg 2 rfl Try.underlying67 sz2 pl2 rfl rfl (by decide) (by decide) rfl) ?_
          refine O.p rfl rfl rfl (Pu.assign rfl rfl) ?_
          refine O.p rfl rfl rfl (Pu.assign rfl rfl) ?_
          refine O.nil ?_
          refine X.next ?_
          refine V.seq ?_
          refine V.region ?_
          refine O.p rfl rfl rfl (Pu.move rfl rfl) ?_
          refine O.nil ?_
          refine X.next ?_
          refine V.block ?_
          refine V.seq ?_
          refine V.region ?_
          refine O.p rfl rfl rfl (Pu.move rfl rfl) ?_
          refine O.p rfl rfl rfl (Pu.eql rfl rfl rfl) ?_
          refine O.p rfl rfl rfl (Pu.assign rfl rfl) ?_
          refine O.nil ?_
          refine X.next ?_
          refine V.condD rfl (fun c13 => ?_) (fun c13 => ?_)
          · skip
            refine V.region ?_
            refine O.p rfl rfl rfl (Pu.move rfl rfl) ?_
            refine O.p rfl rfl rfl (Pu.move rfl rfl) ?_
            refine O.p rfl rfl rfl (Pu.indexArr 2 2 rfl Try.underlying67 sz2 rfl rfl (by decide) (by decide) (by decide)) ?_
            refine O.s rfl rfl (Ef.store1 (cs' := [_, _, _]) 0 rfl sz2 rfl rfl rfl rfl rfl (ltb rfl) rfl) ?_
            rintro _ _ rfl
            refine O.nil ?_
            refine X.blockNormal ?_
            refine X.blockNormal ?_
            refine X.next ?_
            refine V.region ?_
            refine O.p rfl rfl rfl (Pu.add64 (r := 3) (by decide) (by decide) rfl rfl rfl) ?_
            refine O.p rfl rfl rfl (Pu.move rfl rfl) ?_
            refine O.nil ?_
            refine X.again 0 ?_
            refine V.seq ?_
            refine V.region ?_
            refine O.p rfl rfl rfl (Pu.isF (by decide) (Pu.lss rfl rfl rfl)) ?_
            refine O.nil ?_
            refine X.next ?_
            refine V.seq ?_
            refine V.condF rfl ?_
            refine V.exit ?_
            refine X.thenExit ?_
            refine X.thenExit ?_
            refine X.blockHit ?_
            refine X.next ?_
            refine V.region ?_
            refine O.p rfl rfl rfl (Pu.move rfl rfl) ?_
            refine O.p rfl rfl rfl (Pu.indexArr 0 0 rfl Try.underlying67 sz2 rfl rfl (by decide) (by decide) (by decide)) ?_
            refine O.p rfl rfl rfl (Pu.load rfl pl2 rfl (Ld.blk 0 rfl rfl)) ?_
            refine O.p rfl rfl rfl (Pu.indexArr 1 1 rfl Try.underlying67 sz2 rfl rfl (by decide) (by decide) (by decide)) ?_
            refine O.p rfl rfl rfl (Pu.load rfl pl2 rfl (Ld.blk 0 rfl rfl)) ?_
            refine O.p rfl rfl rfl (Pu.indexArr 2 2 rfl Try.underlying67 sz2 rfl rfl (by decide) (by decide) (by decide)) ?_
            refine O.p rfl rfl rfl (Pu.load rfl pl2 rfl (Ld.blk 0 rfl rfl)) ?_
            refine O.e rfl rfl rfl (Ef.callP call131 rfl rfl (fun w hw => blockOf_ok  a b b w   )) ?_
            rintro _ _ ⟨rfl, rfl⟩
            refine O.e rfl rfl rfl (Ef.build B3C ([(bk3 a b b)] : List B3) rfl Try.underlying28 inf67 rfl rfl rfl (by first | decide | (simp; done)) (by kernel_rfl)) ?_
            rintro _ _ ⟨A19, hA19, rfl, rfl⟩
            refine O.e rfl rfl rfl (Ef.append (xs := out) (ys := ([(bk3 a b b)] : List B3)) 2 rfl Try.underlying28 inf67 rfl rfl rfl rfl rfl rfl hA19 (Ld.own 0 (by exact rfl)) (by simp only [List.length_append, List.length_cons, List.length_nil] at *; omega) (by decide)) ?_
            rintro _ _ ⟨A20, k10, rfl, rfl, hA20⟩
            replace hA20 := hA20 (.inr (by simp))
            refine O.p rfl rfl rfl (Pu.assign rfl rfl) ?_
            refine O.nil ?_
            refine X.blockNormal ?_
            refine X.next ?_
            refine V.region ?_
            refine O.p rfl rfl rfl (Pu.add64 (r := ((i + 1 : Nat) : Int)) rfl (by omega) rfl rfl rfl) ?_
            refine O.p rfl rfl rfl (Pu.move rfl rfl) ?_
            refine O.nil ?_
            exact X.back2 (A20, k10, (out ++ ([(bk3 a b b)] : List B3)), i + 1) (by (try dsimp only); exact ⟨by omega, by rw [take_snoc e1, List.map_append, ho]; refine congrArg _ (congrArg (· :: []) ?_); unfold exB sw2; (repeat' split) <;> first | (exfalso; omega) | rfl, by simp only [List.length_append, List.length_singleton]; omega⟩) (by first | omega | (dsimp only; omega)) (Ent.cons rfl (Ent.cons rfl (Ent.nil _))) (Ent.cons (t := 1) rfl (Ent.cons (t := 2) rfl (Ent.cons (t := 12) rfl (Ent.cons (t := 13) rfl (Ent.nil _))))) (Sub.keep 2 rfl (Sub.nil _))
          · skip
            refine V.seq ?_
            refine V.region ?_
            refine O.p rfl rfl rfl (Pu.move rfl rfl) ?_
            refine O.p rfl rfl rfl (Pu.eql rfl rfl rfl) ?_
            refine O.p rfl rfl rfl (Pu.assign rfl rfl) ?_
            refine O.nil ?_
            refine X.next ?_
            refine V.condD rfl (fun c14 => ?_) (fun c14 => ?_)
            · skip
              refine V.region ?_
              refine O.p rfl rfl rfl (Pu.move rfl rfl) ?_
              refine O.p rfl rfl rfl (Pu.move rfl rfl) ?_
              refine O.p rfl rfl rfl (Pu.indexArr 2 2 rfl Try.underlying67 sz2 rfl rfl (by decide) (by decide) (by decide)) ?_
              refine O.s rfl rfl (Ef.store1 (cs' := [_, _, _]) 0 rfl sz2 rfl rfl rfl rfl rfl (ltb rfl) rfl) ?_
              rintro _ _ rfl
              refine O.nil ?_
              refine X.blockNormal ?_
              refine X.blockNormal ?_
              refine X.next ?_
              refine V.region ?_
              refine O.p rfl rfl rfl (Pu.add64 (r := 3) (by decide) (by decide) rfl rfl rfl) ?_
              refine O.p rfl rfl rfl (Pu.move rfl rfl) ?_
              refine O.nil ?_
              refine X.again 0 ?_
              refine V.seq ?_
              refine V.region ?_
              refine O.p rfl rfl rfl (Pu.isF (by decide) (Pu.lss rfl rfl rfl)) ?_
              refine O.nil ?_
              refine X.next ?_
              refine V.seq ?_
              refine V.condF rfl ?_
              refine V.exit ?_
              refine X.thenExit ?_
              refine X.thenExit ?_
              refine X.blockHit ?_
              refine X.next ?_
              refine V.region ?_
              refine O.p rfl rfl rfl (Pu.move rfl rfl) ?_
              refine O.p rfl rfl rfl (Pu.indexArr 0 0 rfl Try.underlying67 sz2 rfl rfl (by decide) (by decide) (by decide)) ?_
              refine O.p rfl rfl rfl (Pu.load rfl pl2 rfl (Ld.blk 0 rfl rfl)) ?_
              refine O.p rfl rfl rfl (Pu.indexArr 1 1 rfl Try.underlying67 sz2 rfl rfl (by decide) (by decide) (by decide)) ?_
              refine O.p rfl rfl rfl (Pu.load rfl pl2 rfl (Ld.blk 0 rfl rfl)) ?_
              refine O.p rfl rfl rfl (Pu.indexArr 2 2 rfl Try.underlying67 sz2 rfl rfl (by decide) (by decide) (by decide)) ?_
              refine O.p rfl rfl rfl (Pu.load rfl pl2 rfl (Ld.blk 0 rfl rfl)) ?_
              refine O.e rfl rfl rfl (Ef.callP call131 rfl rfl (fun w hw => blockOf_ok  a b a w   )) ?_
              rintro _ _ ⟨rfl, rfl⟩
              refine O.e rfl rfl rfl (Ef.build B3C ([(bk3 a b a)] : List B3) rfl Try.underlying28 inf67 rfl rfl rfl (by first | decide | (simp; done)) (by kernel_rfl)) ?_
              rintro _ _ ⟨A21, hA21, rfl, rfl⟩
              refine O.e rfl rfl rfl (Ef.append (xs := out) (ys := ([(bk3 a b a)] : List B3)) 2 rfl Try.underlying28 inf67 rfl rfl rfl rfl rfl rfl hA21 (Ld.own 0 (by exact rfl)) (by simp only [List.length_append, List.length_cons, List.length_nil] at *; omega) (by decide)) ?_
              rintro _ _ ⟨A22, k11, rfl, rfl, hA22⟩
              replace hA22 := hA22 (.inr (by simp))
              refine O.p rfl rfl rfl (Pu.assign rfl rfl) ?_
              refine O.nil ?_
              refine X.blockNormal ?_
              refine X.next ?_
              refine V.region ?_
              refine O.p rfl rfl rfl (Pu.add64 (r := ((i + 1 : Nat) : Int)) rfl (by omega) rfl rfl rfl) ?_
              refine O.p rfl rfl rfl (Pu.move rfl rfl) ?_
              refine O.nil ?_
              exact X.back2 (A22, k11, (out ++ ([(bk3 a b a)] : List B3)), i + 1) (by (try dsimp only); exact ⟨by omega, by rw [take_snoc e1, List.map_append, ho]; refine congrArg _ (congrArg (· :: []) ?_); unfold exB sw2; (repeat' split) <;> first | (exfalso; omega) | rfl, by simp only [List.length_append, List.length_singleton]; omega⟩) (by first | omega | (dsimp only; omega)) (Ent.cons rfl (Ent.cons rfl (Ent.nil _))) (Ent.cons (t := 1) rfl (Ent.cons (t := 2) rfl (Ent.cons (t := 12) rfl (Ent.cons (t := 13) rfl (Ent.nil _))))) (Sub.keep 2 rfl (Sub.nil _))
            · skip
              refine V.skip ?_
              refine X.blockNormal ?_
              refine X.blockNormal ?_
              refine X.next ?_
              refine V.region ?_
              refine O.p rfl rfl rfl (Pu.add64 (r := 3) (by decide) (by decide) rfl rfl rfl) ?_
              refine O.p rfl rfl rfl (Pu.move rfl rfl) ?_
              refine O.nil ?_
              refine X.again 0 ?_
              refine V.seq ?_
              refine V.region ?_
              refine O.p rfl rfl rfl (Pu.isF (by decide) (Pu.lss rfl rfl rfl)) ?_
              refine O.nil ?_
              refine X.next ?_
              refine V.seq ?_
              refine V.condF rfl ?_
              refine V.exit ?_
              refine X.thenExit ?_
              refine X.thenExit ?_
              refine X.blockHit ?_
              refine X.next ?_
              refine V.region ?_
              refine O.p rfl rfl rfl (Pu.move rfl rfl) ?_
              refine O.p rfl rfl rfl (Pu.indexArr 0 0 rfl Try.underlying67 sz2 rfl rfl (by decide) (by decide) (by decide)) ?_
              refine O.p rfl rfl rfl (Pu.load rfl pl2 rfl (Ld.blk 0 rfl rfl)) ?_
              refine O.p rfl rfl rfl (Pu.indexArr 1 1 rfl Try.underlying67 sz2 rfl rfl (by decide) (by decide) (by decide)) ?_
              refine O.p rfl rfl rfl (Pu.load rfl pl2 rfl (Ld.blk 0 rfl rfl)) ?_
              refine O.p rfl rfl rfl (Pu.indexArr 2 2 rfl Try.underlying67 sz2 rfl rfl (by decide) (by decide) (by decide)) ?_
              refine O.p rfl rfl rfl (Pu.load rfl pl2 rfl (Ld.blk 0 rfl rfl)) ?_
              refine O.e rfl rfl rfl (Ef.callP call131 rfl rfl (fun w hw => blockOf_ok  a b ((blocks[i]'e1).2.2) w   )) ?_
              rintro _ _ ⟨rfl, rfl⟩
              refine O.e rfl rfl rfl (Ef.build B3C ([(bk3 a b ((blocks[i]'e1).2.2))] : List B3) rfl Try.underlying28 inf67 rfl rfl rfl (by first | decide | (simp; done)) (by kernel_rfl)) ?_
              rintro _ _ ⟨A23, hA23, rfl, rfl⟩
              refine O.e rfl rfl rfl (Ef.append (xs := out) (ys := ([(bk3 a b ((blocks[i]'e1).2.2))] : List B3)) 2 rfl Try.underlying28 inf67 rfl rfl rfl rfl rfl rfl hA23 (Ld.own 0 (by exact rfl)) (by simp only [List.length_append, List.length_cons, List.length_nil] at *; omega) (by decide)) ?_
              rintro _ _ ⟨A24, k12, rfl, rfl, hA24⟩
              replace hA24 := hA24 (.inr (by simp))
              refine O.p rfl rfl rfl (Pu.assign rfl rfl) ?_
              refine O.nil ?_
              refine X.blockNormal ?_
              refine X.next ?_
              refine V.region ?_
              refine O.p rfl rfl rfl (Pu.add64 (r := ((i + 1 : Nat) : Int)) rfl (by omega) rfl rfl rfl) ?_
              refine O.p rfl rfl rfl (Pu.move rfl rfl) ?_
              refine O.nil ?_
              exact X.back2 (A24, k12, (out ++ ([(bk3 a b ((blocks[i]'e1).2.2))] : List B3)), i + 1) (by (try dsimp only); exact ⟨by omega, by rw [take_snoc e1, List.map_append, ho]; refine congrArg _ (congrArg (· :: []) ?_); unfold exB sw2; (repeat' split) <;> first | (exfalso; omega) | rfl, by simp only [List.length_append, List.length_singleton]; omega⟩) (by first | omega | (dsimp only; omega)) (Ent.cons rfl (Ent.cons rfl (Ent.nil _))) (Ent.cons (t := 1) rfl (Ent.cons (t := 2) rfl (Ent.cons (t := 12) rfl (Ent.cons (t := 13) rfl (Ent.nil _))))) (Sub.keep 2 rfl (Sub.nil _))
        · skip
          refine V.seq ?_
          refine V.region ?_
          refine O.p rfl rfl rfl (Pu.move rfl rfl) ?_
          refine O.p rfl rfl rfl (Pu.eql rfl rfl rfl) ?_
          refine O.p rfl rfl rfl (Pu.assign rfl rfl) ?_
          refine O.nil ?_
          refine X.next ?_
          refine V.condD rfl (fun c15 => ?_) (fun c15 => ?_)
          · skip
            refine V.region ?_
            refine O.p rfl rfl rfl (Pu.move rfl rfl) ?_
            refine O.p rfl rfl rfl (Pu.move rfl rfl) ?_
            refine O.p rfl rfl rfl (Pu.indexArr 1 1 rfl Try.underlying67 sz2 rfl rfl (by decide) (by decide) (by decide)) ?_
            refine O.s rfl rfl (Ef.store1 (cs' := [_, _, _]) 0 rfl sz2 rfl rfl rfl rfl rfl (ltb rfl) rfl) ?_
            rintro _ _ rfl
            refine O.nil ?_
            refine X.blockNormal ?_
            refine X.blockNormal ?_
            refine X.next ?_
            refine V.region ?_
            refine O.p rfl rfl rfl (Pu.add64 (r := 2) (by decide) (by decide) rfl rfl rfl) ?_
            refine O.p rfl rfl rfl (Pu.move rfl rfl) ?_
            refine O.nil ?_
            refine X.again 1 ?_
            refine V.seq ?_
            refine V.region ?_
            refine O.p rfl rfl rfl (Pu.isT (by decide) (Pu.lss rfl rfl rfl)) ?_
            refine O.nil ?_
            refine X.next ?_
            refine V.seq ?_
            refine V.condT rfl ?_
            refine V.skip ?_
            refine X.next ?_
            refine V.seq ?_
            refine V.block ?_
            refine V.seq ?_
            refine V.region ?_
            refine O.p rfl rfl rfl (Pu.move rfl rfl) ?_
            refine O.p rfl rfl rfl (Pu.indexAgg 2 rfl Try.underlying67 sz2 pl2 rfl rfl (by decide) (by decide) rfl) ?_
            refine O.p rfl rfl rfl (Pu.assign rfl rfl) ?_
            refine O.p rfl rfl rfl (Pu.assign rfl rfl) ?_
            refine O.nil ?_
            refine X.next ?_
            refine V.seq ?_
            refine V.region ?_
            refine O.p rfl rfl rfl (Pu.move rfl rfl) ?_
            refine O.nil ?_
            refine X.next ?_
            refine V.block ?_
            refine V.seq ?_
            refine V.region ?_
            refine O.p rfl rfl rfl (Pu.move rfl rfl) ?_
            refine O.p rfl rfl rfl (Pu.eql rfl rfl rfl) ?_
            refine O.p rfl rfl rfl (Pu.assign rfl rfl) ?_
            refine O.nil ?_
            refine X.next ?_
            refine V.condD rfl (fun c16 => ?_) (fun c16 => ?_)
            · skip
              refine V.region ?_
              refine O.p rfl rfl rfl (Pu.move rfl rfl) ?_
              refine O.p rfl rfl rfl (Pu.move rfl rfl) ?_
              refine O.p rfl rfl rfl (Pu.indexArr 2 2 rfl Try.underlying67 sz2 rfl rfl (by decide) (by decide) (by decide)) ?_
              refine O.s rfl rfl (Ef.store1 (cs' := [_, _, _]) 0 rfl sz2 rfl rfl rfl rfl rfl (ltb rfl) rfl) ?_
              rintro _ _ rfl
              refine O.nil ?_
              refine X.blockNormal ?_
              refine X.blockNormal ?_
              refine X.next ?_
              refine V.region ?_
              refine O.p rfl rfl rfl (Pu.add64 (r := 3) (by decide) (by decide) rfl rfl rfl) ?_
              refine O.p rfl rfl rfl (Pu.move rfl rfl) ?_
              refine O.nil ?_
              refine X.again 0 ?_
              refine V.seq ?_
              refine V.region ?_
              refine O.p rfl rfl rfl (Pu.isF (by decide) (Pu.lss rfl rfl rfl)) ?_
              refine O.nil ?_
              refine X.next ?_
              refine V.seq ?_
              refine V.condF rfl ?_
              refine V.exit ?_
              refine X.thenExit ?_
              refine X.thenExit ?_
              refine X.blockHit ?_
              refine X.next ?_
              refine V.region ?_
              refine O.p rfl rfl rfl (Pu.move rfl rfl) ?_
              refine O.p rfl rfl rfl (Pu.indexArr 0 0 rfl Try.underlying67 sz2 rfl rfl (by decide) (by decide) (by decide)) ?_
              refine O.p rfl rfl rfl (Pu.load rfl pl2 rfl (Ld.blk 0 rfl rfl)) ?_
              refine O.p rfl rfl rfl (Pu.indexArr 1 1 rfl Try.underlying67 sz2 rfl rfl (by decide) (by decide) (by decide)) ?_
              refine O.p rfl rfl rfl (Pu.load rfl pl2 rfl (Ld.blk 0 rfl rfl)) ?_
              refine O.p rfl rfl rfl (Pu.indexArr 2 2 rfl Try.underlying67 sz2 rfl rfl (by decide) (by decide) (by decide)) ?_
              refine O.p rfl rfl rfl (Pu.load rfl pl2 rfl (Ld.blk 0 rfl rfl)) ?_
              refine O.e rfl rfl rfl (Ef.callP call131 rfl rfl (fun w hw => blockOf_ok  a a b w   )) ?_
              rintro _ _ ⟨rfl, rfl⟩
              refine O.e rfl rfl rfl (Ef.build B3C ([(bk3 a a b)] : List B3) rfl Try.underlying28 inf67 rfl rfl rfl (by first | decide | (simp; done)) (by kernel_rfl)) ?_
              rintro _ _ ⟨A25, hA25, rfl, rfl⟩
              refine O.e rfl rfl rfl (Ef.append (xs := out) (ys := ([(bk3 a a b)] : List B3)) 2 rfl Try.underlying28 inf67 rfl rfl rfl rfl rfl rfl hA25 (Ld.own 0 (by exact rfl)) (by simp only [List.length_append, List.length_cons, List.length_nil] at *; omega) (by decide)) ?_
              rintro _ _ ⟨A26, k13, rfl, rfl, hA26⟩
              replace hA26 := hA26 (.inr (by simp))
              refine O.p rfl rfl rfl (Pu.assign rfl rfl) ?_
              refine O.nil ?_
              refine X.blockNormal ?_
              refine X.next ?_
              refine V.region ?_
              refine O.p rfl rfl rfl (Pu.add64 (r := ((i + 1 : Nat) : Int)) rfl (by omega) rfl rfl rfl) ?_
              refine O.p rfl rfl rfl (Pu.move rfl rfl) ?_
              refine O.nil ?_
              exact X.back2 (A26, k13, (out ++ ([(bk3 a a b)] : List B3)), i + 1) (by (try dsimp only); exact ⟨by omega, by rw [take_snoc e1, List.map_append, ho]; refine congrArg _ (congrArg (· :: []) ?_); unfold exB sw2; (repeat' split) <;> first | (exfalso; omega) | rfl, by simp only [List.length_append, List.length_singleton]; omega⟩) (by first | omega | (dsimp only; omega)) (Ent.cons rfl (Ent.cons rfl (Ent.nil _))) (Ent.cons (t := 1) rfl (Ent.cons (t := 2) rfl (Ent.cons (t := 12) rfl (Ent.cons (t := 13) rfl (Ent.nil _))))) (Sub.keep 2 rfl (Sub.nil _))
            · skip
              refine V.seq ?_
              refine V.region ?_
              refine O.p rfl rfl rfl (Pu.move rfl rfl) ?_
              refine O.p rfl rfl rfl (Pu.eql rfl rfl rfl) ?_
              refine O.p rfl rfl rfl (Pu.assign rfl rfl) ?_
              refine O.nil ?_
              refine X.next ?_
              refine V.condD rfl (fun c17 => ?_) (fun c17 => ?_)
              · skip
                refine V.region ?_
                refine O.p rfl rfl rfl (Pu.move rfl rfl) ?_
                refine O.p rfl rfl rfl (Pu.move rfl rfl) ?_
                refine O.p rfl rfl rfl (Pu.indexArr 2 2 rfl Try.underlying67 sz2 rfl rfl (by decide) (by decide) (by decide)) ?_
                refine O.s rfl rfl (Ef.store1 (cs' := [_, _, _]) 0 rfl sz2 rfl rfl rfl rfl rfl (ltb rfl) rfl) ?_
                rintro _ _ rfl
                refine O.nil ?_
                refine X.blockNormal ?_
                refine X.blockNormal ?_
                refine X.next ?_
                refine V.region ?_
                refine O.p rfl rfl rfl (Pu.add64 (r := 3) (by decide) (by decide) rfl rfl rfl) ?_
                refine O.p rfl rfl rfl (Pu.move rfl rfl) ?_
                refine O.nil ?_
                refine X.again 0 ?_
                refine V.seq ?_
                refine V.region ?_
                refine O.p rfl rfl rfl (Pu.isF (by decide) (Pu.lss rfl rfl rfl)) ?_
                refine O.nil ?_
                refine X.next ?_
                refine V.seq ?_
                refine V.condF rfl ?_
                refine V.exit ?_
                refine X.thenExit ?_
                refine X.thenExit ?_
                refine X.blockHit ?_
                refine X.next ?_
                refine V.region ?_
                refine O.p rfl rfl rfl (Pu.move rfl rfl) ?_
                refine O.p rfl rfl rfl (Pu.indexArr 0 0 rfl Try.underlying67 sz2 rfl rfl (by decide) (by decide) (by decide)) ?_
                refine O.p rfl rfl rfl (Pu.load rfl pl2 rfl (Ld.blk 0 rfl rfl)) ?_
                refine O.p rfl rfl rfl (Pu.indexArr 1 1 rfl Try.underlying67 sz2 rfl rfl (by decide) (by decide) (by decide)) ?_
                refine O.p rfl rfl rfl (Pu.load rfl pl2 rfl (Ld.blk 0 rfl rfl)) ?_
                refine O.p rfl rfl rfl (Pu.indexArr 2 2 rfl Try.underlying67 sz2 rfl rfl (by decide) (by decide) (by decide)) ?_
                refine O.p rfl rfl rfl (Pu.load rfl pl2 rfl (Ld.blk 0 rfl rfl)) ?_
                refine O.e rfl rfl rfl (Ef.callP call131 rfl rfl (fun w hw => blockOf_ok  a a a w   )) ?_
                rintro _ _ ⟨rfl, rfl⟩
                refine O.e rfl rfl rfl (Ef.build B3C ([(bk3 a a a)] : List B3) rfl Try.underlying28 inf67 rfl rfl rfl (by first | decide | (simp; done)) (by kernel_rfl)) ?_
                rintro _ _ ⟨A27, hA27, rfl, rfl⟩
                refine O.e rfl rfl rfl (Ef.append (xs := out) (ys := ([(bk3 a a a)] : List B3)) 2 rfl Try.underlying28 inf67 rfl rfl rfl rfl rfl rfl hA27 (Ld.own 0 (by exact rfl)) (by simp only [List.length_append, List.length_cons, List.length_nil] at *; omega) (by decide)) ?_
                rintro _ _ ⟨A28, k14, rfl, rfl, hA28⟩
                replace hA28 := hA28 (.inr (by simp))
                refine O.p rfl rfl rfl (Pu.assign rfl rfl) ?_
                refine O.nil ?_
                refine X.blockNormal ?_
                refine X.next ?_
                refine V.region ?_
                refine O.p rfl rfl rfl (Pu.add64 (r := ((i + 1 : Nat) : Int)) rfl (by omega) rfl rfl rfl) ?_
                refine O.p rfl rfl rfl (Pu.move rfl rfl) ?_
                refine O.nil ?_
                exact X.back2 (A28, k14, (out ++ ([(bk3 a a a)] : List B3)), i + 1) (by (try dsimp only); exact ⟨by omega, by rw [take_snoc e1, List.map_append, ho]; refine congrArg _ (congrArg (· :: []) ?_); unfold exB sw2; (repeat' split) <;> first | (exfalso; omega) | rfl, by simp only [List.length_append, List.length_singleton]; omega⟩) (by first | omega | (dsimp only; omega)) (Ent.cons rfl (Ent.cons rfl (Ent.nil _))) (Ent.cons (t := 1) rfl (Ent.cons (t := 2) rfl (Ent.cons (t := 12) rfl (Ent.cons (t := 13) rfl (Ent.nil _))))) (Sub.keep 2 rfl (Sub.nil _))
              · skip
                refine V.skip ?_
                refine X.blockNormal ?_
                refine X.blockNormal ?_
                refine X.next ?_
                refine V.region ?_
                refine O.p rfl rfl rfl (Pu.add64 (r := 3) (by decide) (by decide) rfl rfl rfl) ?_
                refine O.p rfl rfl rfl (Pu.move rfl rfl) ?_
                refine O.nil ?_
                refine X.again 0 ?_
                refine V.seq ?_
                refine V.region ?_
                refine O.p rfl rfl rfl (Pu.isF (by decide) (Pu.lss rfl rfl rfl)) ?_
                refine O.nil ?_
                refine X.next ?_
                refine V.seq ?_
                refine V.condF rfl ?_
                refine V.exit ?_
                refine X.thenExit ?_
                refine X.thenExit ?_
                refine X.blockHit ?_
                refine X.next ?_
                refine V.region ?_
                refine O.p rfl rfl rfl (Pu.move rfl rfl) ?_
                refine O.p rfl rfl rfl (Pu.indexArr 0 0 rfl Try.underlying67 sz2 rfl rfl (by decide) (by decide) (by decide)) ?_
                refine O.p rfl rfl rfl (Pu.load rfl pl2 rfl (Ld.blk 0 rfl rfl)) ?_
                refine O.p rfl rfl rfl (Pu.indexArr 1 1 rfl Try.underlying67 sz2 rfl rfl (by decide) (by decide) (by decide)) ?_
                refine O.p rfl rfl rfl (Pu.load rfl pl2 rfl (Ld.blk 0 rfl rfl)) ?_
                refine O.p rfl rfl rfl (Pu.indexArr 2 2 rfl Try.underlying67 sz2 rfl rfl (by decide) (by decide) (by decide)) ?_
                refine O.p rfl rfl rfl (Pu.load rfl pl2 rfl (Ld.blk 0 rfl rfl)) ?_
                refine O.e rfl rfl rfl (Ef.callP call131 rfl rfl (fun w hw => blockOf_ok  a a ((blocks[i]'e1).2.2) w   )) ?_
                rintro _ _ ⟨rfl, rfl⟩
                refine O.e rfl rfl rfl (Ef.build B3C ([(bk3 a a ((blocks[i]'e1).2.2))] : List B3) rfl Try.underlying28 inf67 rfl rfl rfl (by first | decide | (simp; done)) (by kernel_rfl)) ?_
                rintro _ _ ⟨A29, hA29, rfl, rfl⟩
                refine O.e rfl rfl rfl (Ef.append (xs := out) (ys := ([(bk3 a a ((blocks[i]'e1).2.2))] : List B3)) 2 rfl Try.underlying28 inf67 rfl rfl rfl rfl rfl rfl hA29 (Ld.own 0 (by exact rfl)) (by simp only [List.length_append, List.length_cons, List.length_nil] at *; omega) (by decide)) ?_
                rintro _ _ ⟨A30, k15, rfl, rfl, hA30⟩
                replace hA30 := hA30 (.inr (by simp))
                refine O.p rfl rfl rfl (Pu.assign rfl rfl) ?_
                refine O.nil ?_
                refine X.blockNormal ?_
                refine X.next ?_
                refine V.region ?_
                refine O.p rfl rfl rfl (Pu.add64 (r := ((i + 1 : Nat) : Int)) rfl (by omega) rfl rfl rfl) ?_
                refine O.p rfl rfl rfl (Pu.move rfl rfl) ?_
                refine O.nil ?_
                exact X.back2 (A30, k15, (out ++ ([(bk3 a a ((blocks[i]'e1).2.2))] : List B3)), i + 1) (by (try dsimp only); exact ⟨by omega, by rw [take_snoc e1, List.map_append, ho]; refine congrArg _ (congrArg (· :: []) ?_); unfold exB sw2; (repeat' split) <;> first | (exfalso; omega) | rfl, by simp only [List.length_append, List.length_singleton]; omega⟩) (by first | omega | (dsimp only; omega)) (Ent.cons rfl (Ent.cons rfl (Ent.nil _))) (Ent.cons (t := 1) rfl (Ent.cons (t := 2) rfl (Ent.cons (t := 12) rfl (Ent.cons (t := 13) rfl (Ent.nil _))))) (Sub.keep 2 rfl (Sub.nil _))
          · skip
            refine V.skip ?_
            refine X.blockNormal ?_
            refine X.blockNormal ?_
            refine X.next ?_
            refine V.region ?_
            refine O.p rfl rfl rfl (Pu.add64 (r := 2) (by decide) (by decide) rfl rfl rfl) ?_
            refine O.p rfl rfl rfl (Pu.move rfl rfl) ?_
            refine O.nil ?_
            refine X.again 1 ?_
            refine V.seq ?_
            refine V.region ?_
            refine O.p rfl rfl rfl (Pu.isT (by decide) (Pu.lss rfl rfl rfl)) ?_
            refine O.nil ?_
            refine X.next ?_
            refine V.seq ?_
            refine V.condT rfl ?_
            refine V.skip ?_
            refine X.next ?_
            refine V.seq ?_
            refine V.block ?_
            refine V.seq ?_
            refine V.region ?_
            refine O.p rfl rfl rfl (Pu.move rfl rfl) ?_
            refine O.p rfl rfl rfl (Pu.indexAgg 2 rfl Try.underlying67 sz2 pl2 rfl rfl (by decide) (by decide) rfl) ?_
            refine O.p rfl rfl rfl (Pu.assign rfl rfl) ?_
            refine O.p rfl rfl rfl (Pu.assign rfl rfl) ?_
            refine O.nil ?_
            refine X.next ?_
            refine V.seq ?_
            refine V.region ?_
            refine O.p rfl rfl rfl (Pu.move rfl rfl) ?_
            refine O.nil ?_
            refine X.next ?_
            refine V.block ?_
            refine V.seq ?_
            refine V.region ?_
            refine O.p rfl rfl rfl (Pu.move rfl rfl) ?_
            refine O.p rfl rfl rfl (Pu.eql rfl rfl rfl) ?_
            refine O.p rfl rfl rfl (Pu.assign rfl rfl) ?_
            refine O.nil ?_
            refine X.next ?_
            refine V.condD rfl (fun c18 => ?_) (fun c18 => ?_)
            · skip
              refine V.region ?_
              refine O.p rfl rfl rfl (Pu.move rfl rfl) ?_
              refine O.p rfl rfl rfl (Pu.move rfl rfl) ?_
              refine O.p rfl rfl rfl (Pu.indexArr 2 2 rfl Try.underlying67 sz2 rfl rfl (by decide) (by decide) (by decide)) ?_
              refine O.s rfl rfl (Ef.store1 (cs' := [_, _, _]) 0 rfl sz2 rfl rfl rfl rfl rfl (ltb rfl) rfl) ?_
              rintro _ _ rfl
              refine O.nil ?_
              refine X.blockNormal ?_
              refine X.blockNormal ?_
              refine X.next ?_
              refine V.region ?_
              refine O.p rfl rfl rfl (Pu.add64 (r := 3) (by decide) (by decide) rfl rfl rfl) ?_
              refine O.p rfl rfl rfl (Pu.move rfl rfl) ?_
              refine O.nil ?_
              refine X.again 0 ?_
              refine V.seq ?_
              refine V.region ?_
              refine O.p rfl rfl rfl (Pu.isF (by decide) (Pu.lss rfl rfl rfl)) ?_
              refine O.nil ?_
              refine X.next ?_
              refine V.seq ?_
              refine V.condF rfl ?_
              refine V.exit ?_
              refine X.thenExit ?_
              refine X.thenExit ?_
              refine X.blockHit ?_
              refine X.next ?_
              refine V.region ?_
              refine O.p rfl rfl rfl (Pu.move rfl rfl) ?_
              refine O.p rfl rfl rfl (Pu.indexArr 0 0 rfl Try.underlying67 sz2 rfl rfl (by decide) (by decide) (by decide)) ?_
              refine O.p rfl rfl rfl (Pu.load rfl pl2 rfl (Ld.blk 0 rfl rfl)) ?_
              refine O.p rfl rfl rfl (Pu.indexArr 1 1 rfl Try.underlying67 sz2 rfl rfl (by decide) (by decide) (by decide)) ?_
              refine O.p rfl rfl rfl (Pu.load rfl pl2 rfl (Ld.blk 0 rfl rfl)) ?_
              refine O.p rfl rfl rfl (Pu.indexArr 2 2 rfl Try.underlying67 sz2 rfl rfl (by decide) (by decide) (by decide)) ?_
              refine O.p rfl rfl rfl (Pu.load rfl pl2 rfl (Ld.blk 0 rfl rfl)) ?_
              refine O.e rfl rfl rfl (Ef.callP call131 rfl rfl (fun w hw => blockOf_ok  a ((blocks[i]'e1).2.1) b w   )) ?_
              rintro _ _ ⟨rfl, rfl⟩
              refine O.e rfl rfl rfl (Ef.build B3C ([(bk3 a ((blocks[i]'e1).2.1) b)] : List B3) rfl Try.underlying28 inf67 rfl rfl rfl (by first | decide | (simp; done)) (by kernel_rfl)) ?_
              rintro _ _ ⟨A31, hA31, rfl, rfl⟩
              refine O.e rfl rfl rfl (Ef.append (xs := out) (ys := ([(bk3 a ((blocks[i]'e1).2.1) b)] : List B3)) 2 rfl Try.underlying28 inf67 rfl rfl rfl rfl rfl rfl hA31 (Ld.own 0 (by exact rfl)) (by simp only [List.length_append, List.length_cons, List.length_nil] at *; omega) (by decide)) ?_
              rintro _ _ ⟨A32, k16, rfl, rfl, hA32⟩
              replace hA32 := hA32 (.inr (by simp))
              refine O.p rfl rfl rfl (Pu.assign rfl rfl) ?_
              refine O.nil ?_
              refine X.blockNormal ?_
              refine X.next ?_
              refine V.region ?_
              refine O.p rfl rfl rfl (Pu.add64 (r := ((i + 1 : Nat) : Int)) rfl (by omega) rfl rfl rfl) ?_
              refine O.p rfl rfl rfl (Pu.move rfl rfl) ?_
              refine O.nil ?_
              exact X.back2 (A32, k16, (out ++ ([(bk3 a ((blocks[i]'e1).2.1) b)] : List B3)), i + 1) (by (try dsimp only); exact ⟨by omega, by rw [take_snoc e1, List.map_append, ho]; refine congrArg _ (congrArg (· :: []) ?_); unfold exB sw2; (repeat' split) <;> first | (exfalso; omega) | rfl, by simp only [List.length_append, List.length_singleton]; omega⟩) (by first | omega | (dsimp only; omega)) (Ent.cons rfl (Ent.cons rfl (Ent.nil _))) (Ent.cons (t := 1) rfl (Ent.cons (t := 2) rfl (Ent.cons (t := 12) rfl (Ent.cons (t := 13) rfl (Ent.nil _))))) (Sub.keep 2 rfl (Sub.nil _))
            · skip
              refine V.seq ?_
              refine V.region ?_
              refine O.p rfl rfl rfl (Pu.move rfl rfl) ?_
              refine O.p rfl rfl rfl (Pu.eql rfl rfl rfl) ?_
              refine O.p rfl rfl rfl (Pu.assign rfl rfl) ?_
              refine O.nil ?_
              refine X.next ?_
              refine V.condD rfl (fun c19 => ?_) (fun c19 => ?_)
              · skip
                refine V.region ?_
                refine O.p rfl rfl rfl (Pu.move rfl rfl) ?_
                refine O.p rfl rfl rfl (Pu.move rfl rfl) ?_
                refine O.p rfl rfl rfl (Pu.indexArr 2 2 rfl Try.underlying67 sz2 rfl rfl (by decide) (by decide) (by decide)) ?_
                refine O.s rfl rfl (Ef.store1 (cs' := [_, _, _]) 0 rfl sz2 rfl rfl rfl rfl rfl (ltb rfl) rfl) ?_
                rintro _ _ rfl
                refine O.nil ?_
                refine X.blockNormal ?_
                refine X.blockNormal ?_
                refine X.next ?_
                refine V.region ?_
                refine O.p rfl rfl rfl (Pu.add64 (r := 3) (by decide) (by decide) rfl rfl rfl) ?_
                refine O.p rfl rfl rfl (Pu.move rfl rfl) ?_
                refine O.nil ?_
                refine X.again 0 ?_
                refine V.seq ?_
                refine V.region ?_
                refine O.p rfl rfl rfl (Pu.isF (by decide) (Pu.lss rfl rfl rfl)) ?_
                refine O.nil ?_
                refine X.next ?_
                refine V.seq ?_
                refine V.condF rfl ?_
                refine V.exit ?_
                refine X.thenExit ?_
                refine X.thenExit ?_
                refine X.blockHit ?_
                refine X.next ?_
                refine V.region ?_
                refine O.p rfl rfl rfl (Pu.move rfl rfl) ?_
                refine O.p rfl rfl rfl (Pu.indexArr 0 0 rfl Try.underlying67 sz2 rfl rfl (by decide) (by decide) (by decide)) ?_
                refine O.p rfl rfl rfl (Pu.load rfl pl2 rfl (Ld.blk 0 rfl rfl)) ?_
                refine O.p rfl rfl rfl (Pu.indexArr 1 1 rfl Try.underlying67 sz2 rfl rfl (by decide) (by decide) (by decide)) ?_
                refine O.p rfl rfl rfl (Pu.load rfl pl2 rfl (Ld.blk 0 rfl rfl)) ?_
                refine O.p rfl rfl rfl (Pu.indexArr 2 2 rfl Try.underlying67 sz2 rfl rfl (by decide) (by decide) (by decide)) ?_
                refine O.p rfl rfl rfl (Pu.load rfl pl2 rfl (Ld.blk 0 rfl rfl)) ?_
                refine O.e rfl rfl rfl (Ef.callP call131 rfl rfl (fun w hw => blockOf_ok  a ((blocks[i]'e1).2.1) a w   )) ?_
                rintro _ _ ⟨rfl, rfl⟩
                refine O.e rfl rfl rfl (Ef.build B3C ([(bk3 a ((blocks[i]'e1).2.1) a)] : List B3) rfl Try.underlying28 inf67 rfl rfl rfl (by first | decide | (simp; done)) (by kernel_rfl)) ?_
                rintro _ _ ⟨A33, hA33, rfl, rfl⟩
                refine O.e rfl rfl rfl (Ef.append (xs := out) (ys := ([(bk3 a ((blocks[i]'e1).2.1) a)] : List B3)) 2 rfl Try.underlying28 inf67 rfl rfl rfl rfl rfl rfl hA33 (Ld.own 0 (by exact rfl)) (by simp only [List.length_append, List.length_cons, List.length_nil] at *; omega) (by decide)) ?_
                rintro _ _ ⟨A34, k17, rfl, rfl, hA34⟩
                replace hA34 := hA34 (.inr (by simp))
                refine O.p rfl rfl rfl (Pu.assign rfl rfl) ?_
                refine O.nil ?_
                refine X.blockNormal ?_
                refine X.next ?_
                refine V.region ?_
                refine O.p rfl rfl rfl (Pu.add64 (r := ((i + 1 : Nat) : Int)) rfl (by omega) rfl rfl rfl) ?_
                refine O.p rfl rfl rfl (Pu.move rfl rfl) ?_
                refine O.nil ?_
                exact X.back2 (A34, k17, (out ++ ([(bk3 a ((blocks[i]'e1).2.1) a)] : List B3)), i + 1) (by (try dsimp only); exact ⟨by omega, by rw [take_snoc e1, List.map_append, ho]; refine congrArg _ (congrArg (· :: []) ?_); unfold exB sw2; (repeat' split) <;> first | (exfalso; omega) | rfl, by simp only [List.length_append, List.length_singleton]; omega⟩) (by first | omega | (dsimp only; omega)) (Ent.cons rfl (Ent.cons rfl (Ent.nil _))) (Ent.cons (t := 1) rfl (Ent.cons (t := 2) rfl (Ent.cons (t := 12) rfl (Ent.cons (t := 13) rfl (Ent.nil _))))) (Sub.keep 2 rfl (Sub.nil _))
              · skip
                refine V.skip ?_
                refine X.blockNormal ?_
                refine X.blockNormal ?_
                refine X.next ?_
                refine V.region ?_
                refine O.p rfl rfl rfl (Pu.add64 (r := 3) (by decide) (by decide) rfl rfl rfl) ?_
                refine O.p rfl rfl rfl (Pu.move rfl rfl) ?_
                refine O.nil ?_
                refine X.again 0 ?_
                refine V.seq ?_
                refine V.region ?_
                refine O.p rfl rfl rfl (Pu.isF (by decide) (Pu.lss rfl rfl rfl)) ?_
                refine O.nil ?_
                refine X.next ?_
                refine V.seq ?_
                refine V.condF rfl ?_
                refine V.exit ?_
                refine X.thenExit ?_
                refine X.thenExit ?_
                refine X.blockHit ?_
                refine X.next ?_
                refine V.region ?_
                refine O.p rfl rfl rfl (Pu.move rfl rfl) ?_
                refine O.p rfl rfl rfl (Pu.indexArr 0 0 rfl Try.underlying67 sz2 rfl rfl (by decide) (by decide) (by decide)) ?_
                refine O.p rfl rfl rfl (Pu.load rfl pl2 rfl (Ld.blk 0 rfl rfl)) ?_
                refine O.p rfl rfl rfl (Pu.indexArr 1 1 rfl Try.underlying67 sz2 rfl rfl (by decide) (by decide) (by decide)) ?_
                refine O.p rfl rfl rfl (Pu.load rfl pl2 rfl (Ld.blk 0 rfl rfl)) ?_
                refine O.p rfl rfl rfl (Pu.indexArr 2 2 rfl Try.underlying67 sz2 rfl rfl (by decide) (by decide) (by decide)) ?_
                refine O.p rfl rfl rfl (Pu.load rfl pl2 rfl (Ld.blk 0 rfl rfl)) ?_
                refine O.e rfl rfl rfl (Ef.callP call131 rfl rfl (fun w hw => blockOf_ok  a ((blocks[i]'e1).2.1) ((blocks[i]'e1).2.2) w   )) ?_
                rintro _ _ ⟨rfl, rfl⟩
                refine O.e rfl rfl rfl (Ef.build B3C ([(bk3 a ((blocks[i]'e1).2.1) ((blocks[i]'e1).2.2))] : List B3) rfl Try.underlying28 inf67 rfl rfl rfl (by first | decide | (simp; done)) (by kernel_rfl)) ?_
                rintro _ _ ⟨A35, hA35, rfl, rfl⟩
                refine O.e rfl rfl rfl (Ef.append (xs := out) (ys := ([(bk3 a ((blocks[i]'e1).2.1) ((blocks[i]'e1).2.2))] : List B3)) 2 rfl Try.underlying28 inf67 rfl rfl rfl rfl rfl rfl hA35 (Ld.own 0 (by exact rfl)) (by simp only [List.length_append, List.length_cons, List.length_nil] at *; omega) (by decide)) ?_
                rintro _ _ ⟨A36, k18, rfl, rfl, hA36⟩
                replace hA36 := hA36 (.inr (by simp))
                refine O.p rfl rfl rfl (Pu.assign rfl rfl) ?_
                refine O.nil ?_
                refine X.blockNormal ?_
                refine X.next ?_
                refine V.region ?_
                refine O.p rfl rfl rfl (Pu.add64 (r := ((i + 1 : Nat) : Int)) rfl (by omega) rfl rfl rfl) ?_
                refine O.p rfl rfl rfl (Pu.move rfl rfl) ?_
                refine O.nil ?_
                exact X.back2 (A36, k18, (out ++ ([(bk3 a ((blocks[i]'e1).2.1) ((blocks[i]'e1).2.2))] : List B3)), i + 1) (by (try dsimp only); exact ⟨by omega, by rw [take_snoc e1, List.map_append, ho]; refine congrArg _ (congrArg (· :: []) ?_); unfold exB sw2; (repeat' split) <;> first | (exfalso; omega) | rfl, by simp only [List.length_append, List.length_singleton]; omega⟩) (by first | omega | (dsimp only; omega)) (Ent.cons rfl (Ent.cons rfl (Ent.nil _))) (Ent.cons (t := 1) rfl (Ent.cons (t := 2) rfl (Ent.cons (t := 12) rfl (Ent.cons (t := 13) rfl (Ent.nil _))))) (Sub.keep 2 rfl (Sub.nil _))
      · skip
        refine V.skip ?_
        refine X.blockNormal ?_
        refine X.blockNormal ?_
        refine X.next ?_
        refine V.region ?_
        refine O.p rfl rfl rfl (Pu.add64 (r := 1) (by decide) (by decide) rfl rfl rfl) ?_
        refine O.p rfl rfl rfl (Pu.move rfl rfl) ?_
        refine O.nil ?_
        refine X.again 2 ?_
        refine V.seq ?_
        refine V.region ?_
        refine O.p rfl rfl rfl (Pu.isT (by decide) (Pu.lss rfl rfl rfl)) ?_
        refine O.nil ?_
        refine X.next ?_
        refine V.seq ?_
        refine V.condT rfl ?_
        refine V.skip ?_
        refine X.next ?_
        refine V.seq ?_
        refine V.block ?_
        refine V.seq ?_
        refine V.region ?_
        refine O.p rfl rfl rfl (Pu.move rfl rfl) ?_
        refine O.p rfl rfl rfl (Pu.indexAgg 1 rfl Try.underlying67 sz2 pl2 rfl rfl (by decide) (by decide) rfl) ?_
        refine O.p rfl rfl rfl (Pu.assign rfl rfl) ?_
        refine O.p rfl rfl rfl (Pu.assign rfl rfl) ?_
        refine O.nil ?_
        refine X.next ?_
        refine V.seq ?_
        refine V.region ?_
        refine O.p rfl rfl rfl (Pu.move rfl rfl) ?_
        refine O.nil ?_
        refine X.next ?_
        refine V.block ?_
        refine V.seq ?_
        refine V.region ?_
        refine O.p rfl rfl rfl (Pu.move rfl rfl) ?_
        refine O.p rfl rfl rfl (Pu.eql rfl rfl rfl) ?_
        refine O.p rfl rfl rfl (Pu.assign rfl rfl) ?_
        refine O.nil ?_
        refine X.next ?_
        refine V.condD rfl (fun c20 => ?_) (fun c20 => ?_)
        · skip
          refine V.region ?_
          refine O.p rfl rfl rfl (Pu.move rfl rfl) ?_
          refine O.p rfl rfl rfl (Pu.move rfl rfl) ?_
          refine O.p rfl rfl rfl (Pu.indexArr 1 1 rfl Try.underlying67 sz2 rfl rfl (by decide) (by decide) (by decide)) ?_
          refine O.s rfl rfl (Ef.store1 (cs' := [_, _, _]) 0 rfl sz2 rfl rfl rfl rfl rfl (ltb rfl) rfl) ?_
          rintro _ _ rfl
          refine O.nil ?_
          refine X.blockNormal ?_
          refine X.blockNormal ?_
          refine X.next ?_
          refine V.region ?_
          refine O.p rfl rfl rfl (Pu.add64 (r := 2) (by decide) (by decide) rfl rfl rfl) ?_
          refine O.p rfl rfl rfl (Pu.move rfl rfl) ?_
          refine O.nil ?_
          refine X.again 1 ?_
          refine V.seq ?_
          refine V.region ?_
          refine O.p rfl rfl rfl (Pu.isT (by decide) (Pu.lss rfl rfl rfl)) ?_
          refine O.nil ?_
          refine X.next ?_
          refine V.seq ?_
          refine V.condT rfl ?_
          refine V.skip ?_
          refine X.next ?_
          refine V.seq ?_
          refine V.block ?_
          refine V.seq ?_
          refine V.region ?_
          refine O.p rfl rfl rfl (Pu.move rfl rfl) ?_
          refine O.p rfl rfl rfl (Pu.indexAgg 2 rfl Try.underlying67 sz2 pl2 rfl rfl (by decide) (by decide) rfl) ?_
          refine O.p rfl rfl rfl (Pu.assign rfl rfl) ?_
          refine O.p rfl rfl rfl (Pu.assign rfl rfl) ?_
          refine O.nil ?_
          refine X.next ?_
          refine V.seq ?_
          refine V.region ?_
          refine O.p rfl rfl rfl (Pu.move rfl rfl) ?_
          refine O.nil ?_
          refine X.next ?_
          refine V.block ?_
          refine V.seq ?_
          refine V.region ?_
          refine O.p rfl rfl rfl (Pu.move rfl rfl) ?_
          refine O.p rfl rfl rfl (Pu.eql rfl rfl rfl) ?_
          refine O.p rfl rfl rfl (Pu.assign rfl rfl) ?_
          refine O.nil ?_
          refine X.next ?_
          refine V.condD rfl (fun c21 => ?_) (fun c21 => ?_)
          · skip
            refine V.region ?_
            refine O.p rfl rfl rfl (Pu.move rfl rfl) ?_
            refine O.p rfl rfl rfl (Pu.move rfl rfl) ?_
            refine O.p rfl rfl rfl (Pu.indexArr 2 2 rfl Try.underlying67 sz2 rfl rfl (by decide) (by decide) (by decide)) ?_
            refine O.s rfl rfl (Ef.store1 (cs' := [_, _, _]) 0 rfl sz2 rfl rfl rfl rfl rfl (ltb rfl) rfl) ?_
            rintro _ _ rfl
            refine O.nil ?_
            refine X.blockNormal ?_
            refine X.blockNormal ?_
            refine X.next ?_
            refine V.region ?_
            refine O.p rfl rfl rfl (Pu.add64 (r := 3) (by decide) (by decide) rfl rfl rfl) ?_
            refine O.p rfl rfl rfl (Pu.move rfl rfl) ?_
            refine O.nil ?_
            refine X.again 0 ?_
            refine V.seq ?_
            refine V.region ?_
            refine O.p rfl rfl rfl (Pu.isF (by decide) (Pu.lss rfl rfl rfl)) ?_
            refine O.nil ?_
            refine X.next ?_
            refine V.seq ?_
            refine V.condF rfl ?_
            refine V.exit ?_
            refine X.thenExit ?_
            refine X.thenExit ?_
            refine X.blockHit ?_
            refine X.next ?_
            refine V.region ?_
            refine O.p rfl rfl rfl (Pu.move rfl rfl) ?_
            refine O.p rfl rfl rfl (Pu.indexArr 0 0 rfl Try.underlying67 sz2 rfl rfl (by decide) (by decide) (by decide)) ?_
            refine O.p rfl rfl rfl (Pu.load rfl pl2 rfl (Ld.blk 0 rfl rfl)) ?_
            refine O.p rfl rfl rfl (Pu.indexArr 1 1 rfl Try.underlying67 sz2 rfl rfl (by decide) (by decide) (by decide)) ?_
            refine O.p rfl rfl rfl (Pu.load rfl pl2 rfl (Ld.blk 0 rfl rfl)) ?_
            refine O.p rfl rfl rfl (Pu.indexArr 2 2 rfl Try.underlying67 sz2 rfl rfl (by decide) (by decide) (by decide)) ?_
            refine O.p rfl rfl rfl (Pu.load rfl pl2 rfl (Ld.blk 0 rfl rfl)) ?_
            refine O.e rfl rfl rfl (Ef.callP call131 rfl rfl (fun w hw => blockOf_ok  ((blocks[i]'e1).1) b b w   )) ?_
            rintro _ _ ⟨rfl, rfl⟩
            refine O.e rfl rfl rfl (Ef.build B3C ([(bk3 ((blocks[i]'e1).1) b b)] : List B3) rfl Try.underlying28 inf67 rfl rfl rfl (by first | decide | (simp; done)) (by kernel_rfl)) ?_
            rintro _ _ ⟨A37, hA37, rfl, rfl⟩
            refine O.e rfl rfl rfl (Ef.append (xs := out) (ys := ([(bk3 ((blocks[i]'e1).1) b b)] : List B3)) 2 rfl Try.underlying28 inf67 rfl rfl rfl rfl rfl rfl hA37 (Ld.own 0 (by exact rfl)) (by simp only [List.length_append, List.length_cons, List.length_nil] at *; omega) (by decide)) ?_
            rintro _ _ ⟨A38, k19, rfl, rfl, hA38⟩
            replace hA38 := hA38 (.inr (by simp))
            refine O.p rfl rfl rfl (Pu.assign rfl rfl) ?_
            refine O.nil ?_
            refine X.blockNormal ?_
            refine X.next ?_
            refine V.region ?_
            refine O.p rfl rfl rfl (Pu.add64 (r := ((i + 1 : Nat) : Int)) rfl (by omega) rfl rfl rfl) ?_
            refine O.p rfl rfl rfl (Pu.move rfl rfl) ?_
            refine O.nil ?_
            exact X.back2 (A38, k19, (out ++ ([(bk3 ((blocks[i]'e1).1) b b)] : List B3)), i + 1) (by (try dsimp only); exact ⟨by omega, by rw [take_snoc e1, List.map_append, ho]; refine congrArg _ (congrArg (· :: []) ?_); unfold exB sw2; (repeat' split) <;> first | (exfalso; omega) | rfl, by simp only [List.length_append, List.length_singleton]; omega⟩) (by first | omega | (dsimp only; omega)) (Ent.cons rfl (Ent.cons rfl (Ent.nil _))) (Ent.cons (t := 1) rfl (Ent.cons (t := 2) rfl (Ent.cons (t := 12) rfl (Ent.cons (t := 13) rfl (Ent.nil _))))) (Sub.keep 2 rfl (Sub.nil _))
          · skip
            refine V.seq ?_
            refine V.region ?_
            refine O.p rfl rfl rfl (Pu.move rfl rfl) ?_
            refine O.p rfl rfl rfl (Pu.eql rfl rfl rfl) ?_
            refine O.p rfl rfl rfl (Pu.assign rfl rfl) ?_
            refine O.nil ?_
            refine X.next ?_
            refine V.condD rfl (fun c22 => ?_) (fun c22 => ?_)
            · skip
              refine V.region ?_
              refine O.p rfl rfl rfl (Pu.move rfl rfl) ?_
              refine O.p rfl rfl rfl (Pu.move rfl rfl) ?_
              refine O.p rfl rfl rfl (Pu.indexArr 2 2 rfl Try.underlying67 sz2 rfl rfl (by decide) (by decide) (by decide)) ?_
              refine O.s rfl rfl (Ef.store1 (cs' := [_, _, _]) 0 rfl sz2 rfl rfl rfl rfl rfl (ltb rfl) rfl) ?_
              rintro _ _ rfl
              refine O.nil ?_
              refine X.blockNormal ?_
              refine X.blockNormal ?_
              refine X.next ?_
              refine V.region ?_
              refine O.p rfl rfl rfl (Pu.add64 (r := 3) (by decide) (by decide) rfl rfl rfl) ?_
              refine O.p rfl rfl rfl (Pu.move rfl rfl) ?_
              refine O.nil ?_
              refine X.again 0 ?_
              refine V.seq ?_
              refine V.region ?_
              refine O.p rfl rfl rfl (Pu.isF (by decide) (Pu.lss rfl rfl rfl)) ?_
              refine O.nil ?_
              refine X.next ?_
              refine V.seq ?_
              refine V.condF rfl ?_
              refine V.exit ?_
              refine X.thenExit ?_
              refine X.thenExit ?_
              refine X.blockHit ?_
              refine X.next ?_
              refine V.region ?_
              refine O.p rfl rfl rfl (Pu.move rfl rfl) ?_
              refine O.p rfl rfl rfl (Pu.indexArr 0 0 rfl Try.underlying67 sz2 rfl rfl (by decide) (by decide) (by decide)) ?_
              refine O.p rfl rfl rfl (Pu.load rfl pl2 rfl (Ld.blk 0 rfl rfl)) ?_
              refine O.p rfl rfl rfl (Pu.indexArr 1 1 rfl Try.underlying67 sz2 rfl rfl (by decide) (by decide) (by decide)) ?_
              refine O.p rfl rfl rfl (Pu.load rfl pl2 rfl (Ld.blk 0 rfl rfl)) ?_
              refine O.p rfl rfl rfl (Pu.indexArr 2 2 rfl Try.underlying67 sz2 rfl rfl (by decide) (by decide) (by decide)) ?_
              refine O.p rfl rfl rfl (Pu.load rfl pl2 rfl (Ld.blk 0 rfl rfl)) ?_
              refine O.e rfl rfl rfl (Ef.callP call131 rfl rfl (fun w hw => blockOf_ok  ((blocks[i]'e1).1) b a w   )) ?_
              rintro _ _ ⟨rfl, rfl⟩
              refine O.e rfl rfl rfl (Ef.build B3C ([(bk3 ((blocks[i]'e1).1) b a)] : List B3) rfl Try.underlying28 inf67 rfl rfl rfl (by first | decide | (simp; done)) (by kernel_rfl)) ?_
              rintro _ _ ⟨A39, hA39, rfl, rfl⟩
              refine O.e rfl rfl rfl (Ef.append (xs := out) (ys := ([(bk3 ((blocks[i]'e1).1) b a)] : List B3)) 2 rfl Try.underlying28 inf67 rfl rfl rfl rfl rfl rfl hA39 (Ld.own 0 (by exact rfl)) (by simp only [List.length_append, List.length_cons, List.length_nil] at *; omega) (by decide)) ?_
              rintro _ _ ⟨A40, k20, rfl, rfl, hA40⟩
              replace hA40 := hA40 (.inr (by simp))
              refine O.p rfl rfl rfl (Pu.assign rfl rfl) ?_
              refine O.nil ?_
              refine X.blockNormal ?_
              refine X.next ?_
              refine V.region ?_
              refine O.p rfl rfl rfl (Pu.add64 (r := ((i + 1 : Nat) : Int)) rfl (by omega) rfl rfl rfl) ?_
              refine O.p rfl rfl rfl (Pu.move rfl rfl) ?_
              refine O.nil ?_
              exact X.back2 (A40, k20, (out ++ ([(bk3 ((blocks[i]'e1).1) b a)] : List B3)), i + 1) (by (try dsimp only); exact ⟨by omega, by rw [take_snoc e1, List.map_append, ho]; refine congrArg _ (congrArg (· :: []) ?_); unfold exB sw2; (repeat' split) <;> first | (exfalso; omega) | rfl, by simp only [List.length_append, List.length_singleton]; omega⟩) (by first | omega | (dsimp only; omega)) (Ent.cons rfl (Ent.cons rfl (Ent.nil _))) (Ent.cons (t := 1) rfl (Ent.cons (t := 2) rfl (Ent.cons (t := 12) rfl (Ent.cons (t := 13) rfl (Ent.nil _))))) (Sub.keep 2 rfl (Sub.nil _))
            · skip
              refine V.skip ?_
              refine X.blockNormal ?_
              refine X.blockNormal ?_
              refine X.next ?_
              refine V.region ?_
              refine O.p rfl rfl rfl (Pu.add64 (r := 3) (by decide) (by decide) rfl rfl rfl) ?_
              refine O.p rfl rfl rfl (Pu.move rfl rfl) ?_
              refine O.nil ?_
              refine X.again 0 ?_
              refine V.seq ?_
              refine V.region ?_
              refine O.p rfl rfl rfl (Pu.isF (by decide) (Pu.lss rfl rfl rfl)) ?_
              refine O.nil ?_
              refine X.next ?_
              refine V.seq ?_
              refine V.condF rfl ?_
              refine V.exit ?_
              refine X.thenExit ?_
              refine X.thenExit ?_
              refine X.blockHit ?_
              refine X.next ?_
              refine V.region ?_
              refine O.p rfl rfl rfl (Pu.move rfl rfl) ?_
              refine O.p rfl rfl rfl (Pu.indexArr 0 0 rfl Try.underlying67 sz2 rfl rfl (by decide) (by decide) (by decide)) ?_
              refine O.p rfl rfl rfl (Pu.load rfl pl2 rfl (Ld.blk 0 rfl rfl)) ?_
              refine O.p rfl rfl rfl (Pu.indexArr 1 1 rfl Try.underlying67 sz2 rfl rfl (by decide) (by decide) (by decide)) ?_
              refine O.p rfl rfl rfl (Pu.load rfl pl2 rfl (Ld.blk 0 rfl rfl)) ?_
              refine O.p rfl rfl rfl (Pu.indexArr 2 2 rfl Try.underlying67 sz2 rfl rfl (by decide) (by decide) (by decide)) ?_
              refine O.p rfl rfl rfl (Pu.load rfl pl2 rfl (Ld.blk 0 rfl rfl)) ?_
              refine O.e rfl rfl rfl (Ef.callP call131 rfl rfl (fun w hw => blockOf_ok  ((blocks[i]'e1).1) b ((blocks[i]'e1).2.2) w   )) ?_
              rintro _ _ ⟨rfl, rfl⟩
              refine O.e rfl rfl rfl (Ef.build B3C ([(bk3 ((blocks[i]'e1).1) b ((blocks[i]'e1).2.2))] : List B3) rfl Try.underlying28 inf67 rfl rfl rfl (by first | decide | (simp; done)) (by kernel_rfl)) ?_
              rintro _ _ ⟨A41, hA41, rfl, rfl⟩
              refine O.e rfl rfl rfl (Ef.append (xs := out) (ys := ([(bk3 ((blocks[i]'e1).1) b ((blocks[i]'e1).2.2))] : List B3)) 2 rfl Try.underlying28 inf67 rfl rfl rfl rfl rfl rfl hA41 (Ld.own 0 (by exact rfl)) (by simp only [List.length_append, List.length_cons, List.length_nil] at *; omega) (by decide)) ?_
              rintro _ _ ⟨A42, k21, rfl, rfl, hA42⟩
              replace hA42 := hA42 (.inr (by simp))
              refine O.p rfl rfl rfl (Pu.assign rfl rfl) ?_
              refine O.nil ?_
              refine X.blockNormal ?_
              refine X.next ?_
              refine V.region ?_
              refine O.p rfl rfl rfl (Pu.add64 (r := ((i + 1 : Nat) : Int)) rfl (by omega) rfl rfl rfl) ?_
              refine O.p rfl rfl rfl (Pu.move rfl rfl) ?_
              refine O.nil ?_
              exact X.back2 (A42, k21, (out ++ ([(bk3 ((blocks[i]'e1).1) b ((blocks[i]'e1).2.2))] : List B3)), i + 1) (by (try dsimp only); exact ⟨by omega, by rw [take_snoc e1, List.map_append, ho]; refine congrArg _ (congrArg (· :: []) ?_); unfold exB sw2; (repeat' split) <;> first | (exfalso; omega) | rfl, by simp only [List.length_append, List.length_singleton]; omega⟩) (by first | omega | (dsimp only; omega)) (Ent.cons rfl (Ent.cons rfl (Ent.nil _))) (Ent.cons (t := 1) rfl (Ent.cons (t := 2) rfl (Ent.cons (t := 12) rfl (Ent.cons (t := 13) rfl (Ent.nil _))))) (Sub.keep 2 rfl (Sub.nil _))
        · skip
          refine V.seq ?_
          refine V.region ?_
          refine O.p rfl rfl rfl (Pu.move rfl rfl) ?_
          refine O.p rfl rfl rfl (Pu.eql rfl rfl rfl) ?_
          refine O.p rfl rfl rfl (Pu.assign rfl rfl) ?_
          refine O.nil ?_
          refine X.next ?_
          refine V.condD rfl (fun c23 => ?_) (fun c23 => ?_)
          · skip
            refine V.region ?_
            refine O.p rfl rfl rfl (Pu.move rfl rfl) ?_
            refine O.p rfl rfl rfl (Pu.move rfl rfl) ?_
            refine O.p rfl rfl rfl (Pu.indexArr 1 1 rfl Try.underlying67 sz2 rfl rfl (by decide) (by decide) (by decide)) ?_
            refine O.s rfl rfl (Ef.store1 (cs' := [_, _, _]) 0 rfl sz2 rfl rfl rfl rfl rfl (ltb rfl) rfl) ?_
            rintro _ _ rfl
            refine O.nil ?_
            refine X.blockNormal ?_
            refine X.blockNormal ?_
            refine X.next ?_
            refine V.region ?_
            refine O.p rfl rfl rfl (Pu.add64 (r := 2) (by decide) (by decide) rfl rfl rfl) ?_
            refine O.p rfl rfl rfl (Pu.move rfl rfl) ?_
            refine O.nil ?_
            refine X.again 1 ?_
            refine V.seq ?_
            refine V.region ?_
            refine O.p rfl rfl rfl (Pu.isT (by decide) (Pu.lss rfl rfl rfl)) ?_
            refine O.nil ?_
            refine X.next ?_
            refine V.seq ?_
            refine V.condT rfl ?_
            refine V.skip ?_
            refine X.next ?_
            refine V.seq ?_
            refine V.block ?_
            refine V.seq ?_
            refine V.region ?_
            refine O.p rfl rfl rfl (Pu.move rfl rfl) ?_
            refine O.p rfl rfl rfl (Pu.indexAgg 2 rfl Try.underlying67 sz2 pl2 rfl rfl (by decide) (by decide) rfl) ?_
            refine O.p rfl rfl rfl (Pu.assign rfl rfl) ?_
            refine O.p rfl rfl rfl (Pu.assign rfl rfl) ?_
            refine O.nil ?_
            refine X.next ?_
            refine V.seq ?_
            refine V.region ?_
            refine O.p rfl rfl rfl (Pu.move rfl rfl) ?_
            refine O.nil ?_
            refine X.next ?_
            refine V.block ?_
            refine V.seq ?_
            refine V.region ?_
            refine O.p rfl rfl rfl (Pu.move rfl rfl) ?_
            refine O.p rfl rfl rfl (Pu.eql rfl rfl rfl) ?_
            refine O.p rfl rfl rfl (Pu.assign rfl rfl) ?_
            refine O.nil ?_
            refine X.next ?_
            refine V.condD rfl (fun c24 => ?_) (fun c24 => ?_)
            · skip
              refine V.region ?_
              refine O.p rfl rfl rfl (Pu.move rfl rfl) ?_
              refine O.p rfl rfl rfl (Pu.move rfl rfl) ?_
              refine O.p rfl rfl rfl (Pu.indexArr 2 2 rfl Try.underlying67 sz2 rfl rfl (by decide) (by decide) (by decide)) ?_
              refine O.s rfl rfl (Ef.store1 (cs' := [_, _, _]) 0 rfl sz2 rfl rfl rfl rfl rfl (ltb rfl) rfl) ?_
              rintro _ _ rfl
              refine O.nil ?_
              refine X.blockNormal ?_
              refine X.blockNormal ?_
              refine X.next ?_
              refine V.region ?_
              refine O.p rfl rfl rfl (Pu.add64 (r := 3) (by decide) (by decide) rfl rfl rfl) ?_
              refine O.p rfl rfl rfl (Pu.move rfl rfl) ?_
              refine O.nil ?_
              refine X.again 0 ?_
              refine V.seq ?_
              refine V.region ?_
              refine O.p rfl rfl rfl (Pu.isF (by decide) (Pu.lss rfl rfl rfl)) ?_
              refine O.nil ?_
              refine X.next ?_
              refine V.seq ?_
              refine V.condF rfl ?_
              refine V.exit ?_
              refine X.thenExit ?_
              refine X.thenExit ?_
              refine X.blockHit ?_
              refine X.next ?_
              refine V.region ?_
              refine O.p rfl rfl rfl (Pu.move rfl rfl) ?_
              refine O.p rfl rfl rfl (Pu.indexArr 0 0 rfl Try.underlying67 sz2 rfl rfl (by decide) (by decide) (by decide)) ?_
              refine O.p rfl rfl rfl (Pu.load rfl pl2 rfl (Ld.blk 0 rfl rfl)) ?_
              refine O.p rfl rfl rfl (Pu.indexArr 1 1 rfl Try.underlying67 sz2 rfl rfl (by decide) (by decide) (by decide)) ?_
              refine O.p rfl rfl rfl (Pu.load rfl pl2 rfl (Ld.blk 0 rfl rfl)) ?_
              refine O.p rfl rfl rfl (Pu.indexArr 2 2 rfl Try.underlying67 sz2 rfl rfl (by decide) (by decide) (by decide)) ?_
              refine O.p rfl rfl rfl (Pu.load rfl pl2 rfl (Ld.blk 0 rfl rfl)) ?_
              refine O.e rfl rfl rfl (Ef.callP call131 rfl rfl (fun w hw => blockOf_ok  ((blocks[i]'e1).1) a b w   )) ?_
              rintro _ _ ⟨rfl, rfl⟩
              refine O.e rfl rfl rfl (Ef.build B3C ([(bk3 ((blocks[i]'e1).1) a b)] : List B3) rfl Try.underlying28 inf67 rfl rfl rfl (by first | decide | (simp; done)) (by kernel_rfl)) ?_
              rintro _ _ ⟨A43, hA43, rfl, rfl⟩
              refine O.e rfl rfl rfl (Ef.append (xs := out) (ys := ([(bk3 ((blocks[i]'e1).1) a b)] : List B3)) 2 rfl Try.underlying28 inf67 rfl rfl rfl rfl rfl rfl hA43 (Ld.own 0 (by exact rfl)) (by simp only [List.length_append, List.length_cons, List.length_nil] at *; omega) (by decide)) ?_
              rintro _ _ ⟨A44, k22, rfl, rfl, hA44⟩
              replace hA44 := hA44 (.inr (by simp))
              refine O.p rfl rfl rfl (Pu.assign rfl rfl) ?_
              refine O.nil ?_
              refine X.blockNormal ?_
              refine X.next ?_
              refine V.region ?_
              refine O.p rfl rfl rfl (Pu.add64 (r := ((i + 1 : Nat) : Int)) rfl (by omega) rfl rfl rfl) ?_
              refine O.p rfl rfl rfl (Pu.move rfl rfl) ?_
              refine O.nil ?_
              exact X.back2 (A44, k22, (out ++ ([(bk3 ((blocks[i]'e1).1) a b)] : List B3)), i + 1) (by (try dsimp only); exact ⟨by omega, by rw [take_snoc e1, List.map_append, ho]; refine congrArg _ (congrArg (· :: []) ?_); unfold exB sw2; (repeat' split) <;> first | (exfalso; omega) | rfl, by simp only [List.length_append, List.length_singleton]; omega⟩) (by first | omega | (dsimp only; omega)) (Ent.cons rfl (Ent.cons rfl (Ent.nil _))) (Ent.cons (t := 1) rfl (Ent.cons (t := 2) rfl (Ent.cons (t := 12) rfl (Ent.cons (t := 13) rfl (Ent.nil _))))) (Sub.keep 2 rfl (Sub.nil _))
            · skip
              refine V.seq ?_
              refine V.region ?_
              refine O.p rfl rfl rfl (Pu.move rfl rfl) ?_
              refine O.p rfl rfl rfl (Pu.eql rfl rfl rfl) ?_
              refine O.p rfl rfl rfl (Pu.assign rfl rfl) ?_
              refine O.nil ?_
              refine X.next ?_
              refine V.condD rfl (fun c25 => ?_) (fun c25 => ?_)
              · skip
                refine V.region ?_
                refine O.p rfl rfl rfl (Pu.move rfl rfl) ?_
                refine O.p rfl rfl rfl (Pu.move rfl rfl) ?_
                refine O.p rfl rfl rfl (Pu.indexArr 2 2 rfl Try.underlying67 sz2 rfl rfl (by decide) (by decide) (by decide)) ?_
                refine O.s rfl rfl (Ef.store1 (cs' := [_, _, _]) 0 rfl sz2 rfl rfl rfl rfl rfl (ltb rfl) rfl) ?_
                rintro _ _ rfl
                refine O.nil ?_
                refine X.blockNormal ?_
                refine X.blockNormal ?_
                refine X.next ?_
                refine V.region ?_
                refine O.p rfl rfl rfl (Pu.add64 (r := 3) (by decide) (by decide) rfl rfl rfl) ?_
                refine O.p rfl rfl rfl (Pu.move rfl rfl) ?_
                refine O.nil ?_
                refine X.again 0 ?_
                refine V.seq ?_
                refine V.region ?_
                refine O.p rfl rfl rfl (Pu.isF (by decide) (Pu.lss rfl rfl rfl)) ?_
                refine O.nil ?_
                refine X.next ?_
                refine V.seq ?_
                refine V.condF rfl ?_
                refine V.exit ?_
                refine X.thenExit ?_
                refine X.thenExit ?_
                refine X.blockHit ?_
                refine X.next ?_
                refine V.region ?_
                refine O.p rfl rfl rfl (Pu.move rfl rfl) ?_
                refine O.p rfl rfl rfl (Pu.indexArr 0 0 rfl Try.underlying67 sz2 rfl rfl (by decide) (by decide) (by decide)) ?_
                refine O.p rfl rfl rfl (Pu.load rfl pl2 rfl (Ld.blk 0 rfl rfl)) ?_
                refine O.p rfl rfl rfl (Pu.indexArr 1 1 rfl Try.underlying67 sz2 rfl rfl (by decide) (by decide) (by decide)) ?_
                refine O.p rfl rfl rfl (Pu.load rfl pl2 rfl (Ld.blk 0 rfl rfl)) ?_
                refine O.p rfl rfl rfl (Pu.indexArr 2 2 rfl Try.underlying67 sz2 rfl rfl (by decide) (by decide) (by decide)) ?_
                refine O.p rfl rfl rfl (Pu.load rfl pl2 rfl (Ld.blk 0 rfl rfl)) ?_
                refine O.e rfl rfl rfl (Ef.callP call131 rfl rfl (fun w hw => blockOf_ok  ((blocks[i]'e1).1) a a w   )) ?_
                rintro _ _ ⟨rfl, rfl⟩
                refine O.e rfl rfl rfl (Ef.build B3C ([(bk3 ((blocks[i]'e1).1) a a)] : List B3) rfl Try.underlying28 inf67 rfl rfl rfl (by first | decide | (simp; done)) (by kernel_rfl)) ?_
                rintro _ _ ⟨A45, hA45, rfl, rfl⟩
                refine O.e rfl rfl rfl (Ef.append (xs := out) (ys := ([(bk3 ((blocks[i]'e1).1) a a)] : List B3)) 2 rfl Try.underlying28 inf67 rfl rfl rfl rfl rfl rfl hA45 (Ld.own 0 (by exact rfl)) (by simp only [List.length_append, List.length_cons, List.length_nil] at *; omega) (by decide)) ?_
                rintro _ _ ⟨A46, k23, rfl, rfl, hA46⟩
                replace hA46 := hA46 (.inr (by simp))
                refine O.p rfl rfl rfl (Pu.assign rfl rfl) ?_
                refine O.nil ?_
                refine X.blockNormal ?_
                refine X.next ?_
                refine V.region ?_
                refine O.p rfl rfl rfl (Pu.add64 (r := ((i + 1 : Nat) : Int)) rfl (by omega) rfl rfl rfl) ?_
                refine O.p rfl rfl rfl (Pu.move rfl rfl) ?_
                refine O.nil ?_
                exact X.back2 (A46, k23, (out ++ ([(bk3 ((blocks[i]'e1).1) a a)] : List B3)), i + 1) (by (try dsimp only); exact ⟨by omega, by rw [take_snoc e1, List.map_append, ho]; refine congrArg _ (congrArg (· :: []) ?_); unfold exB sw2; (repeat' split) <;> first | (exfalso; omega) | rfl, by simp only [List.length_append, List.length_singleton]; omega⟩) (by first | omega | (dsimp only; omega)) (Ent.cons rfl (Ent.cons rfl (Ent.nil _))) (Ent.cons (t := 1) rfl (Ent.cons (t := 2) rfl (Ent.cons (t := 12) rfl (Ent.cons (t := 13) rfl (Ent.nil _))))) (Sub.keep 2 rfl (Sub.nil _))
              · skip
                refine V.skip ?_
                refine X.blockNormal ?_
                refine X.blockNormal ?_
                refine X.next ?_
                refine V.region ?_
                refine O.p rfl rfl rfl (Pu.add64 (r := 3) (by decide) (by decide) rfl rfl rfl) ?_
                refine O.p rfl rfl rfl (Pu.move rfl rfl) ?_
                refine O.nil ?_
                refine X.again 0 ?_
                refine V.seq ?_
                refine V.region ?_
                refine O.p rfl rfl rfl (Pu.isF (by decide) (Pu.lss rfl rfl rfl)) ?_
                refine O.nil ?_
                refine X.next ?_
                refine V.seq ?_
                refine V.condF rfl ?_
                refine V.exit ?_
                refine X.thenExit ?_
                refine X.thenExit ?_
                refine X.blockHit ?_
                refine X.next ?_
                refine V.region ?_
                refine O.p rfl rfl rfl (Pu.move rfl rfl) ?_
                refine O.p rfl rfl rfl (Pu.indexArr 0 0 rfl Try.underlying67 sz2 rfl rfl (by decide) (by decide) (by decide)) ?_
                refine O.p rfl rfl rfl (Pu.load rfl pl2 rfl (Ld.blk 0 rfl rfl)) ?_
                refine O.p rfl rfl rfl (Pu.indexArr 1 1 rfl Try.underlying67 sz2 rfl rfl (by decide) (by decide) (by decide)) ?_
                refine O.p rfl rfl rfl (Pu.load rfl pl2 rfl (Ld.blk 0 rfl rfl)) ?_
                refine O.p rfl rfl rfl (Pu.indexArr 2 2 rfl Try.underlying67 sz2 rfl rfl (by decide) (by decide) (by decide)) ?_
                refine O.p rfl rfl rfl (Pu.load rfl pl2 rfl (Ld.blk 0 rfl rfl)) ?_
                refine O.e rfl rfl rfl (Ef.callP call131 rfl rfl (fun w hw => blockOf_ok  ((blocks[i]'e1).1) a ((blocks[i]'e1).2.2) w   )) ?_
                rintro _ _ ⟨rfl, rfl⟩
                refine O.e rfl rfl rfl (Ef.build B3C ([(bk3 ((blocks[i]'e1).1) a ((blocks[i]'e1).2.2))] : List B3) rfl Try.underlying28 inf67 rfl rfl rfl (by first | decide | (simp; done)) (by kernel_rfl)) ?_
                rintro _ _ ⟨A47, hA47, rfl, rfl⟩
                refine O.e rfl rfl rfl (Ef.append (xs := out) (ys := ([(bk3 ((blocks[i]'e1).1) a ((blocks[i]'e1).2.2))] : List B3)) 2 rfl Try.underlying28 inf67 rfl rfl rfl rfl rfl rfl hA47 (Ld.own 0 (by exact rfl)) (by simp only [List.length_append, List.length_cons, List.length_nil] at *; omega) (by decide)) ?_
                rintro _ _ ⟨A48, k24, rfl, rfl, hA48⟩
                replace hA48 := hA48 (.inr (by simp))
                refine O.p rfl rfl rfl (Pu.assign rfl rfl) ?_
                refine O.nil ?_
                refine X.blockNormal ?_
                refine X.next ?_
                refine V.region ?_
                refine O.p rfl rfl rfl (Pu.add64 (r := ((i + 1 : Nat) : Int)) rfl (by omega) rfl rfl rfl) ?_
                refine O.p rfl rfl rfl (Pu.move rfl rfl) ?_
                refine O.nil ?_
                exact X.back2 (A48, k24, (out ++ ([(bk3 ((blocks[i]'e1).1) a ((blocks[i]'e1).2.2))] : List B3)), i + 1) (by (try dsimp only); exact ⟨by omega, by rw [take_snoc e1, List.map_append, ho]; refine congrArg _ (congrArg (· :: []) ?_); unfold exB sw2; (repeat' split) <;> first | (exfalso; omega) | rfl, by simp only [List.length_append, List.length_singleton]; omega⟩) (by first | omega | (dsimp only; omega)) (Ent.cons rfl (Ent.cons rfl (Ent.nil _))) (Ent.cons (t := 1) rfl (Ent.cons (t := 2) rfl (Ent.cons (t := 12) rfl (Ent.cons (t := 13) rfl (Ent.nil _))))) (Sub.keep 2 rfl (Sub.nil _))
          · skip
            refine V.skip ?_
            refine X.blockNormal ?_
            refine X.blockNormal ?_
            refine X.next ?_
            refine V.region ?_
            refine O.p rfl rfl rfl (Pu.add64 (r := 2) (by decide) (by decide) rfl rfl rfl) ?_
            refine O.p rfl rfl rfl (Pu.move rfl rfl) ?_
            refine O.nil ?_
            refine X.again 1 ?_
            refine V.seq ?_
            refine V.region ?_
            refine O.p rfl rfl rfl (Pu.isT (by decide) (Pu.lss rfl rfl rfl)) ?_
            refine O.nil ?_
            refine X.next ?_
            refine V.seq ?_
            refine V.condT rfl ?_
            refine V.skip ?_
            refine X.next ?_
            refine V.seq ?_
            refine V.block ?_
            refine V.seq ?_
            refine V.region ?_
            refine O.p rfl rfl rfl (Pu.move rfl rfl) ?_
            refine O.p rfl rfl rfl (Pu.indexAgg 2 rfl Try.underlying67 sz2 pl2 rfl rfl (by decide) (by decide) rfl) ?_
            refine O.p rfl rfl rfl (Pu.assign rfl rfl) ?_
            refine O.p rfl rfl rfl (Pu.assign rfl rfl) ?_
            refine O.nil ?_
            refine X.next ?_
            refine V.seq ?_
            refine V.region ?_
            refine O.p rfl rfl rfl (Pu.move rfl rfl) ?_
            refine O.nil ?_
            refine X.next ?_
            refine V.block ?_
            refine V.seq ?_
            refine V.region ?_
            refine O.p rfl rfl rfl (Pu.move rfl rfl) ?_
            refine O.p rfl rfl rfl (Pu.eql rfl rfl rfl) ?_
            refine O.p rfl rfl rfl (Pu.assign rfl rfl) ?_
            refine O.nil ?_
            refine X.next ?_
            refine V.condD rfl (fun c26 => ?_) (fun c26 => ?_)
            · skip
              refine V.region ?_
              refine O.p rfl rfl rfl (Pu.move rfl rfl) ?_
              refine O.p rfl rfl rfl (Pu.move rfl rfl) ?_
              refine O.p rfl rfl rfl (Pu.indexArr 2 2 rfl Try.underlying67 sz2 rfl rfl (by decide) (by decide) (by decide)) ?_
              refine O.s rfl rfl (Ef.store1 (cs' := [_, _, _]) 0 rfl sz2 rfl rfl rfl rfl rfl (ltb rfl) rfl) ?_
              rintro _ _ rfl
              refine O.nil ?_
              refine X.blockNormal ?_
              refine X.blockNormal ?_
              refine X.next ?_
              refine V.region ?_
              refine O.p rfl rfl rfl (Pu.add64 (r := 3) (by decide) (by decide) rfl rfl rfl) ?_
              refine O.p rfl rfl rfl (Pu.move rfl rfl) ?_
              refine O.nil ?_
              refine X.again 0 ?_
              refine V.seq ?_
              refine V.region ?_
              refine O.p rfl rfl rfl (Pu.isF (by decide) (Pu.lss rfl rfl rfl)) ?_
              refine O.nil ?_
              refine X.next ?_
              refine V.seq ?_
              refine V.condF rfl ?_
              refine V.exit ?_
              refine X.thenExit ?_
              refine X.thenExit ?_
              refine X.blockHit ?_
              refine X.next ?_
              refine V.region ?_
              refine O.p rfl rfl rfl (Pu.move rfl rfl) ?_
              refine O.p rfl rfl rfl (Pu.indexArr 0 0 rfl Try.underlying67 sz2 rfl rfl (by decide) (by decide) (by decide)) ?_
              refine O.p rfl rfl rfl (Pu.load rfl pl2 rfl (Ld.blk 0 rfl rfl)) ?_
              refine O.p rfl rfl rfl (Pu.indexArr 1 1 rfl Try.underlying67 sz2 rfl rfl (by decide) (by decide) (by decide)) ?_
              refine O.p rfl rfl rfl (Pu.load rfl pl2 rfl (Ld.blk 0 rfl rfl)) ?_
              refine O.p rfl rfl rfl (Pu.indexArr 2 2 rfl Try.underlying67 sz2 rfl rfl (by decide) (by decide) (by decide)) ?_
              refine O.p rfl rfl rfl (Pu.load rfl pl2 rfl (Ld.blk 0 rfl rfl)) ?_
              refine O.e rfl rfl rfl (Ef.callP call131 rfl rfl (fun w hw => blockOf_ok  ((blocks[i]'e1).1) ((blocks[i]'e1).2.1) b w   )) ?_
              rintro _ _ ⟨rfl, rfl⟩
              refine O.e rfl rfl rfl (Ef.build B3C ([(bk3 ((blocks[i]'e1).1) ((blocks[i]'e1).2.1) b)] : List B3) rfl Try.underlying28 inf67 rfl rfl rfl (by first | decide | (simp; done)) (by kernel_rfl)) ?_
              rintro _ _ ⟨A49, hA49, rfl, rfl⟩
              refine O.e rfl rfl rfl (Ef.append (xs := out) (ys := ([(bk3 ((blocks[i]'e1).1) ((blocks[i]'e1).2.1) b)] : List B3)) 2 rfl Try.underlying28 inf67 rfl rfl rfl rfl rfl rfl hA49 (Ld.own 0 (by exact rfl)) (by simp only [List.length_append, List.length_cons, List.length_nil] at *; omega) (by decide)) ?_
              rintro _ _ ⟨A50, k25, rfl, rfl, hA50⟩
              replace hA50 := hA50 (.inr (by simp))
              refine O.p rfl rfl rfl (Pu.assign rfl rfl) ?_
              refine O.nil ?_
              refine X.blockNormal ?_
              refine X.next ?_
              refine V.region ?_
              refine O.p rfl rfl rfl (Pu.add64 (r := ((i + 1 : Nat) : Int)) rfl (by omega) rfl rfl rfl) ?_
              refine O.p rfl rfl rfl (Pu.move rfl rfl) ?_
              refine O.nil ?_
              exact X.back2 (A50, k25, (out ++ ([(bk3 ((blocks[i]'e1).1) ((blocks[i]'e1).2.1) b)] : List B3)), i + 1) (by (try dsimp only); exact ⟨by omega, by rw [take_snoc e1, List.map_append, ho]; refine congrArg _ (congrArg (· :: []) ?_); unfold exB sw2; (repeat' split) <;> first | (exfalso; omega) | rfl, by simp only [List.length_append, List.length_singleton]; omega⟩) (by first | omega | (dsimp only; omega)) (Ent.cons rfl (Ent.cons rfl (Ent.nil _))) (Ent.cons (t := 1) rfl (Ent.cons (t := 2) rfl (Ent.cons (t := 12) rfl (Ent.cons (t := 13) rfl (Ent.nil _))))) (Sub.keep 2 rfl (Sub.nil _))
            · skip
              refine V.seq ?_
              refine V.region ?_
              refine O.p rfl rfl rfl (Pu.move rfl rfl) ?_
              refine O.p rfl rfl rfl (Pu.eql rfl rfl rfl) ?_
              refine O.p rfl rfl rfl (Pu.assign rfl rfl) ?_
              refine O.nil ?_
              refine X.next ?_
              refine V.condD rfl (fun c27 => ?_) (fun c27 => ?_)
              · skip
                refine V.region ?_
                refine O.p rfl rfl rfl (Pu.move rfl rfl) ?_
                refine O.p rfl rfl rfl (Pu.move rfl rfl) ?_
                refine O.p rfl rfl rfl (Pu.indexArr 2 2 rfl Try.underlying67 sz2 rfl rfl (by decide) (by decide) (by decide)) ?_
                refine O.s rfl rfl (Ef.store1 (cs' := [_, _, _]) 0 rfl sz2 rfl rfl rfl rfl rfl (ltb rfl) rfl) ?_
                rintro _ _ rfl
                refine O.nil ?_
                refine X.blockNormal ?_
                refine X.blockNormal ?_
                refine X.next ?_
                refine V.region ?_
                refine O.p rfl rfl rfl (Pu.add64 (r := 3) (by decide) (by decide) rfl rfl rfl) ?_
                refine O.p rfl rfl rfl (Pu.move rfl rfl) ?_
                refine O.nil ?_
                refine X.again 0 ?_
                refine V.seq ?_
                refine V.region ?_
                refine O.p rfl rfl rfl (Pu.isF (by decide) (Pu.lss rfl rfl rfl)) ?_
                refine O.nil ?_
                refine X.next ?_
                refine V.seq ?_
                refine V.condF rfl ?_
                refine V.exit ?_
                refine X.thenExit ?_
                refine X.thenExit ?_
                refine X.blockHit ?_
                refine X.next ?_
                refine V.region ?_
                refine O.p rfl rfl rfl (Pu.move rfl rfl) ?_
                refine O.p rfl rfl rfl (Pu.indexArr 0 0 rfl Try.underlying67 sz2 rfl rfl (by decide) (by decide) (by decide)) ?_
                refine O.p rfl rfl rfl (Pu.load rfl pl2 rfl (Ld.blk 0 rfl rfl)) ?_
                refine O.p rfl rfl rfl (Pu.indexArr 1 1 rfl Try.underlying67 sz2 rfl rfl (by decide) (by decide) (by decide)) ?_
                refine O.p rfl rfl rfl (Pu.load rfl pl2 rfl (Ld.blk 0 rfl rfl)) ?_
                refine O.p rfl rfl rfl (Pu.indexArr 2 2 rfl Try.underlying67 sz2 rfl rfl (by decide) (by decide) (by decide)) ?_
                refine O.p rfl rfl rfl (Pu.load rfl pl2 rfl (Ld.blk 0 rfl rfl)) ?_
                refine O.e rfl rfl rfl (Ef.callP call131 rfl rfl (fun w hw => blockOf_ok  ((blocks[i]'e1).1) ((blocks[i]'e1).2.1) a w   )) ?_
                rintro _ _ ⟨rfl, rfl⟩
                refine O.e rfl rfl rfl (Ef.build B3C ([(bk3 ((blocks[i]'e1).1) ((blocks[i]'e1).2.1) a)] : List B3) rfl Try.underlying28 inf67 rfl rfl rfl (by first | decide | (simp; done)) (by kernel_rfl)) ?_
                rintro _ _ ⟨A51, hA51, rfl, rfl⟩
                refine O.e rfl rfl rfl (Ef.append (xs := out) (ys := ([(bk3 ((blocks[i]'e1).1) ((blocks[i]'e1).2.1) a)] : List B3)) 2 rfl Try.underlying28 inf67 rfl rfl rfl rfl rfl rfl hA51 (Ld.own 0 (by exact rfl)) (by simp only [List.length_append, List.length_cons, List.length_nil] at *; omega) (by decide)) ?_
                rintro _ _ ⟨A52, k26, rfl, rfl, hA52⟩
                replace hA52 := hA52 (.inr (by simp))
                refine O.p rfl rfl rfl (Pu.assign rfl rfl) ?_
                refine O.nil ?_
                refine X.blockNormal ?_
                refine X.next ?_
                refine V.region ?_
                refine O.p rfl rfl rfl (Pu.add64 (r := ((i + 1 : Nat) : Int)) rfl (by omega) rfl rfl rfl) ?_
                refine O.p rfl rfl rfl (Pu.move rfl rfl) ?_
                refine O.nil ?_
                exact X.back2 (A52, k26, (out ++ ([(bk3 ((blocks[i]'e1).1) ((blocks[i]'e1).2.1) a)] : List B3)), i + 1) (by (try dsimp only); exact ⟨by omega, by rw [take_snoc e1, List.map_append, ho]; refine congrArg _ (congrArg (· :: []) ?_); unfold exB sw2; (repeat' split) <;> first | (exfalso; omega) | rfl, by simp only [List.length_append, List.length_singleton]; omega⟩) (by first | omega | (dsimp only; omega)) (Ent.cons rfl (Ent.cons rfl (Ent.nil _))) (Ent.cons (t := 1) rfl (Ent.cons (t := 2) rfl (Ent.cons (t := 12) rfl (Ent.cons (t := 13) rfl (Ent.nil _))))) (Sub.keep 2 rfl (Sub.nil _))
              · skip
                refine V.skip ?_
                refine X.blockNormal ?_
                refine X.blockNormal ?_
                refine X.next ?_
                refine V.region ?_
                refine O.p rfl rfl rfl (Pu.add64 (r := 3) (by decide) (by decide) rfl rfl rfl) ?_
                refine O.p rfl rfl rfl (Pu.move rfl rfl) ?_
                refine O.nil ?_
                refine X.again 0 ?_
                refine V.seq ?_
                refine V.region ?_
                refine O.p rfl rfl rfl (Pu.isF (by decide) (Pu.lss rfl rfl rfl)) ?_
                refine O.nil ?_
                refine X.next ?_
                refine V.seq ?_
                refine V.condF rfl ?_
                refine V.exit ?_
                refine X.thenExit ?_
                refine X.thenExit ?_
                refine X.blockHit ?_
                refine X.next ?_
                refine V.region ?_
                refine O.p rfl rfl rfl (Pu.move rfl rfl) ?_
                refine O.p rfl rfl rfl (Pu.indexArr 0 0 rfl Try.underlying67 sz2 rfl rfl (by decide) (by decide) (by decide)) ?_
                refine O.p rfl rfl rfl (Pu.load rfl pl2 rfl (Ld.blk 0 rfl rfl)) ?_
                refine O.p rfl rfl rfl (Pu.indexArr 1 1 rfl Try.underlying67 sz2 rfl rfl (by decide) (by decide) (by decide)) ?_
                refine O.p rfl rfl rfl (Pu.load rfl pl2 rfl (Ld.blk 0 rfl rfl)) ?_
                refine O.p rfl rfl rfl (Pu.indexArr 2 2 rfl Try.underlying67 sz2 rfl rfl (by decide) (by decide) (by decide)) ?_
                refine O.p rfl rfl rfl (Pu.load rfl pl2 rfl (Ld.blk 0 rfl rfl)) ?_
                refine O.e rfl rfl rfl (Ef.callP call131 rfl rfl (fun w hw => blockOf_ok  ((blocks[i]'e1).1) ((blocks[i]'e1).2.1) ((blocks[i]'e1).2.2) w   )) ?_
                rintro _ _ ⟨rfl, rfl⟩
                refine O.e rfl rfl rfl (Ef.build B3C ([(bk3 ((blocks[i]'e1).1) ((blocks[i]'e1).2.1) ((blocks[i]'e1).2.2))] : List B3) rfl Try.underlying28 inf67 rfl rfl rfl (by first | decide | (simp; done)) (by kernel_rfl)) ?_
                rintro _ _ ⟨A53, hA53, rfl, rfl⟩
                refine O.e rfl rfl rfl (Ef.append (xs := out) (ys := ([(bk3 ((blocks[i]'e1).1) ((blocks[i]'e1).2.1) ((blocks[i]'e1).2.2))] : List B3)) 2 rfl Try.underlying28 inf67 rfl rfl rfl rfl rfl rfl hA53 (Ld.own 0 (by exact rfl)) (by simp only [List.length_append, List.length_cons, List.length_nil] at *; omega) (by decide)) ?_
                rintro _ _ ⟨A54, k27, rfl, rfl, hA54⟩
                replace hA54 := hA54 (.inr (by simp))
                refine O.p rfl rfl rfl (Pu.assign rfl rfl) ?_
                refine O.nil ?_
                refine X.blockNormal ?_
                refine X.next ?_
                refine V.region ?_
                refine O.p rfl rfl rfl (Pu.add64 (r := ((i + 1 : Nat) : Int)) rfl (by omega) rfl rfl rfl) ?_
                refine O.p rfl rfl rfl (Pu.move rfl rfl) ?_
                refine O.nil ?_
                exact X.back2 (A54, k27, (out ++ ([(bk3 ((blocks[i]'e1).1) ((blocks[i]'e1).2.1) ((blocks[i]'e1).2.2))] : List B3)), i + 1) (by (try dsimp only); exact ⟨by omega, by rw [take_snoc e1, List.map_append, ho]; refine congrArg _ (congrArg (· :: []) ?_); unfold exB sw2; (repeat' split) <;> first | (exfalso; omega) | rfl, by simp only [List.length_append, List.length_singleton]; omega⟩) (by first | omega | (dsimp only; omega)) (Ent.cons rfl (Ent.cons rfl (Ent.nil _))) (Ent.cons (t := 1) rfl (Ent.cons (t := 2) rfl (Ent.cons (t := 12) rfl (Ent.cons (t := 13) rfl (Ent.nil _))))) (Sub.keep 2 rfl (Sub.nil _))
  · skip
    refine V.exit ?_
    refine X.thenExit ?_
    refine X.thenExit ?_
    refine X.blockHit ?_
    refine X.next ?_
    refine V.seq ?_
    refine V.region ?_
    refine O.p rfl rfl rfl (Pu.move rfl rfl) ?_
    refine O.e rfl rfl rfl (Ef.call1 call132 rfl rfl (fun w hw => sorted_ok  out _ _ w ((Ld.own 0 (by exact rfl)) w hw) (by first | omega | (simp only [tops_len, conts_len, bl, List.length_append, List.length_cons, List.length_nil] at *; omega)) (by first | assumption | omega | (try dsimp only at *; omega)))) ?_
    rintro _ _ rfl
    refine O.exi (fun r1A => ?_)
    refine O.exi (fun r1c => ?_)
    refine O.exi (fun r1 => ?_)
    refine O.sep ?_
    refine O.pur ?_
    rintro ⟨rfl, hr1_1, hr1_2⟩
    refine O.p rfl rfl rfl (Pu.assign rfl rfl) ?_
    refine O.nil ?_
    refine X.next ?_
    refine V.ret ?_
    refine X.ret1 rfl rfl ?_
    exact fun w hw => St.mkExi r1A (St.mkExi r1c (St.mkExi r1 (St.unsep (St.addPur ⟨rfl, by rw [ho, List.take_of_length_le (by omega)] at hr1_1; exact hr1_1, hr1_2⟩ (hw.sub (Sub.keep 0 rfl (Sub.nil _)))))))
end Go.Proofs.Ytphgcnegmkafiaa
