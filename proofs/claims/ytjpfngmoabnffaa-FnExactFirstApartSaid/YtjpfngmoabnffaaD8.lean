/-
  The reference search, from the start.
-/
import Derived.Test.YtjpfngmoabnffaaD7
set_option linter.unusedVariables false
set_option linter.unusedSimpArgs false
namespace Go.Proofs.Ytjpfngmoabnffaa
open Go Go.RowKit Go.Vc Go.Proofs
theorem l04PairI_ok (a b : Int) (w : World) (ha : 0 ≤ a ∧ a < 16) (hb : 0 ≤ b ∧ b < 16) : Does Try.prog 204 [.int .i64 a, .int .i64 b] w [] (fun v => [.pur (v = .int .i64 ((prI a.toNat b.toNat : Nat) : Int))]) := by
  obtain ⟨x, rfl⟩ := Int.eq_ofNat_of_zero_le ha.1
  obtain ⟨y, rfl⟩ := Int.eq_ofNat_of_zero_le hb.1
  exact l04Pair_ok x y w (by omega) (by omega)

set_option maxRecDepth 100000 in
set_option maxHeartbeats 1000000 in
theorem l04Pairs_ok (v : Nat) (blocks : List B3) (blocksA : Option Addr) (blocksc : Nat) (w : World) (hblocks : Rd B3C w blocksA blocks) (lblocks : blocks.length ≤ 1099511627776) (hv : v ≤ 15) (hb : ∀ d ∈ blocks, inB v d) : Does Try.prog 151 [.slice blocksA blocks.length blocksc] w [] (fun rv_ => [.exi fun (rA : Option Addr) => .exi fun (rc : Nat) => .exi fun (r : List Bool) => .sep (.pur (rv_ = .slice rA r.length rc ∧ RelU v r (maskB 0 blocks))) (Own 4 BoolC rA rc r)]) := by
  refine Does.enter Try.func151 rfl rfl [(0, .slice blocksA blocks.length blocksc)] rfl ?_
  refine V.seq ?_
  refine V.region ?_
  refine O.p rfl rfl rfl (Pu.assign rfl rfl) ?_
  refine O.nil ?_
  refine X.next ?_
  refine V.seq ?_
  refine V.region ?_
  refine O.e rfl rfl rfl (Ef.make BoolC false rfl Try.underlying88 inf4 rfl rfl rfl rfl (by decide) (by decide)) ?_
  rintro _ _ ⟨A1, hA1, rfl, rfl⟩
  refine O.p rfl rfl rfl (Pu.assign rfl rfl) ?_
  refine O.nil ?_
  refine X.next ?_
  refine V.seq ?_
  refine V.seq ?_
  refine V.region ?_
  refine O.p rfl rfl rfl (Pu.assign rfl rfl) ?_
  refine O.nil ?_
  refine X.next ?_
  refine V.block ?_
  refine V.loop2 (β := Nat × (List Bool)) (fun x => [(4, .int .i64 (x.1 : Int))]) _ (fun x => [Own 4 BoolC A1 256 x.2]) (fun x => x.1 ≤ blocks.length ∧ RelU v x.2 (maskB 0 (blocks.take x.1))) (fun x => blocks.length - x.1) (0, (List.replicate (256) false)) (by (try dsimp only); exact ⟨by omega, relU_zero⟩) (Ent.cons rfl (Ent.nil _)) (Ent.cons (t := 0) rfl (Ent.cons (t := 3) rfl (Ent.nil _))) (Sub.keep 0 rfl (Sub.nil _)) ?_
  rintro ⟨i, z⟩ ⟨hi, hr⟩
  dsimp only at hi hr ⊢
  have hol := hr.1
  refine V.seq ?_
  refine V.seq ?_
  refine V.region ?_
  refine O.p rfl rfl rfl (Pu.move rfl rfl) ?_
  refine O.p rfl rfl rfl (Pu.move rfl rfl) ?_
  refine O.p rfl rfl rfl (Pu.len rfl Try.underlying28 rfl) ?_
  refine O.p rfl rfl rfl (Pu.lss rfl rfl rfl) ?_
  refine O.nil ?_
  refine X.next ?_
  refine V.condD rfl (fun c1 => ?_) (fun c1 => ?_)
  · skip
    refine V.skip ?_
    refine X.next ?_
    refine V.seq ?_
    refine V.block ?_
    refine V.seq ?_
    have ei : i < blocks.length := by omega
    have hin := hb (blocks[i]'ei) (List.getElem_mem ei)
    have hpt := inB_pts hin hv
    have hq1 := prI_lt (a := (blocks[i]'ei).1.toNat) (b := (blocks[i]'ei).2.1.toNat) (by omega) (by omega)
    have hq2 := prI_lt (a := (blocks[i]'ei).1.toNat) (b := (blocks[i]'ei).2.2.toNat) (by omega) (by omega)
    have hq3 := prI_lt (a := (blocks[i]'ei).2.1.toNat) (b := (blocks[i]'ei).2.2.toNat) (by omega) (by omega)
    refine V.draw mo (by kernel_rfl) (fun hwf => ?_)
    refine D.p 0 rfl rfl rfl rfl rfl rfl (Pu.move rfl rfl) ?_
    refine D.p 1 rfl rfl rfl rfl rfl rfl (Pu.move rfl rfl) ?_
    refine D.p 2 rfl rfl rfl rfl rfl rfl (Pu.move rfl rfl) ?_
    refine D.p 3 rfl rfl rfl rfl rfl rfl (Pu.indexAddr (i) rfl Try.underlying28 sz75 rfl rfl (by omega) (by omega) (hblocks.some (by omega))) ?_
    refine D.p 4 rfl rfl rfl rfl rfl rfl (Pu.indexArr' (0) rfl Try.underlying75 sz2 rfl rfl (by omega) (by omega) rfl (fun w hw => by have := Rd.some ((Ld.old hblocks) w hw) (by omega); simpa using this)) ?_
    refine D.p 5 rfl rfl rfl rfl rfl rfl (Pu.load rfl pl2 rfl (Ld.part (k := i) (j := 0) (Ld.old hblocks) ei rfl rfl)) ?_
    refine D.p 6 rfl rfl rfl rfl rfl rfl (Pu.move rfl rfl) ?_
    refine D.p 7 rfl rfl rfl rfl rfl rfl (Pu.move rfl rfl) ?_
    refine D.p 8 rfl rfl rfl rfl rfl rfl (Pu.indexAddr (i) rfl Try.underlying28 sz75 rfl rfl (by omega) (by omega) (hblocks.some (by omega))) ?_
    refine D.p 9 rfl rfl rfl rfl rfl rfl (Pu.indexArr' (1) rfl Try.underlying75 sz2 rfl rfl (by omega) (by omega) rfl (fun w hw => by have := Rd.some ((Ld.old hblocks) w hw) (by omega); simpa using this)) ?_
    refine D.p 10 rfl rfl rfl rfl rfl rfl (Pu.load rfl pl2 rfl (Ld.part (k := i) (j := 1) (Ld.old hblocks) ei rfl rfl)) ?_
    refine D.eff hwf (e := 11) rfl rfl rfl rfl (Ef.callP call204 rfl rfl (fun w hw => l04PairI_ok _ _ w (by omega) (by omega))) rfl rfl rfl ?_
    rintro _ _ ⟨rfl, rfl⟩ hs
    refine ⟨fun w hw => hw, ?_⟩
    refine D.p 12 rfl rfl rfl rfl rfl rfl (Pu.indexAddrS ((prI (((blocks[i]'ei).1)).toNat (((blocks[i]'ei).2.1)).toNat)) rfl Try.underlying88 sz4 rfl rfl (by omega) (by omega) (fun w hw => Own.some hw (i := 0) (by exact rfl) (by omega))) ?_
    refine D.effX (Hs' := []) hwf (e := 13) rfl rfl rfl rfl (Ef.storeOwn 0 ((prI (((blocks[i]'ei).1)).toNat (((blocks[i]'ei).2.1)).toNat)) true rfl sz4 rfl rfl rfl rfl (by omega) rfl) rfl [] rfl (List.forall_mem_nil _) ?_
    rintro _ _ rfl
    refine ⟨fun w hw => hw.sub (Sub.nil _), ?_⟩
    refine D.done hwf rfl ?_
    refine X.next ?_
    refine V.seq ?_
    have hs1 : (z.set (prI (blocks[i]'ei).1.toNat (blocks[i]'ei).2.1.toNat) true).length = 256 := by simp only [List.length_set]; omega
    refine V.draw mo (by kernel_rfl) (fun hwf => ?_)
    refine D.p 0 rfl rfl rfl rfl rfl rfl (Pu.move rfl rfl) ?_
    refine D.p 1 rfl rfl rfl rfl rfl rfl (Pu.move rfl rfl) ?_
    refine D.p 2 rfl rfl rfl rfl rfl rfl (Pu.move rfl rfl) ?_
    refine D.p 3 rfl rfl rfl rfl rfl rfl (Pu.indexAddr (i) rfl Try.underlying28 sz75 rfl rfl (by omega) (by omega) (hblocks.some (by omega))) ?_
    refine D.p 4 rfl rfl rfl rfl rfl rfl (Pu.indexArr' (0) rfl Try.underlying75 sz2 rfl rfl (by omega) (by omega) rfl (fun w hw => by have := Rd.some ((Ld.old hblocks) w hw) (by omega); simpa using this)) ?_
    refine D.p 5 rfl rfl rfl rfl rfl rfl (Pu.load rfl pl2 rfl (Ld.part (k := i) (j := 0) (Ld.old hblocks) ei rfl rfl)) ?_
    refine D.p 6 rfl rfl rfl rfl rfl rfl (Pu.move rfl rfl) ?_
    refine D.p 7 rfl rfl rfl rfl rfl rfl (Pu.move rfl rfl) ?_
    refine D.p 8 rfl rfl rfl rfl rfl rfl (Pu.indexAddr (i) rfl Try.underlying28 sz75 rfl rfl (by omega) (by omega) (hblocks.some (by omega))) ?_
    refine D.p 9 rfl rfl rfl rfl rfl rfl (Pu.indexArr' (2) rfl Try.underlying75 sz2 rfl rfl (by omega) (by omega) rfl (fun w hw => by have := Rd.some ((Ld.old hblocks) w hw) (by omega); simpa using this)) ?_
    refine D.p 10 rfl rfl rfl rfl rfl rfl (Pu.load rfl pl2 rfl (Ld.part (k := i) (j := 2) (Ld.old hblocks) ei rfl rfl)) ?_
    refine D.eff hwf (e := 11) rfl rfl rfl rfl (Ef.callP call204 rfl rfl (fun w hw => l04PairI_ok _ _ w (by omega) (by omega))) rfl rfl rfl ?_
    rintro _ _ ⟨rfl, rfl⟩ hs
    refine ⟨fun w hw => hw, ?_⟩
    refine D.p 12 rfl rfl rfl rfl rfl rfl (Pu.indexAddrS ((prI (((blocks[i]'ei).1)).toNat (((blocks[i]'ei).2.2)).toNat)) rfl Try.underlying88 sz4 rfl rfl (by omega) (by omega) (fun w hw => Own.some hw (i := 0) (by exact rfl) (by omega))) ?_
    refine D.effX (Hs' := []) hwf (e := 13) rfl rfl rfl rfl (Ef.storeOwn 0 ((prI (((blocks[i]'ei).1)).toNat (((blocks[i]'ei).2.2)).toNat)) true rfl sz4 rfl rfl rfl rfl (by omega) rfl) rfl [] rfl (List.forall_mem_nil _) ?_
    rintro _ _ rfl
    refine ⟨fun w hw => hw.sub (Sub.nil _), ?_⟩
    refine D.done hwf rfl ?_
    refine X.next ?_
    have hs2 : ((z.set (prI (blocks[i]'ei).1.toNat (blocks[i]'ei).2.1.toNat) true).set (prI (blocks[i]'ei).1.toNat (blocks[i]'ei).2.2.toNat) true).length = 256 := by simp only [List.length_set]; omega
    refine V.draw mo (by kernel_rfl) (fun hwf => ?_)
    refine D.p 0 rfl rfl rfl rfl rfl rfl (Pu.move rfl rfl) ?_
    refine D.p 1 rfl rfl rfl rfl rfl rfl (Pu.move rfl rfl) ?_
    refine D.p 2 rfl rfl rfl rfl rfl rfl (Pu.move rfl rfl) ?_
    refine D.p 3 rfl rfl rfl rfl rfl rfl (Pu.indexAddr (i) rfl Try.underlying28 sz75 rfl rfl (by omega) (by omega) (hblocks.some (by omega))) ?_
    refine D.p 4 rfl rfl rfl rfl rfl rfl (Pu.indexArr' (1) rfl Try.underlying75 sz2 rfl rfl (by omega) (by omega) rfl (fun w hw => by have := Rd.some ((Ld.old hblocks) w hw) (by omega); simpa using this)) ?_
    refine D.p 5 rfl rfl rfl rfl rfl rfl (Pu.load rfl pl2 rfl (Ld.part (k := i) (j := 1) (Ld.old hblocks) ei rfl rfl)) ?_
    refine D.p 6 rfl rfl rfl rfl rfl rfl (Pu.move rfl rfl) ?_
    refine D.p 7 rfl rfl rfl rfl rfl rfl (Pu.move rfl rfl) ?_
    refine D.p 8 rfl rfl rfl rfl rfl rfl (Pu.indexAddr (i) rfl Try.underlying28 sz75 rfl rfl (by omega) (by omega) (hblocks.some (by omega))) ?_
    refine D.p 9 rfl rfl rfl rfl rfl rfl (Pu.indexArr' (2) rfl Try.underlying75 sz2 rfl rfl (by omega) (by omega) rfl (fun w hw => by have := Rd.some ((Ld.old hblocks) w hw) (by omega); simpa using this)) ?_
    refine D.p 10 rfl rfl rfl rfl rfl rfl (Pu.load rfl pl2 rfl (Ld.part (k := i) (j := 2) (Ld.old hblocks) ei rfl rfl)) ?_
    refine D.eff hwf (e := 11) rfl rfl rfl rfl (Ef.callP call204 rfl rfl (fun w hw => l04PairI_ok _ _ w (by omega) (by omega))) rfl rfl rfl ?_
    rintro _ _ ⟨rfl, rfl⟩ hs
    refine ⟨fun w hw => hw, ?_⟩
    refine D.p 12 rfl rfl rfl rfl rfl rfl (Pu.indexAddrS ((prI (((blocks[i]'ei).2.1)).toNat (((blocks[i]'ei).2.2)).toNat)) rfl Try.underlying88 sz4 rfl rfl (by omega) (by omega) (fun w hw => Own.some hw (i := 0) (by exact rfl) (by omega))) ?_
    refine D.effX (Hs' := []) hwf (e := 13) rfl rfl rfl rfl (Ef.storeOwn 0 ((prI (((blocks[i]'ei).2.1)).toNat (((blocks[i]'ei).2.2)).toNat)) true rfl sz4 rfl rfl rfl rfl (by omega) rfl) rfl [] rfl (List.forall_mem_nil _) ?_
    rintro _ _ rfl
    refine ⟨fun w hw => hw.sub (Sub.nil _), ?_⟩
    refine D.done hwf rfl ?_
    refine X.blockNormal ?_
    refine X.next ?_
    refine V.region ?_
    refine O.p rfl rfl rfl (Pu.move rfl rfl) ?_
    refine O.p rfl rfl rfl (Pu.add64 (r := ((i + 1 : Nat) : Int)) rfl (by omega) rfl rfl rfl) ?_
    refine O.p rfl rfl rfl (Pu.assign rfl rfl) ?_
    refine O.nil ?_
    exact X.back2 (i + 1, (((z.set ((prI (((blocks[i]'ei).1)).toNat (((blocks[i]'ei).2.1)).toNat)) true).set ((prI (((blocks[i]'ei).1)).toNat (((blocks[i]'ei).2.2)).toNat)) true).set ((prI (((blocks[i]'ei).2.1)).toNat (((blocks[i]'ei).2.2)).toNat)) true)) (by (try dsimp only); exact ⟨by omega, by rw [take_snoc ei, maskB_snoc]; exact relU_putI hr hin hv⟩) (by first | omega | (dsimp only; omega)) (Ent.cons rfl (Ent.nil _)) (Ent.cons (t := 0) rfl (Ent.cons (t := 3) rfl (Ent.nil _))) (Sub.keep 0 rfl (Sub.nil _))
  · skip
    refine V.exit ?_
    refine X.thenExit ?_
    refine X.thenExit ?_
    refine X.blockHit ?_
    refine X.next ?_
    refine V.seq ?_
    refine V.region ?_
    refine O.p rfl rfl rfl (Pu.move rfl rfl) ?_
    refine O.p rfl rfl rfl (Pu.assign rfl rfl) ?_
    refine O.nil ?_
    refine X.next ?_
    refine V.ret ?_
    refine X.ret1 rfl rfl ?_
    exact fun w hw => St.mkExi A1 (St.mkExi 256 (St.mkExi z (St.unsep (St.addPur ⟨(by rw [hr.1]), by rw [List.take_of_length_le (by omega)] at hr; exact hr⟩ (hw.sub (Sub.keep 0 rfl (Sub.nil _)))))))

set_option maxRecDepth 100000 in
set_option maxHeartbeats 1000000 in
theorem l08Run_ok (n : Nat) (v : Nat) (bs : List B3) (most : Nat) (keep : Bool) (A : Option Addr) (c : Nat) (w : World) (hx : Rd B3C w A bs) (lx : bs.length ≤ 4611686018427387904) (hv : v ≤ 15) (hb : ∀ d ∈ bs, inB v d) (hn : leftN v (maskB 0 bs) ≤ n) (hm0 : 0 < most) (hmm : most ≤ 1000000000) (hM : (runC (fun j => decide (j < most)) 0 (leaf [] (compM n v (maskB 0 bs)))).length ≤ 1000000) (hxs : n ≤ 1000) (lbs : bs.length ≤ 1000) : Does Try.prog 84 [.agg #[.int .i64 (v : Int), .slice A bs.length c], .int .i64 (most : Int), .bool keep] w [] (fun r => [.exi fun (sb : Nat) => .sep (.pur (r = .pointer (some ⟨sb, 0, none⟩))) (SrchK 91 4 28 75 sb v most keep (maskB 0 bs) (runC (fun j => decide (j < most)) 0 (leaf [] (compM n v (maskB 0 bs)))))]) := by
  refine Does.enter Try.func84 rfl rfl [(0, .agg #[.int .i64 (v : Int), .slice A bs.length c]), (1, .int .i64 (most : Int)), (2, .bool keep)] rfl ?_
  refine V.seq ?_
  refine V.region ?_
  refine O.e rfl rfl rfl (Ef.box rfl rfl rfl) ?_
  rintro _ _ ⟨b1, rfl, rfl⟩
  refine O.p rfl rfl rfl (Pu.assign rfl rfl) ?_
  refine O.nil ?_
  refine X.next ?_
  refine V.seq ?_
  refine V.draw mo (by kernel_rfl) (fun hwf => ?_)
  refine D.p 0 rfl rfl rfl rfl rfl rfl (Pu.fieldAddr 0 rfl Try.underlying30 rfl sz2 rfl rfl) ?_
  refine D.p 1 rfl rfl rfl rfl rfl rfl (Pu.load rfl pl2 rfl (Ld.blk 0 rfl rfl)) ?_
  refine D.p 2 rfl rfl rfl rfl rfl rfl (Pu.fieldAddr 1 rfl Try.underlying30 rfl sz28 rfl rfl) ?_
  refine D.p 3 rfl rfl rfl rfl rfl rfl (Pu.load rfl pl28 rfl (Ld.blk 0 rfl rfl)) ?_
  refine D.p 5 rfl rfl rfl rfl rfl rfl (Pu.move rfl rfl) ?_
  refine D.p 6 rfl rfl rfl rfl rfl rfl (Pu.move rfl rfl) ?_
  refine D.twoBC hwf (e1 := 7) (e2 := 4) rfl rfl rfl rfl rfl rfl rfl rfl rfl rfl rfl rfl rfl rfl rfl rfl rfl (fun H hs => Ef.build SlC ([] : List Sl) rfl Try.underlying89 inf28 rfl rfl rfl (by first | decide | (simp; done)) (by kernel_rfl)) (fun H hs => Ef.call1 call151 rfl rfl (fun w hw => l04Pairs_ok v bs _ _ w ((Ld.old hx) w (hs w hw)) (by first | omega | (simp only [tops_len, conts_len, bl, List.length_append, List.length_cons, List.length_nil] at *; omega)) hv hb)) ?_
  rintro A1 _ hA1
  refine D.exi (fun r1A => ?_)
  refine D.exi (fun r1c => ?_)
  refine D.exi (fun r1 => ?_)
  refine D.sep ?_
  refine D.pur1 ?_
  rintro ⟨rfl, hr1_1⟩
  refine D.p 8 rfl rfl rfl rfl rfl rfl (Pu.buildS (cs := [.int .i64 (↑v : Int), .slice r1A r1.length r1c, .int .i64 (0 : Int), .int .i64 (↑most : Int), .bool keep, .slice A1 0 0]) rfl rfl Try.underlying91 zr91 (by kernel_rfl) rfl (by kernel_rfl)) ?_
  refine D.eff hwf (e := 9) rfl rfl rfl rfl (Ef.box rfl rfl rfl) rfl rfl rfl ?_
  rintro _ _ ⟨b2, rfl, rfl⟩ hs
  refine ⟨fun w hw => hw.sub (Sub.keep 3 rfl (Sub.nil _)), ?_⟩
  refine D.p 10 rfl rfl rfl rfl rfl rfl (Pu.assign rfl rfl) ?_
  refine D.done hwf rfl ?_
  refine X.next ?_
  refine V.seq ?_
  refine V.map (fun w hw => SrchK.mk (T := 91) (uT := 4) (fT := 28) (bT := 75) (v := v) (most := most) (keep := keep) (m := maskB 0 bs) (l := []) (ps := []) hr1_1 (by cases keep <;> rfl) (fun p hp => by simp at hp) ((RowsA.nil (T := 75) (C := B3C) hw).sub (Sub.keep 1 rfl (Sub.keep 1 rfl (Sub.keep 1 rfl (Sub.keep 0 rfl (Sub.keep 0 rfl (Sub.nil _)))))))) ?_
  refine V.region ?_
  refine O.p rfl rfl rfl (Pu.move rfl rfl) ?_
  refine O.e rfl rfl rfl (Ef.build B3C ([] : List B3) rfl Try.underlying28 inf75 rfl rfl rfl (by first | decide | (simp; done)) (by kernel_rfl)) ?_
  rintro _ _ ⟨A2, hA2, rfl, rfl⟩
  refine O.e rfl rfl rfl (Ef.call call152 rfl rfl (Does.pre (fun w hw => hw.sub (Sub.keep 1 rfl (Sub.keep 0 rfl (Sub.keep 0 rfl (Sub.nil _))))) (l08Go_ok n  b2 v most keep (maskB 0 bs) ([]) ([] : List B3) _ _ w _ (Ld.own 0 (by exact rfl)) (by first | omega | (simp only [tops_len, conts_len, bl, List.length_append, List.length_cons, List.length_nil] at *; omega)) hA2 hv hn hm0 hmm (by simpa using hM) (by simp only [List.length_nil]; omega)))) ?_
  rintro _ _ rfl
  refine O.sep ?_
  refine O.pur ?_
  rintro rfl
  refine O.nil ?_
  refine X.next ?_
  refine V.seq ?_
  refine V.region ?_
  refine O.p rfl rfl rfl (Pu.move rfl rfl) ?_
  refine O.p rfl rfl rfl (Pu.assign rfl rfl) ?_
  refine O.nil ?_
  refine X.next ?_
  refine V.ret ?_
  refine X.ret1 rfl rfl ?_
  exact fun w hw => St.mkExi b2 (St.unsep (St.addPur rfl (hw.sub (Sub.keep 0 rfl (Sub.nil _)))))
end Go.Proofs.Ytjpfngmoabnffaa
