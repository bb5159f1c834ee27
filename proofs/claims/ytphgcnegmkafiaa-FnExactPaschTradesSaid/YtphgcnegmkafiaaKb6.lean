/-
  Contracts, part 6.
-/
import Derived.Test.YtphgcnegmkafiaaKb5
set_option linter.unusedVariables false
set_option linter.unusedSimpArgs false
namespace Go.Proofs.Ytphgcnegmkafiaa
open Go Go.RowKit Go.Vc Go.Proofs
set_option maxRecDepth 100000 in
set_option maxHeartbeats 1000000 in
theorem paschTrade1_ok (c_ : B3) (p : Int) (b_0 : Nat) (w : World) (hb_0 : RdB w b_0 [.int .i64 p]) : Does Try.prog 112 [B3.v c_, .pointer (some ⟨b_0, 0, none⟩)] w [] (fun r => [.pur (r = .bool (decide (has c_ p)))]) := by
  refine Does.enter Try.func112 rfl rfl [(0, B3.v c_), (1, .pointer (some ⟨b_0, 0, none⟩))] rfl ?_
  refine V.seq ?_
  refine V.region ?_
  refine O.e rfl rfl rfl (Ef.box rfl rfl rfl) ?_
  rintro _ _ ⟨b1, rfl, rfl⟩
  refine O.p rfl rfl rfl (Pu.assign rfl rfl) ?_
  refine O.nil ?_
  refine X.next ?_
  refine V.seq ?_
  refine V.region ?_
  refine O.p rfl rfl rfl (Pu.loadAgg' (v := B3.v c_) rfl rfl ag67 sz67 rfl rfl (Ld.whole 0 rfl)) ?_
  refine O.p rfl rfl rfl (Pu.load rfl pl2 rfl (Ld.rdb hb_0 rfl)) ?_
  refine O.e rfl rfl rfl (Ef.callP call113 rfl rfl (fun w hw => has_ok c_ _ w)) ?_
  rintro _ _ ⟨rfl, rfl⟩
  refine O.p rfl rfl rfl (Pu.assign rfl rfl) ?_
  refine O.nil ?_
  refine X.next ?_
  refine V.ret ?_
  refine X.ret1 rfl rfl ?_
  exact fun w hw => St.retP (boolD (Iff.rfl)) hw
set_option maxRecDepth 100000 in
set_option maxHeartbeats 1000000 in
theorem paschTrade2_ok (c_ : B3) (p : Int) (b_0 : Nat) (a : Int) (b_1 : Nat) (w : World) (hb_0 : RdB w b_0 [.int .i64 p]) (hb_1 : RdB w b_1 [.int .i64 a]) : Does Try.prog 114 [B3.v c_, .pointer (some ⟨b_0, 0, none⟩), .pointer (some ⟨b_1, 0, none⟩)] w [] (fun r => [.pur (r = .bool (decide (has c_ p ∧ has c_ a)))]) := by
  refine Does.enter Try.func114 rfl rfl [(0, B3.v c_), (1, .pointer (some ⟨b_0, 0, none⟩)), (2, .pointer (some ⟨b_1, 0, none⟩))] rfl ?_
  refine V.seq ?_
  refine V.region ?_
  refine O.e rfl rfl rfl (Ef.box rfl rfl rfl) ?_
  rintro _ _ ⟨b1, rfl, rfl⟩
  refine O.p rfl rfl rfl (Pu.assign rfl rfl) ?_
  refine O.nil ?_
  refine X.next ?_
  refine V.seq ?_
  refine V.region ?_
  refine O.p rfl rfl rfl (Pu.loadAgg' (v := B3.v c_) rfl rfl ag67 sz67 rfl rfl (Ld.whole 0 rfl)) ?_
  refine O.p rfl rfl rfl (Pu.load rfl pl2 rfl (Ld.rdb hb_0 rfl)) ?_
  refine O.e rfl rfl rfl (Ef.callP call113 rfl rfl (fun w hw => has_ok c_ _ w)) ?_
  rintro _ _ ⟨rfl, rfl⟩
  refine O.p rfl rfl rfl (Pu.move rfl rfl) ?_
  refine O.splitD 8 rfl (fun c1 => ?_) (fun c1 => ?_)
  · skip
    refine O.gp rfl rfl rfl rfl rfl (Pu.loadAgg' (v := B3.v c_) rfl rfl ag67 sz67 rfl rfl (Ld.whole 0 rfl)) ?_
    refine O.gp rfl rfl rfl rfl rfl (Pu.load rfl pl2 rfl (Ld.rdb hb_1 rfl)) ?_
    refine O.ge rfl rfl rfl rfl rfl (Ef.callP call113 rfl rfl (fun w hw => has_ok c_ _ w)) ?_
    rintro _ _ ⟨rfl, rfl⟩
    refine O.p rfl rfl rfl (Pu.pickT rfl rfl rfl) ?_
    refine O.p rfl rfl rfl (Pu.assign rfl rfl) ?_
    refine O.nil ?_
    refine X.next ?_
    refine V.ret ?_
    refine X.ret1 rfl rfl ?_
    exact fun w hw => St.retP (boolD (⟨fun h => ⟨c1, h⟩, fun h => h.2⟩)) hw
  · skip
    refine O.gs rfl rfl rfl rfl rfl rfl ?_
    refine O.gs rfl rfl rfl rfl rfl rfl ?_
    refine O.gs rfl rfl rfl rfl rfl rfl ?_
    refine O.p rfl rfl rfl (Pu.pickF rfl rfl rfl) ?_
    refine O.p rfl rfl rfl (Pu.assign rfl rfl) ?_
    refine O.nil ?_
    refine X.next ?_
    refine V.ret ?_
    refine X.ret1 rfl rfl ?_
    exact fun w hw => St.retP (boolF (fun h => c1 h.1)) hw
set_option maxRecDepth 100000 in
set_option maxHeartbeats 1000000 in
theorem paschTrade_ok (v : Int) (bs : List B3) (numbers : List Int) (A : Option Addr) (c : Nat) (numbersA : Option Addr) (numbersc : Nat) (w : World) (hx : Rd B3C w A bs) (hnumbers : Rd I64 w numbersA numbers) (lx : bs.length ≤ 4611686018427387904) (lnumbers : numbers.length ≤ 1099511627776) (hS : STS v bs) (hq : PQ bs numbers) : Does Try.prog 79 [.agg #[.int .i64 v, .slice A bs.length c], .slice numbersA numbers.length numbersc] w [] (fun r => [.exi fun (oA : Option Addr) => .exi fun (oc : Nat) => .exi fun (o : List B3) => .exi fun (iA : Option Addr) => .exi fun (ic : Nat) => .exi fun (i : List B3) => .sep (.pur (r = .agg #[.int .i64 v, .slice oA o.length oc, .slice iA i.length ic] ∧ o = numbers.map (blk bs) ∧ (i.Perm (o.map (exB (ptA o) (ptB v.toNat o))) ∧ SrtB i))) (.sep (Own 67 B3C oA oc o) (Own 67 B3C iA ic i))]) := by
  refine Does.enter Try.func79 rfl rfl [(0, .agg #[.int .i64 v, .slice A bs.length c]), (1, .slice numbersA numbers.length numbersc)] rfl ?_
  have hlo := hS.lo
  have hhi := hS.hi
  have hfew := hS.few
  have h4 := hq.four
  refine V.seq ?_
  refine V.region ?_
  refine O.e rfl rfl rfl (Ef.box rfl rfl rfl) ?_
  rintro _ _ ⟨b1, rfl, rfl⟩
  refine O.e rfl rfl rfl (Ef.alloc rfl zr74 rfl) ?_
  rintro _ _ ⟨b2, rfl, rfl⟩
  refine O.nil ?_
  refine X.next ?_
  refine V.seq ?_
  refine V.region ?_
  refine O.p rfl rfl rfl (Pu.fieldAddr 0 rfl Try.underlying30 rfl sz2 rfl rfl) ?_
  refine O.p rfl rfl rfl (Pu.load rfl pl2 rfl (Ld.blk 1 rfl rfl)) ?_
  refine O.p rfl rfl rfl (Pu.buildS (cs := [.int .i64 v, .slice none 0 0, .slice none 0 0]) rfl rfl Try.underlying74 zr74 (by kernel_rfl) rfl (by kernel_rfl)) ?_
  refine O.e rfl rfl rfl (Ef.alloc rfl zr74 rfl) ?_
  rintro _ _ ⟨b3, rfl, rfl⟩
  refine O.s rfl rfl (Ef.storeAll 0 rfl sz74 rfl rfl rfl rfl (by simp [Value.oneCell']) rfl) ?_
  rintro _ _ rfl
  refine O.nil ?_
  refine X.next ?_
  refine V.seq ?_
  refine V.seq ?_
  refine V.region ?_
  refine O.p rfl rfl rfl (Pu.move rfl rfl) ?_
  refine O.p rfl rfl rfl (Pu.len rfl Try.underlying54 rfl) ?_
  refine O.p rfl rfl rfl (Pu.move rfl rfl) ?_
  refine O.nil ?_
  refine X.next ?_
  refine V.block ?_
  refine V.map (fun w hw => St.addNil (T := 67) (C := B3C) hw) ?_
  refine V.loop3 (β := Nat × (Option Addr) × Nat × (List B3)) (fun x => [(17, .int .i64 (x.1 : Int))]) _ (fun x => [Blk b3 [.int .i64 v, .slice x.2.1 x.2.2.2.length x.2.2.1, .slice none 0 0] 74, Own 67 B3C x.2.1 x.2.2.1 x.2.2.2]) _ (fun x => x.1 ≤ numbers.length ∧ x.2.2.2 = (numbers.take x.1).map (blk bs)) (fun x => numbers.length - x.1) (0, none, 0, []) (by (try dsimp only); exact ⟨by omega, rfl⟩) (Ent.cons rfl (Ent.nil _)) (Ent.cons (t := 2) rfl (Ent.cons (t := 4) rfl (Ent.cons (t := 5) rfl (Ent.cons (t := 15) rfl (Ent.cons (t := 16) rfl (Ent.nil _)))))) (Sub.keep 1 rfl (Sub.keep 0 rfl (Sub.keep 0 rfl (Sub.keep 0 rfl (Sub.nil _))))) ?_
  rintro ⟨k, outA, outc, out⟩ ⟨hk, ho⟩
  dsimp only at hk ho ⊢
  have hol : out.length = k := by rw [ho, List.length_map, List.length_take]; omega
  refine V.seq ?_
  refine V.region ?_
  refine O.p rfl rfl rfl (Pu.lss rfl rfl rfl) ?_
  refine O.nil ?_
  refine X.next ?_
  refine V.seq ?_
  refine V.condD rfl (fun c1 => ?_) (fun c1 => ?_)
  · skip
    refine V.skip ?_
    refine X.next ?_
    refine V.seq ?_
    refine V.block ?_
    refine V.seq ?_
    refine V.region ?_
    refine O.p rfl rfl rfl (Pu.indexAddr (k) rfl Try.underlying54 sz2 rfl rfl (by omega) (by omega) (hnumbers.some (by omega))) ?_
    have e1 : k < numbers.length := by omega
    refine O.p rfl rfl rfl (Pu.load rfl pl2 rfl (Ld.rd (Ld.old hnumbers) (k := k) e1 rfl rfl)) ?_
    refine O.p rfl rfl rfl (Pu.assign rfl rfl) ?_
    refine O.nil ?_
    refine X.next ?_
    have e1 : k < numbers.length := by omega
    have hix := hq.ix _ (List.getElem_mem e1)
    have hix2 := hix
    unfold okIx at hix2
    refine V.drawS mo (by kernel_rfl) (Sub.keep 0 rfl (Sub.keep 1 rfl (Sub.keep 1 rfl (Sub.nil _)))) (fun hwf => ?_)
    refine D.p 0 rfl rfl rfl rfl rfl rfl (Pu.fieldAddr 1 rfl Try.underlying74 rfl sz28 rfl rfl) ?_
    refine D.p 1 rfl rfl rfl rfl rfl rfl (Pu.load rfl pl28 rfl (Ld.blk 0 rfl rfl)) ?_
    refine D.p 2 rfl rfl rfl rfl rfl rfl (Pu.fieldAddr 1 rfl Try.underlying30 rfl sz28 rfl rfl) ?_
    refine D.p 3 rfl rfl rfl rfl rfl rfl (Pu.load rfl pl28 rfl (Ld.blk 2 rfl rfl)) ?_
    refine D.p 4 rfl rfl rfl rfl rfl rfl (Pu.move rfl rfl) ?_
    refine D.p 5 rfl rfl rfl rfl rfl rfl (Pu.indexAddr (((numbers[k]'e1)).toNat) rfl Try.underlying28 sz67 rfl rfl (by omega) (by omega) (hx.some (by omega))) ?_
    have e2 : ((numbers[k]'e1)).toNat < bs.length := by omega
    refine D.p 6 rfl rfl rfl rfl rfl rfl (Pu.loadAgg' (v := B3.v (bs[((numbers[k]'e1)).toNat]'e2)) rfl rfl ag67 sz67 rfl rfl (Ld.rds (Ld.old hx) (k := ((numbers[k]'e1)).toNat) e2 rfl)) ?_
    refine D.p 9 rfl rfl rfl rfl rfl rfl (Pu.fieldAddr 1 rfl Try.underlying74 rfl sz28 rfl rfl) ?_
    refine D.eff hwf (e := 7) rfl rfl rfl rfl (Ef.build B3C ([(bs[((numbers[k]'e1)).toNat]'e2)] : List B3) rfl Try.underlying28 inf67 rfl rfl rfl (by first | decide | (simp; done)) (by kernel_rfl)) rfl rfl rfl ?_
    rintro _ _ ⟨A1, hA1, rfl, rfl⟩ hs
    refine ⟨fun w hw => hw.sub (Sub.keep 1 rfl (Sub.keep 2 rfl (Sub.keep 2 rfl (Sub.nil _)))), ?_⟩
    refine D.eff hwf (e := 8) rfl rfl rfl rfl (Ef.append (xs := out) (ys := ([(bs[((numbers[k]'e1)).toNat]'e2)] : List B3)) 2 rfl Try.underlying28 inf67 rfl rfl rfl rfl rfl rfl hA1 (Ld.own 0 (by exact rfl)) (by simp only [List.length_append, List.length_cons, List.length_nil] at *; omega) (by decide)) rfl rfl rfl ?_
    rintro _ _ ⟨A2, k1, rfl, rfl, hA2⟩ hs
    replace hA2 := hA2 (.inr (by simp))
    refine ⟨fun w hw => hw.sub (Sub.keep 1 rfl (Sub.keep 2 rfl (Sub.keep 2 rfl (Sub.nil _)))), ?_⟩
    refine D.effX (Hs' := []) hwf (e := 10) rfl rfl rfl rfl (Ef.store1 (cs' := [_, _, _]) 1 rfl sz28 rfl rfl rfl rfl rfl (ltb rfl) rfl) rfl [] rfl (List.forall_mem_nil _) ?_
    rintro _ _ rfl
    refine ⟨fun w hw => hw.sub (Sub.nil _), ?_⟩
    refine D.done hwf rfl ?_
    refine X.blockNormal ?_
    refine X.next ?_
    refine V.region ?_
    refine O.p rfl rfl rfl (Pu.add64 (r := ((k + 1 : Nat) : Int)) rfl (by omega) rfl rfl rfl) ?_
    refine O.p rfl rfl rfl (Pu.move rfl rfl) ?_
    refine O.nil ?_
    exact X.back3 (k + 1, A2, k1, (out ++ ([(bs[((numbers[k]'e1)).toNat]'e2)] : List B3))) (by (try dsimp only); exact ⟨by omega, by rw [take_snoc e1, List.map_append, ho]; simp only [List.map_cons, List.map_nil]; rw [blk_ix hix]⟩) (by first | omega | (dsimp only; omega)) (Ent.cons rfl (Ent.nil _)) (Ent.cons (t := 2) rfl (Ent.cons (t := 4) rfl (Ent.cons (t := 5) rfl (Ent.cons (t := 15) rfl (Ent.cons (t := 16) rfl (Ent.nil _)))))) (Sub.keep 1 rfl (Sub.keep 1 rfl (Sub.keep 1 rfl (Sub.keep 1 rfl (Sub.nil _)))))
  · skip
    refine V.exit ?_
    refine X.thenExit ?_
    refine X.thenExit ?_
    refine X.blockHit ?_
    refine X.next ?_
    refine V.seq ?_
    have ho4 : out = numbers.map (blk bs) := by rw [ho, List.take_of_length_le (by omega)]
    have hl4 : out.length = 4 := by rw [ho4, List.length_map]; exact h4
    have e0 : 0 < out.length := by omega
    have hpa : ptA out = (out[0]'e0).1 := by unfold ptA; rw [first_headD e0 (d := (0, 0, 0))]
    refine V.region ?_
    refine O.p rfl rfl rfl (Pu.fieldAddr 1 rfl Try.underlying74 rfl sz28 rfl rfl) ?_
    refine O.p rfl rfl rfl (Pu.load rfl pl28 rfl (Ld.blk 0 rfl rfl)) ?_
    refine O.p rfl rfl rfl (Pu.indexAddrS (0) rfl Try.underlying28 sz67 rfl rfl (by omega) (by omega) (fun w hw => Own.some hw (i := 1) (by exact rfl) (by omega))) ?_
    refine O.p rfl rfl rfl (Pu.indexArr' (0) rfl Try.underlying67 sz2 rfl rfl (by omega) (by omega) rfl (fun w hw => by have := Own.some hw (i := 1) (by exact rfl) (by omega); simpa using this)) ?_
    refine O.p rfl rfl rfl (Pu.load rfl pl2 rfl (Ld.part (k := 0) (j := 0) (Ld.own 1 (by exact rfl)) e0 rfl rfl)) ?_
    refine O.e rfl rfl rfl (Ef.alloc rfl zr2 rfl) ?_
    rintro _ _ ⟨b4, rfl, rfl⟩
    refine O.s rfl rfl (Ef.store1 (cs' := [_]) 0 rfl sz2 rfl rfl rfl rfl rfl (ltb rfl) rfl) ?_
    rintro _ _ rfl
    refine O.nil ?_
    refine X.next ?_
    refine V.seq ?_
    refine V.region ?_
    refine O.p rfl rfl rfl (Pu.assign rfl rfl) ?_
    refine O.nil ?_
    refine X.next ?_
    refine V.seq ?_
    refine V.seq ?_
    refine V.region ?_
    refine O.p rfl rfl rfl (Pu.fieldAddr 0 rfl Try.underlying30 rfl sz2 rfl rfl) ?_
    refine O.p rfl rfl rfl (Pu.load rfl pl2 rfl (Ld.blk 4 rfl rfl)) ?_
    refine O.p rfl rfl rfl (Pu.move rfl rfl) ?_
    refine O.nil ?_
    refine X.next ?_
    refine V.block ?_
    refine V.loop3 (β := Int × Nat) (fun x => [(9, .int .i64 (x.1 : Int)), (39, .int .i64 (x.2 : Int))]) _ (fun x => []) _ (fun x => x.2 ≤ v.toNat ∧ x.1 = lastP (PtC out) x.2) (fun x => v.toNat - x.2) ((-1 : Int), 0) (by (try dsimp only); exact ⟨by omega, rfl⟩) (Ent.cons rfl (Ent.cons rfl (Ent.nil _))) (Ent.cons (t := 4) rfl (Ent.cons (t := 5) rfl (Ent.cons (t := 8) rfl (Ent.cons (t := 38) rfl (Ent.nil _))))) (Sub.keep 0 rfl (Sub.keep 0 rfl (Sub.keep 0 rfl (Sub.keep 0 rfl (Sub.keep 0 rfl (Sub.nil _)))))) ?_
    rintro ⟨b, p⟩ ⟨hp, hb⟩
    dsimp only at hp hb ⊢
    refine V.seq ?_
    refine V.region ?_
    refine O.p rfl rfl rfl (Pu.lss rfl rfl rfl) ?_
    refine O.nil ?_
    refine X.next ?_
    refine V.seq ?_
    refine V.condD rfl (fun c2 => ?_) (fun c2 => ?_)
    · skip
      refine V.skip ?_
      refine X.next ?_
      refine V.seq ?_
      refine V.block ?_
      refine V.seq ?_
      refine V.region ?_
      refine O.p rfl rfl rfl (Pu.move rfl rfl) ?_
      refine O.e rfl rfl rfl (Ef.alloc rfl zr2 rfl) ?_
      rintro _ _ ⟨b5, rfl, rfl⟩
      refine O.s rfl rfl (Ef.store1 (cs' := [_]) 0 rfl sz2 rfl rfl rfl rfl rfl (ltb rfl) rfl) ?_
      rintro _ _ rfl
      refine O.nil ?_
      refine X.next ?_
      refine V.seq ?_
      refine V.region ?_
      refine O.p rfl rfl rfl (Pu.fieldAddr 1 rfl Try.underlying74 rfl sz28 rfl rfl) ?_
      refine O.p rfl rfl rfl (Pu.load rfl pl28 rfl (Ld.blk 2 rfl rfl)) ?_
      refine O.p rfl rfl rfl (Pu.makeFunc rfl rfl) ?_
      refine O.e rfl rfl rfl (Ef.callP call111 rfl rfl (fun w hw => containsFuncB_ok (fun b => has b (p : Int)) 112 _ out _ _ w call112 ((Ld.own 3 (by exact rfl)) w hw) (by omega) (fun k hk w' hb => paschTrade1_ok _ (p : Int) _ w' ((Blk.rdb hw (i := 0) rfl).below hb)))) ?_
      rintro _ _ ⟨rfl, rfl⟩
      refine O.p rfl rfl rfl (Pu.assign rfl rfl) ?_
      refine O.nil ?_
      refine X.next ?_
      refine V.seq ?_
      refine V.region ?_
      refine O.p rfl rfl rfl (Pu.load rfl pl2 rfl (Ld.blk 0 rfl rfl)) ?_
      refine O.p rfl rfl rfl (Pu.load rfl pl2 rfl (Ld.blk 1 rfl rfl)) ?_
      refine O.p rfl rfl rfl (Pu.neq rfl rfl rfl) ?_
      refine O.p rfl rfl rfl (Pu.move rfl rfl) ?_
      refine O.splitN 49 rfl (fun c3 => ?_) (fun c3 => ?_)
      · skip
        refine O.gp rfl rfl rfl rfl rfl (Pu.move rfl rfl) ?_
        refine O.p rfl rfl rfl (Pu.pickT rfl rfl rfl) ?_
        refine O.p rfl rfl rfl (Pu.move rfl rfl) ?_
        refine O.splitD 52 rfl (fun c4 => ?_) (fun c4 => ?_)
        · skip
          refine O.gp rfl rfl rfl rfl rfl (Pu.fieldAddr 1 rfl Try.underlying74 rfl sz28 rfl rfl) ?_
          refine O.gp rfl rfl rfl rfl rfl (Pu.load rfl pl28 rfl (Ld.blk 2 rfl rfl)) ?_
          refine O.gp rfl rfl rfl rfl rfl (Pu.makeFunc rfl rfl) ?_
          refine O.ge rfl rfl rfl rfl rfl (Ef.callP call111 rfl rfl (fun w hw => containsFuncB_ok (fun b => has b (p : Int) ∧ has b (out[0]'e0).1) 114 _ out _ _ w call114 ((Ld.own 3 (by exact rfl)) w hw) (by omega) (fun k hk w' hb => paschTrade2_ok _ (p : Int) _ (out[0]'e0).1 _ w' ((Blk.rdb hw (i := 0) rfl).below hb) ((Blk.rdb hw (i := 1) rfl).below hb)))) ?_
          rintro _ _ ⟨rfl, rfl⟩
          refine O.gp rfl rfl rfl rfl rfl (Pu.not rfl rfl) ?_
          refine O.p rfl rfl rfl (Pu.pickT rfl rfl rfl) ?_
          refine O.nil ?_
          refine X.next ?_
          refine V.condNot rfl (fun c5 => ?_) (fun c5 => ?_)
          · skip
            refine V.region ?_
            refine O.p rfl rfl rfl (Pu.load rfl pl2 rfl (Ld.blk 0 rfl rfl)) ?_
            refine O.p rfl rfl rfl (Pu.assign rfl rfl) ?_
            refine O.nil ?_
            refine X.blockNormal ?_
            refine X.next ?_
            refine V.region ?_
            refine O.p rfl rfl rfl (Pu.add64 (r := ((p + 1 : Nat) : Int)) rfl (by omega) rfl rfl rfl) ?_
            refine O.p rfl rfl rfl (Pu.move rfl rfl) ?_
            refine O.nil ?_
            exact X.back3 ((↑p : Int), p + 1) (by (try dsimp only); exact ⟨by omega, by rw [lastP_yes (C := PtC out) ⟨by rw [hpa]; exact c3, c4, by rw [hpa]; exact c5⟩]⟩) (by first | omega | (dsimp only; omega)) (Ent.cons rfl (Ent.cons rfl (Ent.nil _))) (Ent.cons (t := 4) rfl (Ent.cons (t := 5) rfl (Ent.cons (t := 8) rfl (Ent.cons (t := 38) rfl (Ent.nil _))))) (Sub.keep 1 rfl (Sub.keep 1 rfl (Sub.keep 1 rfl (Sub.keep 1 rfl (Sub.keep 1 rfl (Sub.nil _))))))
          · skip
            refine V.skip ?_
            refine X.blockNormal ?_
            refine X.next ?_
            refine V.region ?_
            refine O.p rfl rfl rfl (Pu.add64 (r := ((p + 1 : Nat) : Int)) rfl (by omega) rfl rfl rfl) ?_
            refine O.p rfl rfl rfl (Pu.move rfl rfl) ?_
            refine O.nil ?_
            exact X.back3 (b, p + 1) (by (try dsimp only); exact ⟨by omega, by rw [lastP_no (C := PtC out) (fun h => (by have h2 := h.2.2; rw [hpa] at h2; exact h2 c5))]; exact hb⟩) (by first | omega | (dsimp only; omega)) (Ent.cons rfl (Ent.cons rfl (Ent.nil _))) (Ent.cons (t := 4) rfl (Ent.cons (t := 5) rfl (Ent.cons (t := 8) rfl (Ent.cons (t := 38) rfl (Ent.nil _))))) (Sub.keep 1 rfl (Sub.keep 1 rfl (Sub.keep 1 rfl (Sub.keep 1 rfl (Sub.keep 1 rfl (Sub.nil _))))))
        · skip
          refine O.gs rfl rfl rfl rfl rfl rfl ?_
          refine O.gs rfl rfl rfl rfl rfl rfl ?_
          refine O.gs rfl rfl rfl rfl rfl rfl ?_
          refine O.gs rfl rfl rfl rfl rfl rfl ?_
          refine O.gs rfl rfl rfl rfl rfl rfl ?_
          refine O.p rfl rfl rfl (Pu.pickF rfl rfl rfl) ?_
          refine O.nil ?_
          refine X.next ?_
          refine V.condF rfl ?_
          refine V.skip ?_
          refine X.blockNormal ?_
          refine X.next ?_
          refine V.region ?_
          refine O.p rfl rfl rfl (Pu.add64 (r := ((p + 1 : Nat) : Int)) rfl (by omega) rfl rfl rfl) ?_
          refine O.p rfl rfl rfl (Pu.move rfl rfl) ?_
          refine O.nil ?_
          exact X.back3 (b, p + 1) (by (try dsimp only); exact ⟨by omega, by rw [lastP_no (C := PtC out) (fun h => c4 h.2.1)]; exact hb⟩) (by first | omega | (dsimp only; omega)) (Ent.cons rfl (Ent.cons rfl (Ent.nil _))) (Ent.cons (t := 4) rfl (Ent.cons (t := 5) rfl (Ent.cons (t := 8) rfl (Ent.cons (t := 38) rfl (Ent.nil _))))) (Sub.keep 1 rfl (Sub.keep 1 rfl (Sub.keep 1 rfl (Sub.keep 1 rfl (Sub.keep 1 rfl (Sub.nil _))))))
      · skip
        refine O.gs rfl rfl rfl rfl rfl rfl ?_
        refine O.p rfl rfl rfl (Pu.pickF rfl rfl rfl) ?_
        refine O.p rfl rfl rfl (Pu.move rfl rfl) ?_
        refine O.gs rfl rfl rfl rfl rfl rfl ?_
        refine O.gs rfl rfl rfl rfl rfl rfl ?_
        refine O.gs rfl rfl rfl rfl rfl rfl ?_
        refine O.gs rfl rfl rfl rfl rfl rfl ?_
        refine O.gs rfl rfl rfl rfl rfl rfl ?_
        refine O.p rfl rfl rfl (Pu.pickF rfl rfl rfl) ?_
        refine O.nil ?_
        refine X.next ?_
        refine V.condF rfl ?_
        refine V.skip ?_
        refine X.blockNormal ?_
        refine X.next ?_
        refine V.region ?_
        refine O.p rfl rfl rfl (Pu.add64 (r := ((p + 1 : Nat) : Int)) rfl (by omega) rfl rfl rfl) ?_
        refine O.p rfl rfl rfl (Pu.move rfl rfl) ?_
        refine O.nil ?_
        exact X.back3 (b, p + 1) (by (try dsimp only); exact ⟨by omega, by rw [lastP_no (C := PtC out) (fun h => h.1 (by rw [hpa]; exact c3))]; exact hb⟩) (by first | omega | (dsimp only; omega)) (Ent.cons rfl (Ent.cons rfl (Ent.nil _))) (Ent.cons (t := 4) rfl (Ent.cons (t := 5) rfl (Ent.cons (t := 8) rfl (Ent.cons (t := 38) rfl (Ent.nil _))))) (Sub.keep 1 rfl (Sub.keep 1 rfl (Sub.keep 1 rfl (Sub.keep 1 rfl (Sub.keep 1 rfl (Sub.nil _))))))
    · skip
      refine V.exit ?_
      refine X.thenExit ?_
      refine X.thenExit ?_
      refine X.blockHit ?_
      refine X.next ?_
      refine V.seq ?_
      refine V.region ?_
      refine O.p rfl rfl rfl (Pu.fieldAddr 1 rfl Try.underlying74 rfl sz28 rfl rfl) ?_
      refine O.p rfl rfl rfl (Pu.load rfl pl28 rfl (Ld.blk 1 rfl rfl)) ?_
      refine O.p rfl rfl rfl (Pu.load rfl pl2 rfl (Ld.blk 0 rfl rfl)) ?_
      refine O.p rfl rfl rfl (Pu.move rfl rfl) ?_
      refine O.e rfl rfl rfl (Ef.call1 call115 rfl rfl (fun w hw => exchangedT_ok  out ((out[0]'e0).1) b _ _ w ((Ld.own 2 (by exact rfl)) w hw) (by first | omega | (simp only [tops_len, conts_len, bl, List.length_append, List.length_cons, List.length_nil] at *; omega)) (by omega))) ?_
      rintro _ _ rfl
      refine O.exi (fun r1A => ?_)
      refine O.exi (fun r1c => ?_)
      refine O.exi (fun r1 => ?_)
      refine O.sep ?_
      refine O.pur ?_
      rintro ⟨rfl, hr1_1, hr1_2⟩
      refine O.p rfl rfl rfl (Pu.fieldAddr 2 rfl Try.underlying74 rfl sz28 rfl rfl) ?_
      refine O.s rfl rfl (Ef.store1 (cs' := [_, _, _]) 2 rfl sz28 rfl rfl rfl rfl rfl (ltb rfl) rfl) ?_
      rintro _ _ rfl
      refine O.nil ?_
      refine X.next ?_
      refine V.seq ?_
      refine V.region ?_
      refine O.p rfl rfl rfl (Pu.loadAgg rfl ag74 sz74 rfl rfl (Ld.whole 2 rfl)) ?_
      refine O.s rfl rfl (Ef.storeAll 4 rfl sz74 rfl rfl rfl rfl (by simp [Value.oneCell']) rfl) ?_
      rintro _ _ rfl
      refine O.nil ?_
      refine X.next ?_
      refine V.ret ?_
      refine X.retCell rfl ag74 sz74 rfl rfl (Ld.whole 4 rfl) ?_
      exact fun w hw => St.mkExi outA (St.mkExi outc (St.mkExi out (St.mkExi r1A (St.mkExi r1c (St.mkExi r1 (St.unsep (St.addPur ⟨rfl, ho4, by rw [hpa]; unfold ptB; rw [show v.toNat = p by omega, ← hb]; exact ⟨hr1_1, hr1_2⟩⟩ (St.unsep (hw.sub (Sub.keep 3 rfl (Sub.keep 0 rfl (Sub.nil _))))))))))))
set_option maxRecDepth 100000 in
set_option maxHeartbeats 1000000 in
theorem paschTrades_ok (v : Int) (bs : List B3) (A : Option Addr) (c : Nat) (w : World) (hx : Rd B3C w A bs) (lx : bs.length ≤ 4611686018427387904) (hS : STS v bs) : Does Try.prog 45 [.agg #[.int .i64 v, .slice A bs.length c]] w [] (fun rv_ => [.exi fun (rA : Option Addr) => .exi fun (rc : Nat) => .exi fun (r : TrL) => .sep (.pur (rv_ = .slice rA (topT r).length rc ∧ (∃ ls, IsList (PQ bs) ls ∧ contT r = ls.map (trQ v bs)) ∧ r.length ≤ 1500625)) (.sep (Own 74 (TrC v) rA rc (topT r)) (TrsA 67 r))]) := by
  refine Does.enter Try.func45 rfl rfl [(0, .agg #[.int .i64 v, .slice A bs.length c])] rfl ?_
  refine V.seq ?_
  refine V.region ?_
  refine O.e rfl rfl rfl (Ef.box rfl rfl rfl) ?_
  rintro _ _ ⟨b1, rfl, rfl⟩
  refine O.p rfl rfl rfl (Pu.assign rfl rfl) ?_
  refine O.nil ?_
  refine X.next ?_
  refine V.seq ?_
  refine V.region ?_
  refine O.p rfl rfl rfl (Pu.assign rfl rfl) ?_
  refine O.nil ?_
  refine X.next ?_
  refine V.seq ?_
  refine V.seq ?_
  refine V.region ?_
  refine O.p rfl rfl rfl (Pu.loadAgg rfl ag30 sz30 rfl rfl (Ld.whole 0 rfl)) ?_
  refine O.e rfl rfl rfl (Ef.call1 call78 rfl rfl (fun w hw => paschs_ok  v bs _ _ w ((Ld.old hx) w hw) (by first | omega | (simp only [tops_len, conts_len, bl, List.length_append, List.length_cons, List.length_nil] at *; omega)) (by first | assumption | omega | (try dsimp only at *; omega)))) ?_
  rintro _ _ rfl
  refine O.exi (fun p1A => ?_)
  refine O.exi (fun p1c => ?_)
  refine O.exi (fun p1 => ?_)
  refine O.sep ?_
  refine O.pur ?_
  rintro ⟨rfl, hp1_1, hp1_2⟩
  refine O.sep ?_
  refine O.fact (RowsA.len 1 rfl) (fun hn_p1 => ?_)
  have htl_p1 := tops_len p1
  refine O.p rfl rfl rfl (Pu.len rfl Try.underlying45 rfl) ?_
  refine O.p rfl rfl rfl (Pu.move rfl rfl) ?_
  refine O.nil ?_
  refine X.next ?_
  refine V.block ?_
  refine V.map (fun w hw => St.addNil (T := 74) (C := TrC v) (TrsA.nil (T := 67) hw)) ?_
  refine V.loop3 (β := (Option Addr) × Nat × TrL × Nat) (fun x => [(3, .slice x.1 (topT x.2.2.1).length x.2.1), (9, .int .i64 (x.2.2.2 : Int))]) _ (fun x => [Own 74 (TrC v) x.1 x.2.1 (topT x.2.2.1), TrsA 67 x.2.2.1]) _ (fun x => x.2.2.2 ≤ p1.length ∧ contT x.2.2.1 = ((conts p1).take x.2.2.2).map (trQ v bs)) (fun x => p1.length - x.2.2.2) (none, 0, [], 0) (by (try dsimp only); exact ⟨by omega, rfl⟩) (Ent.cons rfl (Ent.cons rfl (Ent.nil _))) (Ent.cons (t := 1) rfl (Ent.cons (t := 7) rfl (Ent.cons (t := 8) rfl (Ent.nil _)))) (Sub.keep 0 rfl (Sub.keep 0 rfl (Sub.keep 0 rfl (Sub.keep 0 rfl (Sub.keep 0 rfl (Sub.nil _)))))) ?_
  rintro ⟨outA, outc, out, i⟩ ⟨hi, ho⟩
  dsimp only at hi ho ⊢
  have hcl := conts_len p1
  have htl := topT_len out
  have hcl2 := contT_len out
  have hol := congrArg List.length ho
  rw [List.length_map, List.length_take] at hol
  refine V.seq ?_
  refine V.region ?_
  refine O.p rfl rfl rfl (Pu.lss rfl rfl rfl) ?_
  refine O.nil ?_
  refine X.next ?_
  refine V.seq ?_
  refine V.condD rfl (fun c1 => ?_) (fun c1 => ?_)
  · skip
    refine V.skip ?_
    refine X.next ?_
    refine V.seq ?_
    refine V.block ?_
    refine V.seq ?_
    refine V.region ?_
    refine O.p rfl rfl rfl (Pu.indexAddrS (i) rfl Try.underlying45 sz54 rfl rfl (by omega) (by omega) (fun w hw => Own.some hw (i := 2) (by exact rfl) (by omega))) ?_
    have e1 : i < p1.length := by have := tops_len p1; omega
    refine O.p rfl rfl rfl (Pu.load rfl pl54 rfl (Ld.row (Ld.own 2 (by exact rfl)) hn_p1 e1 rfl)) ?_
    refine O.p rfl rfl rfl (Pu.assign rfl rfl) ?_
    refine O.nil ?_
    refine X.next ?_
    have e1 : i < p1.length := by omega
    have hmm : (p1[i]'e1).2 ∈ conts p1 := List.mem_map_of_mem (List.getElem_mem e1)
    have hq : PQ bs (p1[i]'e1).2 := (hp1_1.2 _).1 hmm
    refine V.region ?_
    refine O.p rfl rfl rfl (Pu.move rfl rfl) ?_
    refine O.p rfl rfl rfl (Pu.loadAgg rfl ag30 sz30 rfl rfl (Ld.whole 4 rfl)) ?_
    refine O.p rfl rfl rfl (Pu.move rfl rfl) ?_
    refine O.e rfl rfl rfl (Ef.call1 call79 rfl rfl (fun w hw => paschTrade_ok  v bs ((p1[i]'e1).2) _ _ _ _ w ((Ld.old hx) w hw) ((Ld.rows 3 (by exact rfl) e1) w hw) (by first | omega | (simp only [tops_len, conts_len, bl, List.length_append, List.length_cons, List.length_nil] at *; omega)) (by have := hq.four; omega) hS hq)) ?_
    rintro _ _ rfl
    refine O.exi (fun o1A => ?_)
    refine O.exi (fun o1c => ?_)
    refine O.exi (fun o1 => ?_)
    refine O.exi (fun i1A => ?_)
    refine O.exi (fun i1c => ?_)
    refine O.exi (fun i1 => ?_)
    refine O.sep ?_
    refine O.pur ?_
    rintro ⟨rfl, ho1_1, ho1_2⟩
    refine O.sep ?_
    refine O.e rfl rfl rfl (Ef.build (TrC v) ([(⟨o1A, o1.length, o1c⟩, ⟨i1A, i1.length, i1c⟩)] : List (Sl × Sl)) rfl Try.underlying40 inf74 rfl rfl rfl (by first | decide | (simp; done)) (by kernel_rfl)) ?_
    rintro _ _ ⟨A1, hA1, rfl, rfl⟩
    refine O.e rfl rfl rfl (Ef.append (xs := (topT out)) (ys := ([(⟨o1A, o1.length, o1c⟩, ⟨i1A, i1.length, i1c⟩)] : List (Sl × Sl))) 3 rfl Try.underlying40 inf74 rfl rfl rfl rfl rfl rfl hA1 (Ld.own 0 (by exact rfl)) (by simp only [List.length_append, List.length_cons, List.length_nil] at *; omega) (by decide)) ?_
    rintro _ _ ⟨A2, k1, rfl, rfl, hA2⟩
    replace hA2 := hA2 (.inr (by simp))
    refine O.p rfl rfl rfl (Pu.assign rfl rfl) ?_
    refine O.nil ?_
    refine X.blockNormal ?_
    refine X.next ?_
    refine V.region ?_
    refine O.p rfl rfl rfl (Pu.add64 (r := ((i + 1 : Nat) : Int)) rfl (by omega) rfl rfl rfl) ?_
    refine O.p rfl rfl rfl (Pu.move rfl rfl) ?_
    refine O.nil ?_
    refine X.map (fun w hw => trs_snoc (ts := out) (hw.sub (Sub.keep 3 rfl (Sub.keep 3 rfl (Sub.keep 1 rfl (Sub.keep 1 rfl (Sub.keep 0 rfl (Sub.keep 0 rfl (Sub.keep 0 rfl (Sub.keep 0 rfl (Sub.nil _))))))))))) ?_
    exact X.back3 (A2, k1, (out ++ [((⟨o1A, o1.length, o1c⟩, o1), (⟨i1A, i1.length, i1c⟩, i1))]), i + 1) (by (try dsimp only); exact ⟨by omega, by rw [contT_append, ho, take_snoc (by rw [conts_len]; exact e1), List.map_append]; refine congrArg _ ?_; show [(o1, i1)] = [trQ v bs _]; rw [conts_get]; unfold trQ; rw [← insT_eq (n := v.toNat) (by rw [← ho1_1]; exact ho1_2), ho1_1]⟩) (by first | omega | (dsimp only; omega)) (Ent.cons' rfl (by first | rfl | (simp only [topT_append]; done) | (simp only [topT_append]; rfl)) (Ent.cons rfl (Ent.nil _))) (Ent.cons (t := 1) rfl (Ent.cons (t := 7) rfl (Ent.cons (t := 8) rfl (Ent.nil _)))) (Sub.keep 0 rfl (Sub.keep 0 rfl (Sub.keep 1 rfl (Sub.keep 1 rfl (Sub.keep 1 rfl (Sub.nil _))))))
  · skip
    refine V.exit ?_
    refine X.thenExit ?_
    refine X.thenExit ?_
    refine X.blockHit ?_
    refine X.next ?_
    refine V.seq ?_
    refine V.region ?_
    refine O.p rfl rfl rfl (Pu.move rfl rfl) ?_
    refine O.p rfl rfl rfl (Pu.assign rfl rfl) ?_
    refine O.nil ?_
    refine X.next ?_
    refine V.ret ?_
    refine X.ret1 rfl rfl ?_
    exact fun w hw => St.mkExi outA (St.mkExi outc (St.mkExi out (St.unsep (St.addPur ⟨(by first | rfl | (simp only [tops_append]; done) | (simp only [tops_append]; rfl)), ⟨conts p1, hp1_1, by rw [ho, List.take_of_length_le (by omega)]⟩, by omega⟩ (St.unsep (hw.sub (Sub.keep 0 rfl (Sub.keep 0 rfl (Sub.nil _)))))))))
set_option maxRecDepth 100000 in
set_option maxHeartbeats 1000000 in
theorem implPaschTrades_ok (v : Int) (bs : List B3) (A : Option Addr) (c : Nat) (w : World) (hx : Rd B3C w A bs) (lx : bs.length ≤ 4611686018427387904) : Does Try.prog 19 [.agg #[.int .i64 v, .slice A bs.length c]] w [] (fun rv_ => [.exi fun (rA : Option Addr) => .exi fun (rc : Nat) => .exi fun (r : TrL) => .sep (.pur (rv_ = .tuple #[.slice rA (topT r).length rc, .int .i64 (if STS v bs then 0 else 1)] ∧ TRL v bs (contT r) ∧ r.length ≤ 1500625)) (.sep (Own 74 (TrC v) rA rc (topT r)) (TrsA 67 r))]) := by
  refine Does.enter Try.func19 rfl rfl [(0, .agg #[.int .i64 v, .slice A bs.length c])] rfl ?_
  refine V.seq ?_
  refine V.region ?_
  refine O.e rfl rfl rfl (Ef.box rfl rfl rfl) ?_
  rintro _ _ ⟨b1, rfl, rfl⟩
  refine O.p rfl rfl rfl (Pu.assign rfl rfl) ?_
  refine O.p rfl rfl rfl (Pu.assign rfl rfl) ?_
  refine O.nil ?_
  refine X.next ?_
  refine V.seq ?_
  refine V.seq ?_
  refine V.region ?_
  refine O.p rfl rfl rfl (Pu.loadAgg rfl ag30 sz30 rfl rfl (Ld.whole 0 rfl)) ?_
  refine O.e rfl rfl rfl (Ef.callP call44 rfl rfl (fun w hw => IsSystem_ok _ bs _ _ w ((Ld.old hx) w hw) (by omega))) ?_
  rintro _ _ ⟨rfl, rfl⟩
  refine O.p rfl rfl rfl (Pu.not rfl rfl) ?_
  refine O.nil ?_
  refine X.next ?_
  refine V.condNot rfl (fun c1 => ?_) (fun c1 => ?_)
  · skip
    refine V.seq ?_
    refine V.region ?_
    refine O.p rfl rfl rfl (Pu.assign rfl rfl) ?_
    refine O.p rfl rfl rfl (Pu.assign rfl rfl) ?_
    refine O.nil ?_
    refine X.next ?_
    refine V.ret ?_
    refine X.thenRet ?_
    refine X.ret2 rfl rfl rfl ?_
    exact fun w hw => St.mkExi none (St.mkExi 0 (St.mkExi [] (St.unsep (St.addPur ⟨(by rw [if_neg c1]; rfl), ⟨fun h => absurd h c1, fun _ => rfl⟩, by simp⟩ (St.unsep (St.addNil (T := 74) (C := TrC v) (TrsA.nil (T := 67) (hw.sub (Sub.nil _)))))))))
  · skip
    refine V.skip ?_
    refine X.next ?_
    refine V.seq ?_
    refine V.region ?_
    refine O.p rfl rfl rfl (Pu.loadAgg rfl ag30 sz30 rfl rfl (Ld.whole 0 rfl)) ?_
    refine O.e rfl rfl rfl (Ef.call1 call45 rfl rfl (fun w hw => paschTrades_ok  v bs _ _ w ((Ld.old hx) w hw) (by first | omega | (simp only [tops_len, conts_len, bl, List.length_append, List.length_cons, List.length_nil] at *; omega)) (by first | assumption | omega | (try dsimp only at *; omega)))) ?_
    rintro _ _ rfl
    refine O.exi (fun r1A => ?_)
    refine O.exi (fun r1c => ?_)
    refine O.exi (fun r1 => ?_)
    refine O.sep ?_
    refine O.pur ?_
    rintro ⟨rfl, hr1_1, hr1_2⟩
    refine O.sep ?_
    refine O.p rfl rfl rfl (Pu.assign rfl rfl) ?_
    refine O.p rfl rfl rfl (Pu.assign rfl rfl) ?_
    refine O.nil ?_
    refine X.next ?_
    refine V.ret ?_
    refine X.ret2 rfl rfl rfl ?_
    exact fun w hw => St.mkExi r1A (St.mkExi r1c (St.mkExi r1 (St.unsep (St.addPur ⟨(by rw [if_pos c1]), ⟨fun _ => hr1_1, fun h => absurd c1 h⟩, hr1_2⟩ (St.unsep (hw.sub (Sub.keep 0 rfl (Sub.keep 0 rfl (Sub.nil _)))))))))
set_option maxRecDepth 100000 in
set_option maxHeartbeats 1000000 in
theorem l04MadeT_ok (v_ : Int) (out : List B3) (in_ : List B3) (outA : Option Addr) (outc : Nat) (in_A : Option Addr) (in_c : Nat) (w : World) (hout : Rd B3C w outA out) (hin_ : Rd B3C w in_A in_) (lout : out.length ≤ 1099511627776) (lin_ : in_.length ≤ 1099511627776) (lo : out.length ≤ 1000) (li : in_.length ≤ 1000) : Does Try.prog 76 [.int .i64 v_, .slice outA out.length outc, .slice in_A in_.length in_c] w [] (fun r => [.exi fun (oA : Option Addr) => .exi fun (oc : Nat) => .exi fun (o : List B3) => .exi fun (iA : Option Addr) => .exi fun (ic : Nat) => .exi fun (i : List B3) => .sep (.pur (r = .agg #[.int .i64 v_, .slice oA o.length oc, .slice iA i.length ic] ∧ (o.Perm out ∧ SrtB o) ∧ (i.Perm in_ ∧ SrtB i))) (.sep (Own 67 B3C oA oc o) (Own 67 B3C iA ic i))]) := by
  refine Does.enter Try.func76 rfl rfl [(0, .int .i64 v_), (1, .slice outA out.length outc), (2, .slice in_A in_.length in_c)] rfl ?_
  refine V.seq ?_
  refine V.region ?_
  refine O.e rfl rfl rfl (Ef.alloc rfl zr74 rfl) ?_
  rintro _ _ ⟨b1, rfl, rfl⟩
  refine O.nil ?_
  refine X.next ?_
  refine V.seq ?_
  refine V.region ?_
  refine O.p rfl rfl rfl (Pu.move rfl rfl) ?_
  refine O.p rfl rfl rfl (Pu.move rfl rfl) ?_
  refine O.e rfl rfl rfl (Ef.call1 call104 rfl rfl (fun w hw => l01Sort_ok  out _ _ w ((Ld.old hout) w hw) (by first | omega | (simp only [tops_len, conts_len, bl, List.length_append, List.length_cons, List.length_nil] at *; omega)) (by first | assumption | omega | (try dsimp only at *; omega)))) ?_
  rintro _ _ rfl
  refine O.exi (fun r1A => ?_)
  refine O.exi (fun r1c => ?_)
  refine O.exi (fun r1 => ?_)
  refine O.sep ?_
  refine O.pur ?_
  rintro ⟨rfl, hr1_1, hr1_2⟩
  refine O.p rfl rfl rfl (Pu.move rfl rfl) ?_
  refine O.e rfl rfl rfl (Ef.call1 call104 rfl rfl (fun w hw => l01Sort_ok  in_ _ _ w ((Ld.old hin_) w hw) (by first | omega | (simp only [tops_len, conts_len, bl, List.length_append, List.length_cons, List.length_nil] at *; omega)) (by first | assumption | omega | (try dsimp only at *; omega)))) ?_
  rintro _ _ rfl
  refine O.exi (fun r2A => ?_)
  refine O.exi (fun r2c => ?_)
  refine O.exi (fun r2 => ?_)
  refine O.sep ?_
  refine O.pur ?_
  rintro ⟨rfl, hr2_1, hr2_2⟩
  refine O.p rfl rfl rfl (Pu.buildS (cs := [.int .i64 v_, .slice r1A r1.length r1c, .slice r2A r2.length r2c]) rfl rfl Try.underlying74 zr74 (by kernel_rfl) rfl (by kernel_rfl)) ?_
  refine O.s rfl rfl (Ef.storeAll 2 rfl sz74 rfl rfl rfl rfl (by simp [Value.oneCell']) rfl) ?_
  rintro _ _ rfl
  refine O.nil ?_
  refine X.next ?_
  refine V.ret ?_
  refine X.retCell rfl ag74 sz74 rfl rfl (Ld.whole 2 rfl) ?_
  exact fun w hw => St.mkExi r1A (St.mkExi r1c (St.mkExi r1 (St.mkExi r2A (St.mkExi r2c (St.mkExi r2 (St.unsep (St.addPur ⟨rfl, ⟨hr1_1, hr1_2⟩, ⟨hr2_1, hr2_2⟩⟩ (St.unsep (hw.sub (Sub.keep 1 rfl (Sub.keep 0 rfl (Sub.nil _))))))))))))
set_option maxRecDepth 100000 in
set_option maxHeartbeats 1000000 in
theorem l04ExchangedT_ok (b : B3) (p : Int) (q : Int) (w : World) (hb : 0 ≤ b.1 ∧ b.1 ≤ 15 ∧ 0 ≤ b.2.1 ∧ b.2.1 ≤ 15 ∧ 0 ≤ b.2.2 ∧ b.2.2 ≤ 15) (hp : 0 ≤ p ∧ p ≤ 15) (hq : 0 ≤ q ∧ q ≤ 15) : Does Try.prog 75 [B3.v b, .int .i64 p, .int .i64 q] w [] (fun r => [.pur (r = B3.v (exB p q b))]) := by
  refine Does.enter Try.func75 rfl rfl [(0, B3.v b), (1, .int .i64 p), (2, .int .i64 q)] rfl ?_
  refine V.seq ?_
  refine V.region ?_
  refine O.e rfl rfl rfl (Ef.box rfl rfl rfl) ?_
  rintro _ _ ⟨b1, rfl, rfl⟩
  refine O.e rfl rfl rfl (Ef.alloc rfl zr67 rfl) ?_
  rintro _ _ ⟨b2, rfl, rfl⟩
  refine O.nil ?_
  refine X.next ?_
  refine V.seq ?_
  refine V.region ?_
  refine O.p rfl rfl rfl (Pu.indexArr 0 0 rfl Try.underlying67 sz2 rfl rfl (by decide) (by decide) (by decide)) ?_
  refine O.p rfl rfl rfl (Pu.load rfl pl2 rfl (Ld.blk 1 rfl rfl)) ?_
  refine O.p rfl rfl rfl (Pu.indexArr 1 1 rfl Try.underlying67 sz2 rfl rfl (by decide) (by decide) (by decide)) ?_
  refine O.p rfl rfl rfl (Pu.load rfl pl2 rfl (Ld.blk 1 rfl rfl)) ?_
  refine O.p rfl rfl rfl (Pu.indexArr 2 2 rfl Try.underlying67 sz2 rfl rfl (by decide) (by decide) (by decide)) ?_
  refine O.p rfl rfl rfl (Pu.load rfl pl2 rfl (Ld.blk 1 rfl rfl)) ?_
  refine O.e rfl rfl rfl (Ef.build I64 ([b.1, b.2.1, b.2.2] : List Int) rfl Try.underlying54 inf2 rfl rfl rfl (by first | decide | (simp; done)) (by kernel_rfl)) ?_
  rintro _ _ ⟨A1, hA1, rfl, rfl⟩
  refine O.p rfl rfl rfl (Pu.assign rfl rfl) ?_
  refine O.nil ?_
  refine X.next ?_
  refine V.seq ?_
  refine V.seq ?_
  refine V.region ?_
  refine O.p rfl rfl rfl (Pu.assign rfl rfl) ?_
  refine O.nil ?_
  refine X.next ?_
  refine V.block ?_
  refine V.loop3 (β := Nat × (List Int)) (fun x => [(8, .int .i64 (x.1 : Int))]) _ (fun x => [Own 2 I64 A1 3 x.2]) _ (fun x => x.1 ≤ 3 ∧ x.2 = exS p q (bl b) x.1) (fun x => 3 - x.1) (0, ([b.1, b.2.1, b.2.2] : List Int)) (by (try dsimp only); exact ⟨by omega, exS_zero.symm⟩) (Ent.cons rfl (Ent.nil _)) (Ent.cons (t := 1) rfl (Ent.cons (t := 2) rfl (Ent.cons (t := 6) rfl (Ent.cons (t := 7) rfl (Ent.nil _))))) (Sub.keep 0 rfl (Sub.keep 0 rfl (Sub.keep 0 rfl (Sub.nil _)))) ?_
  rintro ⟨i, z⟩ ⟨hi, hz⟩
  dsimp only at hi hz ⊢
  have hzl0 : z.length = 3 := by rw [hz]; exact exS_len (show i ≤ (bl b).length from hi)
  have hbl3 : ([b.1, b.2.1, b.2.2] : List Int).length = 3 := rfl
  refine V.seq ?_
  refine V.seq ?_
  refine V.region ?_
  refine O.p rfl rfl rfl (Pu.move rfl rfl) ?_
  refine O.p rfl rfl rfl (Pu.lss rfl rfl rfl) ?_
  refine O.nil ?_
  refine X.next ?_
  refine V.condD rfl (fun c1 => ?_) (fun c1 => ?_)
  · skip
    refine V.skip ?_
    refine X.next ?_
    refine V.seq ?_
    refine V.block ?_
    refine V.seq ?_
    have hb3 : (bl b).length = 3 := rfl
    have eb : i < (bl b).length := by omega
    have hzl : z.length = 3 := by rw [hz]; exact (exS_len (by omega)).trans hb3
    have ez : i < z.length := by omega
    have hzi : z[i]'ez = ((bl b)[i]'eb) := (List.getElem_of_eq hz ez).trans (exS_at eb _)
    refine V.region ?_
    refine O.p rfl rfl rfl (Pu.move rfl rfl) ?_
    refine O.p rfl rfl rfl (Pu.move rfl rfl) ?_
    refine O.p rfl rfl rfl (Pu.indexAddrS (i) rfl Try.underlying54 sz2 rfl rfl (by omega) (by omega) (fun w hw => Own.some hw (i := 0) (by exact rfl) (by omega))) ?_
    refine O.p rfl rfl rfl (Pu.load rfl pl2 rfl (Ld.rd (Ld.own 0 (by exact rfl)) (k := i) ez rfl rfl)) ?_
    refine O.p rfl rfl rfl (Pu.move rfl rfl) ?_
    refine O.p rfl rfl rfl (Pu.eql rfl rfl rfl) ?_
    refine O.nil ?_
    refine X.next ?_
    refine V.condD rfl (fun c2 => ?_) (fun c2 => ?_)
    · skip
      refine V.region ?_
      refine O.p rfl rfl rfl (Pu.move rfl rfl) ?_
      refine O.p rfl rfl rfl (Pu.move rfl rfl) ?_
      refine O.p rfl rfl rfl (Pu.move rfl rfl) ?_
      refine O.p rfl rfl rfl (Pu.indexAddrS (i) rfl Try.underlying54 sz2 rfl rfl (by omega) (by omega) (fun w hw => Own.some hw (i := 0) (by exact rfl) (by omega))) ?_
      refine O.s rfl rfl (Ef.storeOwn 0 (i) q rfl sz2 rfl rfl rfl rfl (by omega) rfl) ?_
      rintro _ _ rfl
      refine O.nil ?_
      refine X.blockNormal ?_
      refine X.next ?_
      refine V.region ?_
      refine O.p rfl rfl rfl (Pu.move rfl rfl) ?_
      refine O.p rfl rfl rfl (Pu.add64 (r := ((i + 1 : Nat) : Int)) rfl (by omega) rfl rfl rfl) ?_
      refine O.p rfl rfl rfl (Pu.assign rfl rfl) ?_
      refine O.nil ?_
      exact X.back3 (i + 1, (z.set (i) q)) (by (try dsimp only); exact ⟨by omega, by rw [hz, ← exS_set eb]; congr 1; exact (show sw2 p q ((bl b)[i]'eb) = _ from (by unfold sw2; rw [if_pos (hzi.symm.trans c2)])).symm⟩) (by first | omega | (dsimp only; omega)) (Ent.cons rfl (Ent.nil _)) (Ent.cons (t := 1) rfl (Ent.cons (t := 2) rfl (Ent.cons (t := 6) rfl (Ent.cons (t := 7) rfl (Ent.nil _))))) (Sub.keep 0 rfl (Sub.keep 0 rfl (Sub.keep 0 rfl (Sub.nil _))))
    · skip
      refine V.seq ?_
      refine V.region ?_
      refine O.p rfl rfl rfl (Pu.move rfl rfl) ?_
      refine O.p rfl rfl rfl (Pu.move rfl rfl) ?_
      refine O.p rfl rfl rfl (Pu.indexAddrS (i) rfl Try.underlying54 sz2 rfl rfl (by omega) (by omega) (fun w hw => Own.some hw (i := 0) (by exact rfl) (by omega))) ?_
      refine O.p rfl rfl rfl (Pu.load rfl pl2 rfl (Ld.rd (Ld.own 0 (by exact rfl)) (k := i) ez rfl rfl)) ?_
      refine O.p rfl rfl rfl (Pu.move rfl rfl) ?_
      refine O.p rfl rfl rfl (Pu.eql rfl rfl rfl) ?_
      refine O.nil ?_
      refine X.next ?_
      refine V.condD rfl (fun c3 => ?_) (fun c3 => ?_)
      · skip
        refine V.region ?_
        refine O.p rfl rfl rfl (Pu.move rfl rfl) ?_
        refine O.p rfl rfl rfl (Pu.move rfl rfl) ?_
        refine O.p rfl rfl rfl (Pu.move rfl rfl) ?_
        refine O.p rfl rfl rfl (Pu.indexAddrS (i) rfl Try.underlying54 sz2 rfl rfl (by omega) (by omega) (fun w hw => Own.some hw (i := 0) (by exact rfl) (by omega))) ?_
        refine O.s rfl rfl (Ef.storeOwn 0 (i) p rfl sz2 rfl rfl rfl rfl (by omega) rfl) ?_
        rintro _ _ rfl
        refine O.nil ?_
        refine X.blockNormal ?_
        refine X.next ?_
        refine V.region ?_
        refine O.p rfl rfl rfl (Pu.move rfl rfl) ?_
        refine O.p rfl rfl rfl (Pu.add64 (r := ((i + 1 : Nat) : Int)) rfl (by omega) rfl rfl rfl) ?_
        refine O.p rfl rfl rfl (Pu.assign rfl rfl) ?_
        refine O.nil ?_
        exact X.back3 (i + 1, (z.set (i) p)) (by (try dsimp only); exact ⟨by omega, by rw [hz, ← exS_set eb]; congr 1; exact (show sw2 p q ((bl b)[i]'eb) = _ from (by unfold sw2; rw [if_neg (fun h => c2 (hzi.trans h)), if_pos (hzi.symm.trans c3)])).symm⟩) (by first | omega | (dsimp only; omega)) (Ent.cons rfl (Ent.nil _)) (Ent.cons (t := 1) rfl (Ent.cons (t := 2) rfl (Ent.cons (t := 6) rfl (Ent.cons (t := 7) rfl (Ent.nil _))))) (Sub.keep 0 rfl (Sub.keep 0 rfl (Sub.keep 0 rfl (Sub.nil _))))
      · skip
        refine V.skip ?_
        refine X.blockNormal ?_
        refine X.next ?_
        refine V.region ?_
        refine O.p rfl rfl rfl (Pu.move rfl rfl) ?_
        refine O.p rfl rfl rfl (Pu.add64 (r := ((i + 1 : Nat) : Int)) rfl (by omega) rfl rfl rfl) ?_
        refine O.p rfl rfl rfl (Pu.assign rfl rfl) ?_
        refine O.nil ?_
        exact X.back3 (i + 1, z) (by (try dsimp only); exact ⟨by omega, by rw [← exS_set eb, ← hz, show sw2 p q ((bl b)[i]'eb) = ((bl b)[i]'eb) from (by unfold sw2; rw [if_neg (fun h => c2 (hzi.trans h)), if_neg (fun h => c3 (hzi.trans h))]), ← hzi, List.set_getElem_self]⟩) (by first | omega | (dsimp only; omega)) (Ent.cons rfl (Ent.nil _)) (Ent.cons (t := 1) rfl (Ent.cons (t := 2) rfl (Ent.cons (t := 6) rfl (Ent.cons (t := 7) rfl (Ent.nil _))))) (Sub.keep 0 rfl (Sub.keep 0 rfl (Sub.keep 0 rfl (Sub.nil _))))
  · skip
    refine V.exit ?_
    refine X.thenExit ?_
    refine X.thenExit ?_
    refine X.blockHit ?_
    refine X.next ?_
    refine V.seq ?_
    have hz2 : z = [sw2 p q b.1, sw2 p q b.2.1, sw2 p q b.2.2] := by rw [hz, show i = 3 by omega]; exact exS_all rfl
    have hzl2 := congrArg List.length hz2
    simp only [List.length_cons, List.length_nil] at hzl2
    have ek0 : 0 < z.length := by omega
    have ek1 : 1 < z.length := by omega
    have ek2 : 2 < z.length := by omega
    have hk0 : z[0]'ek0 = sw2 p q b.1 := List.getElem_of_eq hz2 ek0
    have hk1 : z[1]'ek1 = sw2 p q b.2.1 := List.getElem_of_eq hz2 ek1
    have hk2 : z[2]'ek2 = sw2 p q b.2.2 := List.getElem_of_eq hz2 ek2
    have hw0 : -100 ≤ sw2 p q b.1 ∧ sw2 p q b.1 ≤ 100 := by unfold sw2; (repeat' split) <;> omega
    have hw1 : -100 ≤ sw2 p q b.2.1 ∧ sw2 p q b.2.1 ≤ 100 := by unfold sw2; (repeat' split) <;> omega
    have hw2 : -100 ≤ sw2 p q b.2.2 ∧ sw2 p q b.2.2 ≤ 100 := by unfold sw2; (repeat' split) <;> omega
    refine V.draw mo (by kernel_rfl) (fun hwf => ?_)
    refine D.p 0 rfl rfl rfl rfl rfl rfl (Pu.move rfl rfl) ?_
    refine D.p 1 rfl rfl rfl rfl rfl rfl (Pu.indexAddrS (0) rfl Try.underlying54 sz2 rfl rfl (by omega) (by omega) (fun w hw => Own.some hw (i := 0) (by exact rfl) (by omega))) ?_
    refine D.p 2 rfl rfl rfl rfl rfl rfl (Pu.load rfl pl2 rfl (Ld.rd (Ld.own 0 (by exact rfl)) (k := 0) ek0 rfl rfl)) ?_
    refine D.p 3 rfl rfl rfl rfl rfl rfl (Pu.move rfl rfl) ?_
    refine D.p 4 rfl rfl rfl rfl rfl rfl (Pu.indexAddrS (1) rfl Try.underlying54 sz2 rfl rfl (by omega) (by omega) (fun w hw => Own.some hw (i := 0) (by exact rfl) (by omega))) ?_
    refine D.p 5 rfl rfl rfl rfl rfl rfl (Pu.load rfl pl2 rfl (Ld.rd (Ld.own 0 (by exact rfl)) (k := 1) ek1 rfl rfl)) ?_
    refine D.p 6 rfl rfl rfl rfl rfl rfl (Pu.move rfl rfl) ?_
    refine D.p 7 rfl rfl rfl rfl rfl rfl (Pu.indexAddrS (2) rfl Try.underlying54 sz2 rfl rfl (by omega) (by omega) (fun w hw => Own.some hw (i := 0) (by exact rfl) (by omega))) ?_
    refine D.p 8 rfl rfl rfl rfl rfl rfl (Pu.load rfl pl2 rfl (Ld.rd (Ld.own 0 (by exact rfl)) (k := 2) ek2 rfl rfl)) ?_
    refine D.eff hwf (e := 9) rfl rfl rfl rfl (Ef.callP call103 rfl rfl (fun w hw => l01BlockG_ok  (z[0]'ek0) (z[1]'ek1) (z[2]'ek2) w   (by omega) (by omega) (by omega))) rfl rfl rfl ?_
    rintro _ _ ⟨rfl, rfl⟩ hs
    refine ⟨fun w hw => hw, ?_⟩
    refine D.effX (Hs' := []) hwf (e := 10) rfl rfl rfl rfl (Ef.storeAll 1 rfl sz67 rfl rfl rfl rfl (by simp [Value.oneCell']) rfl) rfl [] rfl (List.forall_mem_nil _) ?_
    rintro _ _ rfl
    refine ⟨fun w hw => hw.sub (Sub.nil _), ?_⟩
    refine D.done hwf rfl ?_
    refine X.next ?_
    refine V.ret ?_
    refine X.retCell rfl ag67 sz67 rfl rfl (Ld.whole 1 rfl) ?_
    exact fun w hw => St.retP (by rw [hk0, hk1, hk2]; rfl) hw
set_option maxRecDepth 100000 in
set_option maxHeartbeats 1000000 in
theorem l04Four_ok (v_ : Int) (four : List B3) (fourA : Option Addr) (fourc : Nat) (w : World) (hfour : Rd B3C w fourA four) (lfour : four.length ≤ 1099511627776) (hv : 0 ≤ v_ ∧ v_ ≤ 15) (h4 : four.length = 4) (hg : ∀ b ∈ four, good v_ b) (hlt : four.Pairwise B3.lt) : Does Try.prog 43 [.int .i64 v_, .slice fourA four.length fourc] w [] (fun r => [.exi fun (oA : Option Addr) => .exi fun (oc : Nat) => .exi fun (o : List B3) => .exi fun (iA : Option Addr) => .exi fun (ic : Nat) => .exi fun (i : List B3) => .sep (.pur (r = .tuple #[.agg #[.int .i64 (if PasB four then v_ else 0), .slice oA o.length oc, .slice iA i.length ic], .bool (decide (PasB four))] ∧ (PasB four → o = four ∧ (i.Perm (four.map (exB (ptA four) (ptB v_.toNat four))) ∧ SrtB i)))) (.sep (Own 67 B3C oA oc o) (Own 67 B3C iA ic i))]) := by
  refine Does.enter Try.func43 rfl rfl [(0, .int .i64 v_), (1, .slice fourA four.length fourc)] rfl ?_
  refine V.seq ?_
  refine V.region ?_
  refine O.e rfl rfl rfl (Ef.alloc rfl zr74 rfl) ?_
  rintro _ _ ⟨b1, rfl, rfl⟩
  refine O.p rfl rfl rfl (Pu.assign rfl rfl) ?_
  refine O.nil ?_
  refine X.next ?_
  refine V.seq ?_
  refine V.region ?_
  refine O.p rfl rfl rfl (Pu.move rfl rfl) ?_
  refine O.e rfl rfl rfl (Ef.makeI (n := (v_).toNat) I64 (0 : Int) rfl Try.underlying54 inf2 rfl rfl rfl rfl (by omega) (by omega) (by omega)) ?_
  rintro _ _ ⟨A1, hA1, rfl, rfl⟩
  refine O.e rfl rfl rfl (Ef.build I64 ([] : List Int) rfl Try.underlying54 inf2 rfl rfl rfl (by first | decide | (simp; done)) (by kernel_rfl)) ?_
  rintro _ _ ⟨A2, hA2, rfl, rfl⟩
  refine O.p rfl rfl rfl (Pu.assign rfl rfl) ?_
  refine O.p rfl rfl rfl (Pu.assign rfl rfl) ?_
  refine O.nil ?_
  refine X.next ?_
  refine V.seq ?_
  refine V.seq ?_
  refine V.region ?_
  refine O.p rfl rfl rfl (Pu.assign rfl rfl) ?_
  refine O.nil ?_
  refine X.next ?_
  refine V.block ?_
  refine V.loop3 (β := Nat × (List Int)) (fun x => [(8, .int .i64 (x.1 : Int))]) _ (fun x => [Own 2 I64 A1 ((v_).toNat) x.2]) _ (fun x => x.1 ≤ 4 ∧ x.2 = cntV ((four.take x.1).flatMap bl) v_.toNat) (fun x => 4 - x.1) (0, (List.replicate ((v_).toNat) (0 : Int))) (by (try dsimp only); exact ⟨by omega, by rw [List.take_zero]; exact cntV_nil.symm⟩) (Ent.cons rfl (Ent.nil _)) (Ent.cons (t := 0) rfl (Ent.cons (t := 1) rfl (Ent.cons (t := 4) rfl (Ent.cons (t := 6) rfl (Ent.cons (t := 7) rfl (Ent.nil _)))))) (Sub.keep 1 rfl (Sub.keep 0 rfl (Sub.keep 0 rfl (Sub.nil _)))) ?_
  rintro ⟨i, cs⟩ ⟨hi, hcs⟩
  dsimp only at hi hcs ⊢
  subst hcs
  refine V.seq ?_
  refine V.seq ?_
  refine V.region ?_
  refine O.p rfl rfl rfl (Pu.move rfl rfl) ?_
  refine O.p rfl rfl rfl (Pu.lss rfl rfl rfl) ?_
  refine O.nil ?_
  refine X.next ?_
  refine V.condD rfl (fun c1 => ?_) (fun c1 => ?_)
  · skip
    refine V.skip ?_
    refine X.next ?_
    refine V.seq ?_
    refine V.block ?_
    refine V.seq ?_
    refine V.region ?_
    refine O.p rfl rfl rfl (Pu.assign rfl rfl) ?_
    refine O.nil ?_
    refine X.next ?_
    refine V.block ?_
    refine V.unroll 3 ?_
    refine V.seq ?_
    refine V.seq ?_
    refine V.region ?_
    refine O.p rfl rfl rfl (Pu.move rfl rfl) ?_
    refine O.p rfl rfl rfl (Pu.isT (by decide) (Pu.lss rfl rfl rfl)) ?_
    refine O.nil ?_
    refine X.next ?_
    refine V.condT rfl ?_
    refine V.skip ?_
    refine X.next ?_
    refine V.seq ?_
    refine V.block ?_
    have e1 : i < four.length := by omega
    have hgi := hg _ (List.getElem_mem e1)
    unfold good at hgi
    have hfl := flat_len (four.take i)
    rw [List.length_take] at hfl
    have hbd0 := cN_bd (ps := ((four.take i).flatMap bl)) (p := (four[i]'e1).1)
    try simp only [List.length_append, List.length_singleton] at hbd0
    refine V.region ?_
    refine O.p rfl rfl rfl (Pu.move rfl rfl) ?_
    refine O.p rfl rfl rfl (Pu.move rfl rfl) ?_
    refine O.p rfl rfl rfl (Pu.move rfl rfl) ?_
    refine O.p rfl rfl rfl (Pu.move rfl rfl) ?_
    refine O.p rfl rfl rfl (Pu.indexAddr (i) rfl Try.underlying28 sz67 rfl rfl (by omega) (by omega) (hfour.some (by omega))) ?_
    refine O.p rfl rfl rfl (Pu.indexArr' (0) rfl Try.underlying67 sz2 rfl rfl (by omega) (by omega) rfl (fun w hw => by have := Rd.some ((Ld.old hfour) w hw) (by omega); simpa using this)) ?_
    refine O.p rfl rfl rfl (Pu.load rfl pl2 rfl (Ld.part (k := i) (j := 0) (Ld.old hfour) e1 rfl rfl)) ?_
    refine O.p rfl rfl rfl (Pu.indexAddrS ((((four[i]'e1).1)).toNat) rfl Try.underlying54 sz2 rfl rfl (by omega) (by omega) (fun w hw => Own.some hw (i := 0) (by exact rfl) (by rw [cntV_len]; omega))) ?_
    refine O.p rfl rfl rfl (Pu.load rfl pl2 rfl (Ld.rd (C := I64) (u := .int .i64 (cN ((four.take i).flatMap bl) (four[i]'e1).1)) (Ld.own 0 (by exact rfl)) (k := (((four[i]'e1).1)).toNat) (by rw [cntV_len]; omega) rfl (by rw [cntV_get (by omega) (by omega)]; rfl))) ?_
    refine O.p rfl rfl rfl (Pu.add64 rfl (by omega) rfl rfl rfl) ?_
    refine O.p rfl rfl rfl (Pu.indexAddrS ((((four[i]'e1).1)).toNat) rfl Try.underlying54 sz2 rfl rfl (by omega) (by omega) (fun w hw => Own.some hw (i := 0) (by exact rfl) (by rw [cntV_len]; omega))) ?_
    refine O.s rfl rfl (Ef.storeOwn 0 ((((four[i]'e1).1)).toNat) ((cN ((four.take i).flatMap bl) (four[i]'e1).1) + (1 : Int)) rfl sz2 rfl rfl rfl rfl (by rw [cntV_len]; omega) rfl) ?_
    rintro _ _ rfl
    refine O.nil ?_
    refine X.blockNormal ?_
    refine X.next ?_
    refine V.map (fun w hw => hw.sub (Sub.cons 0 rfl (fun w F h => by rw [cntV_set (ps := ((four.take i).flatMap bl)) (by omega) (by omega)] at h; exact h) (Sub.keep 0 rfl (Sub.keep 0 rfl (Sub.nil _))))) ?_
    refine V.region ?_
    refine O.p rfl rfl rfl (Pu.move rfl rfl) ?_
    refine O.p rfl rfl rfl (Pu.add64 (r := 1) (by decide) (by decide) rfl rfl rfl) ?_
    refine O.p rfl rfl rfl (Pu.assign rfl rfl) ?_
    refine O.nil ?_
    refine X.again 2 ?_
    refine V.seq ?_
    refine V.seq ?_
    refine V.region ?_
    refine O.p rfl rfl rfl (Pu.move rfl rfl) ?_
    refine O.p rfl rfl rfl (Pu.isT (by decide) (Pu.lss rfl rfl rfl)) ?_
    refine O.nil ?_
    refine X.next ?_
    refine V.condT rfl ?_
    refine V.skip ?_
    refine X.next ?_
    refine V.seq ?_
    refine V.block ?_
    have hbd1 := cN_bd (ps := (((four.take i).flatMap bl) ++ [(four[i]'e1).1])) (p := (four[i]'e1).2.1)
    try simp only [List.length_append, List.length_singleton] at hbd1
    refine V.region ?_
    refine O.p rfl rfl rfl (Pu.move rfl rfl) ?_
    refine O.p rfl rfl rfl (Pu.move rfl rfl) ?_
    refine O.p rfl rfl rfl (Pu.move rfl rfl) ?_
    refine O.p rfl rfl rfl (Pu.move rfl rfl) ?_
    refine O.p rfl rfl rfl (Pu.indexAddr (i) rfl Try.underlying28 sz67 rfl rfl (by omega) (by omega) (hfour.some (by omega))) ?_
    refine O.p rfl rfl rfl (Pu.indexArr' (1) rfl Try.underlying67 sz2 rfl rfl (by omega) (by omega) rfl (fun w hw => by have := Rd.some ((Ld.old hfour) w hw) (by omega); simpa using this)) ?_
    refine O.p rfl rfl rfl (Pu.load rfl pl2 rfl (Ld.part (k := i) (j := 1) (Ld.old hfour) e1 rfl rfl)) ?_
    refine O.p rfl rfl rfl (Pu.indexAddrS ((((four[i]'e1).2.1)).toNat) rfl Try.underlying54 sz2 rfl rfl (by omega) (by omega) (fun w hw => Own.some hw (i := 0) (by exact rfl) (by rw [cntV_len]; omega))) ?_
    refine O.p rfl rfl rfl (Pu.load rfl pl2 rfl (Ld.rd (C := I64) (u := .int .i64 (cN (((four.take i).flatMap bl) ++ [(four[i]'e1).1]) (four[i]'e1).2.1)) (Ld.own 0 (by exact rfl)) (k := (((four[i]'e1).2.1)).toNat) (by rw [cntV_len]; omega) rfl (by rw [cntV_get (by omega) (by omega)]; rfl))) ?_
    refine O.p rfl rfl rfl (Pu.add64 rfl (by omega) rfl rfl rfl) ?_
    refine O.p rfl rfl rfl (Pu.indexAddrS ((((four[i]'e1).2.1)).toNat) rfl Try.underlying54 sz2 rfl rfl (by omega) (by omega) (fun w hw => Own.some hw (i := 0) (by exact rfl) (by rw [cntV_len]; omega))) ?_
    refine O.s rfl rfl (Ef.storeOwn 0 ((((four[i]'e1).2.1)).toNat) ((cN (((four.take i).flatMap bl) ++ [(four[i]'e1).1]) (four[i]'e1).2.1) + (1 : Int)) rfl sz2 rfl rfl rfl rfl (by rw [cntV_len]; omega) rfl) ?_
    rintro _ _ rfl
    refine O.nil ?_
    refine X.blockNormal ?_
    refine X.next ?_
    refine V.map (fun w hw => hw.sub (Sub.cons 0 rfl (fun w F h => by rw [cntV_set (ps := (((four.take i).flatMap bl) ++ [(four[i]'e1).1])) (by omega) (by omega)] at h; exact h) (Sub.keep 0 rfl (Sub.keep 0 rfl (Sub.nil _))))) ?_
    refine V.region ?_
    refine O.p rfl rfl rfl (Pu.move rfl rfl) ?_
    refine O.p rfl rfl rfl (Pu.add64 (r := 2) (by decide) (by decide) rfl rfl rfl) ?_
    refine O.p rfl rfl rfl (Pu.assign rfl rfl) ?_
    refine O.nil ?_
    refine X.again 1 ?_
    refine V.seq ?_
    refine V.seq ?_
    refine V.region ?_
    refine O.p rfl rfl rfl (Pu.move rfl rfl) ?_
    refine O.p rfl rfl rfl (Pu.isT (by decide) (Pu.lss rfl rfl rfl)) ?_
    refine O.nil ?_
    refine X.next ?_
    refine V.condT rfl ?_
    refine V.skip ?_
    refine X.next ?_
    refine V.seq ?_
    refine V.block ?_
    have hbd2 := cN_bd (ps := ((((four.take i).flatMap bl) ++ [(four[i]'e1).1]) ++ [(four[i]'e1).2.1])) (p := (four[i]'e1).2.2)
    try simp only [List.length_append, List.length_singleton] at hbd2
    refine V.region ?_
    refine O.p rfl rfl rfl (Pu.move rfl rfl) ?_
    refine O.p rfl rfl rfl (Pu.move rfl rfl) ?_
    refine O.p rfl rfl rfl (Pu.move rfl rfl) ?_
    refine O.p rfl rfl rfl (Pu.move rfl rfl) ?_
    refine O.p rfl rfl rfl (Pu.indexAddr (i) rfl Try.underlying28 sz67 rfl rfl (by omega) (by omega) (hfour.some (by omega))) ?_
    refine O.p rfl rfl rfl (Pu.indexArr' (2) rfl Try.underlying67 sz2 rfl rfl (by omega) (by omega) rfl (fun w hw => by have := Rd.some ((Ld.old hfour) w hw) (by omega); simpa using this)) ?_
    refine O.p rfl rfl rfl (Pu.load rfl pl2 rfl (Ld.part (k := i) (j := 2) (Ld.old hfour) e1 rfl rfl)) ?_
    refine O.p rfl rfl rfl (Pu.indexAddrS ((((four[i]'e1).2.2)).toNat) rfl Try.underlying54 sz2 rfl rfl (by omega) (by omega) (fun w hw => Own.some hw (i := 0) (by exact rfl) (by rw [cntV_len]; omega))) ?_
    refine O.p rfl rfl rfl (Pu.load rfl pl2 rfl (Ld.rd (C := I64) (u := .int .i64 (cN ((((four.take i).flatMap bl) ++ [(four[i]'e1).1]) ++ [(four[i]'e1).2.1]) (four[i]'e1).2.2)) (Ld.own 0 (by exact rfl)) (k := (((four[i]'e1).2.2)).toNat) (by rw [cntV_len]; omega) rfl (by rw [cntV_get (by omega) (by omega)]; rfl))) ?_
    refine O.p rfl rfl rfl (Pu.add64 rfl (by omega) rfl rfl rfl) ?_
    refine O.p rfl rfl rfl (Pu.indexAddrS ((((four[i]'e1).2.2)).toNat) rfl Try.underlying54 sz2 rfl rfl (by omega) (by omega) (fun w hw => Own.some hw (i := 0) (by exact rfl) (by rw [cntV_len]; omega))) ?_
    refine O.s rfl rfl (Ef.storeOwn 0 ((((four[i]'e1).2.2)).toNat) ((cN ((((four.take i).flatMap bl) ++ [(four[i]'e1).1]) ++ [(four[i]'e1).2.1]) (four[i]'e1).2.2) + (1 : Int)) rfl sz2 rfl rfl rfl rfl (by rw [cntV_len]; omega) rfl) ?_
    rintro _ _ rfl
    refine O.nil ?_
    refine X.blockNormal ?_
    refine X.next ?_
    refine V.map (fun w hw => hw.sub (Sub.cons 0 rfl (fun w F h => by rw [cntV_set (ps := ((((four.take i).flatMap bl) ++ [(four[i]'e1).1]) ++ [(four[i]'e1).2.1])) (by omega) (by omega)] at h; exact h) (Sub.keep 0 rfl (Sub.keep 0 rfl (Sub.nil _))))) ?_
    refine V.region ?_
    refine O.p rfl rfl rfl (Pu.move rfl rfl) ?_
    refine O.p rfl rfl rfl (Pu.add64 (r := 3) (by decide) (by decide) rfl rfl rfl) ?_
    refine O.p rfl rfl rfl (Pu.assign rfl rfl) ?_
    refine O.nil ?_
    refine X.again 0 ?_
    refine V.seq ?_
    refine V.seq ?_
    refine V.region ?_
    refine O.p rfl rfl rfl (Pu.move rfl rfl) ?_
    refine O.p rfl rfl rfl (Pu.isF (by decide) (Pu.lss rfl rfl rfl)) ?_
    refine O.nil ?_
    refine X.next ?_
    refine V.condF rfl ?_
    refine V.exit ?_
    refine X.thenExit ?_
    refine X.thenExit ?_
    refine X.blockHit ?_
    refine X.blockNormal ?_
    refine X.next ?_
    refine V.region ?_
    refine O.p rfl rfl rfl (Pu.move rfl rfl) ?_
    refine O.p rfl rfl rfl (Pu.add64 (r := ((i + 1 : Nat) : Int)) rfl (by omega) rfl rfl rfl) ?_
    refine O.p rfl rfl rfl (Pu.assign rfl rfl) ?_
    refine O.nil ?_
    exact X.back3 (i + 1, (cntV (((((four.take i).flatMap bl) ++ [(four[i]'e1).1]) ++ [(four[i]'e1).2.1]) ++ [(four[i]'e1).2.2]) v_.toNat)) (by (try dsimp only); exact ⟨by omega, by rw [flat_snoc _ e1]⟩) (by first | omega | (dsimp only; omega)) (Ent.cons rfl (Ent.nil _)) (Ent.cons (t := 0) rfl (Ent.cons (t := 1) rfl (Ent.cons (t := 4) rfl (Ent.cons (t := 6) rfl (Ent.cons (t := 7) rfl (Ent.nil _)))))) (Sub.keep 0 rfl (Sub.keep 0 rfl (Sub.keep 0 rfl (Sub.nil _))))
  · skip
    refine V.exit ?_
    refine X.thenExit ?_
    refine X.thenExit ?_
    refine X.blockHit ?_
    refine X.next ?_
    refine V.seq ?_
    refine V.seq ?_
    have hi4 : four.take i = four := List.take_of_length_le (by omega)
    rw [hi4]
    refine V.region ?_
    refine O.p rfl rfl rfl (Pu.assign rfl rfl) ?_
    refine O.nil ?_
    refine X.next ?_
    refine V.block ?_
    refine V.loop3 (β := (Option Addr) × Nat × (List Int) × Nat) (fun x => [(7, .slice x.1 x.2.2.1.length x.2.1), (10, .int .i64 (x.2.2.2 : Int))]) _ (fun x => [Own 2 I64 x.1 x.2.1 x.2.2.1]) _ (fun x => x.2.2.2 ≤ v_.toNat ∧ x.2.2.1 = ptsN (four.flatMap bl) x.2.2.2 ∧ ∀ q : Nat, q < x.2.2.2 → cN (four.flatMap bl) (q : Int) ≤ 2) (fun x => v_.toNat - x.2.2.2) (A2, 0, ([] : List Int), 0) (by (try dsimp only); exact ⟨by omega, rfl, fun q hq => by omega⟩) (Ent.cons rfl (Ent.cons rfl (Ent.nil _))) (Ent.cons (t := 0) rfl (Ent.cons (t := 1) rfl (Ent.cons (t := 4) rfl (Ent.cons (t := 6) rfl (Ent.nil _))))) (Sub.keep 1 rfl (Sub.keep 0 rfl (Sub.keep 0 rfl (Sub.nil _)))) ?_
    rintro ⟨pointsA, pointsc, points, p⟩ ⟨hp, hpt, h2⟩
    dsimp only at hp hpt h2 ⊢
    have hpl : points.length ≤ p := by rw [hpt]; exact ptsN_len
    refine V.seq ?_
    refine V.seq ?_
    refine V.region ?_
    refine O.p rfl rfl rfl (Pu.move rfl rfl) ?_
    refine O.p rfl rfl rfl (Pu.move rfl rfl) ?_
    refine O.p rfl rfl rfl (Pu.lss rfl rfl rfl) ?_
    refine O.nil ?_
    refine X.next ?_
    refine V.condD rfl (fun c2 => ?_) (fun c2 => ?_)
    · skip
      refine V.skip ?_
      refine X.next ?_
      refine V.seq ?_
      refine V.block ?_
      refine V.seq ?_
      refine V.seq ?_
      refine V.region ?_
      refine O.p rfl rfl rfl (Pu.move rfl rfl) ?_
      refine O.p rfl rfl rfl (Pu.move rfl rfl) ?_
      refine O.p rfl rfl rfl (Pu.indexAddrS (p) rfl Try.underlying54 sz2 rfl rfl (by omega) (by omega) (fun w hw => Own.some hw (i := 1) (by exact rfl) (by rw [cntV_len]; omega))) ?_
      refine O.p rfl rfl rfl (Pu.load rfl pl2 rfl (Ld.rd (C := I64) (u := .int .i64 (cN (four.flatMap bl) (p : Int))) (Ld.own 1 (by exact rfl)) (k := p) (by rw [cntV_len]; omega) rfl (by rw [cntV_at (by omega)]; rfl))) ?_
      refine O.p rfl rfl rfl (Pu.gtr rfl rfl rfl) ?_
      refine O.nil ?_
      refine X.next ?_
      refine V.condD rfl (fun c3 => ?_) (fun c3 => ?_)
      · skip
        refine V.region ?_
        refine O.p rfl rfl rfl (Pu.move rfl rfl) ?_
        refine O.p rfl rfl rfl (Pu.move rfl rfl) ?_
        refine O.e rfl rfl rfl (Ef.build I64 ([(↑p : Int)] : List Int) rfl Try.underlying54 inf2 rfl rfl rfl (by first | decide | (simp; done)) (by kernel_rfl)) ?_
        rintro _ _ ⟨A3, hA3, rfl, rfl⟩
        refine O.e rfl rfl rfl (Ef.append (xs := points) (ys := ([(↑p : Int)] : List Int)) 1 rfl Try.underlying54 inf2 rfl rfl rfl rfl rfl rfl hA3 (Ld.own 0 (by exact rfl)) (by simp only [List.length_append, List.length_cons, List.length_nil] at *; omega) (by decide)) ?_
        rintro _ _ ⟨A4, k1, rfl, rfl, hA4⟩
        replace hA4 := hA4 (.inr (by simp))
        refine O.p rfl rfl rfl (Pu.assign rfl rfl) ?_
        refine O.nil ?_
        refine X.next ?_
        refine V.seq ?_
        refine V.region ?_
        refine O.p rfl rfl rfl (Pu.move rfl rfl) ?_
        refine O.p rfl rfl rfl (Pu.move rfl rfl) ?_
        refine O.p rfl rfl rfl (Pu.indexAddrS (p) rfl Try.underlying54 sz2 rfl rfl (by omega) (by omega) (fun w hw => Own.some hw (i := 2) (by exact rfl) (by rw [cntV_len]; omega))) ?_
        refine O.p rfl rfl rfl (Pu.load rfl pl2 rfl (Ld.rd (C := I64) (u := .int .i64 (cN (four.flatMap bl) (p : Int))) (Ld.own 2 (by exact rfl)) (k := p) (by rw [cntV_len]; omega) rfl (by rw [cntV_at (by omega)]; rfl))) ?_
        refine O.p rfl rfl rfl (Pu.gtr rfl rfl rfl) ?_
        refine O.nil ?_
        refine X.next ?_
        refine V.condD rfl (fun c4 => ?_) (fun c4 => ?_)
        · skip
          refine V.seq ?_
          refine V.region ?_
          refine O.p rfl rfl rfl (Pu.buildS (cs := [.int .i64 (0 : Int), .slice none 0 0, .slice none 0 0]) rfl rfl Try.underlying74 zr74 (by kernel_rfl) rfl (by kernel_rfl)) ?_
          refine O.s rfl rfl (Ef.storeAll 3 rfl sz74 rfl rfl rfl rfl (by simp [Value.oneCell']) rfl) ?_
          rintro _ _ rfl
          refine O.p rfl rfl rfl (Pu.assign rfl rfl) ?_
          refine O.nil ?_
          refine X.next ?_
          refine V.ret ?_
          refine X.blockRet ?_
          refine X.thenRet ?_
          refine X.thenRet ?_
          refine X.blockRet ?_
          refine X.thenRet ?_
          refine X.retCell2 rfl ag74 sz74 rfl rfl rfl (Ld.whole 3 rfl) ?_
          exact fun w hw => St.mkExi none (St.mkExi 0 (St.mkExi [] (St.mkExi none (St.mkExi 0 (St.mkExi [] (St.unsep (St.addPur ⟨(by rw [if_neg (fun h => by have := (six_to hv h4 hg h).2 (p : Int); omega), decide_eq_false (fun h => by have := (six_to hv h4 hg h).2 (p : Int); omega)]; rfl), (fun h => absurd h (fun h => by have := (six_to hv h4 hg h).2 (p : Int); omega))⟩ (St.unsep (St.addNil (T := 67) (C := B3C) (St.addNil (T := 67) (C := B3C) (hw.sub (Sub.nil _))))))))))))
        · skip
          refine V.skip ?_
          refine X.blockNormal ?_
          refine X.next ?_
          refine V.region ?_
          refine O.p rfl rfl rfl (Pu.move rfl rfl) ?_
          refine O.p rfl rfl rfl (Pu.add64 (r := ((p + 1 : Nat) : Int)) rfl (by omega) rfl rfl rfl) ?_
          refine O.p rfl rfl rfl (Pu.assign rfl rfl) ?_
          refine O.nil ?_
          exact X.back3 (A4, k1, (points ++ ([(↑p : Int)] : List Int)), p + 1) (by (try dsimp only); exact ⟨by omega, by rw [hpt, ptsN_yes (by omega)], fun q hq => by by_cases e : q = p; (· subst e; omega); (· exact h2 q (by omega))⟩) (by first | omega | (dsimp only; omega)) (Ent.cons rfl (Ent.cons rfl (Ent.nil _))) (Ent.cons (t := 0) rfl (Ent.cons (t := 1) rfl (Ent.cons (t := 4) rfl (Ent.cons (t := 6) rfl (Ent.nil _))))) (Sub.keep 1 rfl (Sub.keep 1 rfl (Sub.keep 1 rfl (Sub.nil _))))
      · skip
        refine V.skip ?_
        refine X.next ?_
        refine V.seq ?_
        refine V.region ?_
        refine O.p rfl rfl rfl (Pu.move rfl rfl) ?_
        refine O.p rfl rfl rfl (Pu.move rfl rfl) ?_
        refine O.p rfl rfl rfl (Pu.indexAddrS (p) rfl Try.underlying54 sz2 rfl rfl (by omega) (by omega) (fun w hw => Own.some hw (i := 1) (by exact rfl) (by rw [cntV_len]; omega))) ?_
        refine O.p rfl rfl rfl (Pu.load rfl pl2 rfl (Ld.rd (C := I64) (u := .int .i64 (cN (four.flatMap bl) (p : Int))) (Ld.own 1 (by exact rfl)) (k := p) (by rw [cntV_len]; omega) rfl (by rw [cntV_at (by omega)]; rfl))) ?_
        refine O.p rfl rfl rfl (Pu.gtr rfl rfl rfl) ?_
        refine O.nil ?_
        refine X.next ?_
        refine V.condD rfl (fun c5 => ?_) (fun c5 => ?_)
        · skip
          refine V.seq ?_
          refine V.region ?_
          refine O.p rfl rfl rfl (Pu.buildS (cs := [.int .i64 (0 : Int), .slice none 0 0, .slice none 0 0]) rfl rfl Try.underlying74 zr74 (by kernel_rfl) rfl (by kernel_rfl)) ?_
          refine O.s rfl rfl (Ef.storeAll 2 rfl sz74 rfl rfl rfl rfl (by simp [Value.oneCell']) rfl) ?_
          rintro _ _ rfl
          refine O.p rfl rfl rfl (Pu.assign rfl rfl) ?_
          refine O.nil ?_
          refine X.next ?_
          refine V.ret ?_
          refine X.blockRet ?_
          refine X.thenRet ?_
          refine X.thenRet ?_
          refine X.blockRet ?_
          refine X.thenRet ?_
          refine X.retCell2 rfl ag74 sz74 rfl rfl rfl (Ld.whole 2 rfl) ?_
          exact fun w hw => St.mkExi none (St.mkExi 0 (St.mkExi [] (St.mkExi none (St.mkExi 0 (St.mkExi [] (St.unsep (St.addPur ⟨(by rw [if_neg (fun h => by have := (six_to hv h4 hg h).2 (p : Int); omega), decide_eq_false (fun h => by have := (six_to hv h4 hg h).2 (p : Int); omega)]; rfl), (fun h => absurd h (fun h => by have := (six_to hv h4 hg h).2 (p : Int); omega))⟩ (St.unsep (St.addNil (T := 67) (C := B3C) (St.addNil (T := 67) (C := B3C) (hw.sub (Sub.nil _))))))))))))
        · skip
          refine V.skip ?_
          refine X.blockNormal ?_
          refine X.next ?_
          refine V.region ?_
          refine O.p rfl rfl rfl (Pu.move rfl rfl) ?_
          refine O.p rfl rfl rfl (Pu.add64 (r := ((p + 1 : Nat) : Int)) rfl (by omega) rfl rfl rfl) ?_
          refine O.p rfl rfl rfl (Pu.assign rfl rfl) ?_
          refine O.nil ?_
          exact X.back3 (pointsA, pointsc, points, p + 1) (by (try dsimp only); exact ⟨by omega, by rw [hpt, ptsN_no (by omega)], fun q hq => by by_cases e : q = p; (· subst e; omega); (· exact h2 q (by omega))⟩) (by first | omega | (dsimp only; omega)) (Ent.cons rfl (Ent.cons rfl (Ent.nil _))) (Ent.cons (t := 0) rfl (Ent.cons (t := 1) rfl (Ent.cons (t := 4) rfl (Ent.cons (t := 6) rfl (Ent.nil _))))) (Sub.keep 0 rfl (Sub.keep 0 rfl (Sub.keep 0 rfl (Sub.nil _))))
    · skip
      refine V.exit ?_
      refine X.thenExit ?_
      refine X.thenExit ?_
      refine X.blockHit ?_
      refine X.next ?_
      refine V.seq ?_
      refine V.seq ?_
      have hpN : points = (ptsN (four.flatMap bl) v_.toNat) := by rw [hpt, show p = v_.toNat by omega]
      refine V.region ?_
      refine O.p rfl rfl rfl (Pu.move rfl rfl) ?_
      refine O.p rfl rfl rfl (Pu.len rfl Try.underlying54 rfl) ?_
      refine O.p rfl rfl rfl (Pu.neq rfl rfl rfl) ?_
      refine O.nil ?_
      refine X.next ?_
      refine V.condNot rfl (fun c6 => ?_) (fun c6 => ?_)
      · skip
        refine V.seq ?_
        refine V.region ?_
        refine O.p rfl rfl rfl (Pu.buildS (cs := [.int .i64 (0 : Int), .slice none 0 0, .slice none 0 0]) rfl rfl Try.underlying74 zr74 (by kernel_rfl) rfl (by kernel_rfl)) ?_
        refine O.s rfl rfl (Ef.storeAll 2 rfl sz74 rfl rfl rfl rfl (by simp [Value.oneCell']) rfl) ?_
        rintro _ _ rfl
        refine O.p rfl rfl rfl (Pu.assign rfl rfl) ?_
        refine O.nil ?_
        refine X.next ?_
        refine V.ret ?_
        refine X.thenRet ?_
        refine X.retCell2 rfl ag74 sz74 rfl rfl rfl (Ld.whole 2 rfl) ?_
        exact fun w hw => St.mkExi none (St.mkExi 0 (St.mkExi [] (St.mkExi none (St.mkExi 0 (St.mkExi [] (St.unsep (St.addPur ⟨(by rw [if_neg (fun h => by have := (six_to hv h4 hg h).1; rw [← hpN] at this; omega), decide_eq_false (fun h => by have := (six_to hv h4 hg h).1; rw [← hpN] at this; omega)]; rfl), (fun h => absurd h (fun h => by have := (six_to hv h4 hg h).1; rw [← hpN] at this; omega))⟩ (St.unsep (St.addNil (T := 67) (C := B3C) (St.addNil (T := 67) (C := B3C) (hw.sub (Sub.nil _))))))))))))
      · skip
        refine V.skip ?_
        refine X.next ?_
        refine V.seq ?_
        have e0 : 0 < points.length := by omega
        have hP : PasB four := six_of hv h4 hg (by rw [← hpN]; omega) (fun q hq => h2 q (by omega))
        have hf : points[0]'e0 = ptA four := by rw [List.getElem_of_eq hpN e0]; exact pts_head h4 hg hlt rfl _
        refine V.region ?_
        refine O.p rfl rfl rfl (Pu.move rfl rfl) ?_
        refine O.p rfl rfl rfl (Pu.indexAddrS (0) rfl Try.underlying54 sz2 rfl rfl (by omega) (by omega) (fun w hw => Own.some hw (i := 0) (by exact rfl) (by omega))) ?_
        refine O.p rfl rfl rfl (Pu.load rfl pl2 rfl (Ld.rd (Ld.own 0 (by exact rfl)) (k := 0) e0 rfl rfl)) ?_
        refine O.p rfl rfl rfl (Pu.assign rfl rfl) ?_
        refine O.p rfl rfl rfl (Pu.assign rfl rfl) ?_
        refine O.nil ?_
        refine X.next ?_
        refine V.seq ?_
        refine V.seq ?_
        refine V.region ?_
        refine O.p rfl rfl rfl (Pu.assign rfl rfl) ?_
        refine O.nil ?_
        refine X.next ?_
        refine V.block ?_
        refine V.loop3 (β := Int × Nat) (fun x => [(12, .int .i64 (x.1 : Int)), (13, .int .i64 (x.2 : Int))]) _ (fun x => []) _ (fun x => 1 ≤ x.2 ∧ x.2 ≤ 6 ∧ x.1 = lastL (PtC four) (points.take x.2)) (fun x => 6 - x.2) ((-1 : Int), 1) (by (try dsimp only); exact ⟨by omega, by omega, by rw [take_snoc e0, lastL_snoc, if_neg (by rw [hf]; exact ptc_first)]; rfl⟩) (Ent.cons rfl (Ent.cons rfl (Ent.nil _))) (Ent.cons (t := 0) rfl (Ent.cons (t := 1) rfl (Ent.cons (t := 4) rfl (Ent.cons (t := 7) rfl (Ent.cons (t := 11) rfl (Ent.nil _)))))) (Sub.keep 0 rfl (Sub.keep 0 rfl (Sub.keep 0 rfl (Sub.nil _)))) ?_
        rintro ⟨last, i⟩ ⟨hi1, hi6, hla⟩
        dsimp only at hi1 hi6 hla ⊢
        refine V.seq ?_
        refine V.seq ?_
        refine V.region ?_
        refine O.p rfl rfl rfl (Pu.move rfl rfl) ?_
        refine O.p rfl rfl rfl (Pu.lss rfl rfl rfl) ?_
        refine O.nil ?_
        refine X.next ?_
        refine V.condD rfl (fun c7 => ?_) (fun c7 => ?_)
        · skip
          refine V.skip ?_
          refine X.next ?_
          refine V.seq ?_
          refine V.block ?_
          refine V.seq ?_
          refine V.region ?_
          refine O.p rfl rfl rfl (Pu.assign rfl rfl) ?_
          refine O.nil ?_
          refine X.next ?_
          refine V.seq ?_
          refine V.seq ?_
          have ei : i < points.length := by omega
          have hpc : PtC four (points[i]'ei) ↔ ¬ ∃ c ∈ four, has c (points[0]'e0) ∧ has c (points[i]'ei) := by subst hpN; exact ptc_at ei e0 rfl hf (by omega)
          refine V.region ?_
          refine O.p rfl rfl rfl (Pu.assign rfl rfl) ?_
          refine O.nil ?_
          refine X.next ?_
          refine V.block ?_
          refine V.loop3 (β := Bool × Nat) (fun x => [(14, .bool x.1), (15, .int .i64 (x.2 : Int))]) _ (fun x => []) _ (fun x => x.2 ≤ 4 ∧ x.1 = apB four (points[0]'e0) (points[i]'ei) x.2) (fun x => 4 - x.2) (true, 0) (by (try dsimp only); exact ⟨by omega, apB_zero.symm⟩) (Ent.cons rfl (Ent.cons rfl (Ent.nil _))) (Ent.cons (t := 0) rfl (Ent.cons (t := 1) rfl (Ent.cons (t := 4) rfl (Ent.cons (t := 7) rfl (Ent.cons (t := 11) rfl (Ent.cons (t := 12) rfl (Ent.cons (t := 13) rfl (Ent.nil _)))))))) (Sub.keep 0 rfl (Sub.keep 0 rfl (Sub.keep 0 rfl (Sub.nil _)))) ?_
          rintro ⟨apart, k⟩ ⟨hk, hap⟩
          dsimp only at hk hap ⊢
          refine V.seq ?_
          refine V.seq ?_
          refine V.region ?_
          refine O.p rfl rfl rfl (Pu.move rfl rfl) ?_
          refine O.p rfl rfl rfl (Pu.lss rfl rfl rfl) ?_
          refine O.nil ?_
          refine X.next ?_
          refine V.condD rfl (fun c8 => ?_) (fun c8 => ?_)
          · skip
            refine V.skip ?_
            refine X.next ?_
            refine V.seq ?_
            refine V.block ?_
            have ek : k < four.length := by omega
            refine V.draw mo (by kernel_rfl) (fun hwf => ?_)
            refine D.p 0 rfl rfl rfl rfl rfl rfl (Pu.move rfl rfl) ?_
            refine D.p 1 rfl rfl rfl rfl rfl rfl (Pu.move rfl rfl) ?_
            refine D.splitB 76 rfl (fun c9 => ?_) (fun c9 => ?_)
            · skip
              subst c9
              refine D.gp 2 rfl rfl rfl rfl rfl rfl rfl rfl (Pu.move rfl rfl) ?_
              refine D.gp 3 rfl rfl rfl rfl rfl rfl rfl rfl (Pu.move rfl rfl) ?_
              refine D.gp 4 rfl rfl rfl rfl rfl rfl rfl rfl (Pu.indexAddr (k) rfl Try.underlying28 sz67 rfl rfl (by omega) (by omega) (hfour.some (by omega))) ?_
              refine D.gp 5 rfl rfl rfl rfl rfl rfl rfl rfl (Pu.loadAgg' (v := B3.v (four[k]'ek)) rfl rfl ag67 sz67 rfl rfl (Ld.rds (Ld.old hfour) (k := k) ek rfl)) ?_
              refine D.gp 6 rfl rfl rfl rfl rfl rfl rfl rfl (Pu.move rfl rfl) ?_
              refine D.geff hwf (e := 7) rfl rfl rfl rfl rfl rfl (Ef.callP call74 rfl rfl (fun w hw => l01With_ok (four[k]'ek) _ w)) rfl rfl rfl ?_
              rintro _ _ ⟨rfl, rfl⟩ hs
              refine ⟨fun w hw => hw, ?_⟩
              refine D.gp 8 rfl rfl rfl rfl rfl rfl rfl rfl (Pu.move rfl rfl) ?_
              refine D.splitD 83 rfl (fun c10 => ?_) (fun c10 => ?_)
              · skip
                refine D.gp 9 rfl rfl rfl rfl rfl rfl rfl rfl (Pu.move rfl rfl) ?_
                refine D.gp 10 rfl rfl rfl rfl rfl rfl rfl rfl (Pu.move rfl rfl) ?_
                refine D.gp 11 rfl rfl rfl rfl rfl rfl rfl rfl (Pu.indexAddr (k) rfl Try.underlying28 sz67 rfl rfl (by omega) (by omega) (hfour.some (by omega))) ?_
                refine D.gp 12 rfl rfl rfl rfl rfl rfl rfl rfl (Pu.loadAgg' (v := B3.v (four[k]'ek)) rfl rfl ag67 sz67 rfl rfl (Ld.rds (Ld.old hfour) (k := k) ek rfl)) ?_
                refine D.gp 13 rfl rfl rfl rfl rfl rfl rfl rfl (Pu.move rfl rfl) ?_
                refine D.gp 14 rfl rfl rfl rfl rfl rfl rfl rfl (Pu.move rfl rfl) ?_
                refine D.gp 15 rfl rfl rfl rfl rfl rfl rfl rfl (Pu.indexAddrS (i) rfl Try.underlying54 sz2 rfl rfl (by omega) (by omega) (fun w hw => Own.some hw (i := 0) (by exact rfl) (by omega))) ?_
                refine D.gp 16 rfl rfl rfl rfl rfl rfl rfl rfl (Pu.load rfl pl2 rfl (Ld.rd (Ld.own 0 (by exact rfl)) (k := i) ei rfl rfl)) ?_
                refine D.geff hwf (e := 17) rfl rfl rfl rfl rfl rfl (Ef.callP call74 rfl rfl (fun w hw => l01With_ok (four[k]'ek) _ w)) rfl rfl rfl ?_
                rintro _ _ ⟨rfl, rfl⟩ hs
                refine ⟨fun w hw => hw, ?_⟩
                refine D.gp 18 rfl rfl rfl rfl rfl rfl rfl rfl (Pu.pickT rfl rfl rfl) ?_
                refine D.gp 19 rfl rfl rfl rfl rfl rfl rfl rfl (Pu.not rfl rfl) ?_
                refine D.p 20 rfl rfl rfl rfl rfl rfl (Pu.pickT rfl rfl rfl) ?_
                refine D.last hwf (e := 21) rfl rfl rfl rfl rfl rfl (Pu.assign rfl rfl) ?_
                refine X.blockNormal ?_
                refine X.next ?_
                refine V.region ?_
                refine O.p rfl rfl rfl (Pu.move rfl rfl) ?_
                refine O.p rfl rfl rfl (Pu.add64 (r := ((k + 1 : Nat) : Int)) rfl (by omega) rfl rfl rfl) ?_
                refine O.p rfl rfl rfl (Pu.assign rfl rfl) ?_
                refine O.nil ?_
                exact X.back3 (_, k + 1) (by (try dsimp only); exact ⟨by omega, apart_yes ek hap c10⟩) (by first | omega | (dsimp only; omega)) (Ent.cons rfl (Ent.cons rfl (Ent.nil _))) (Ent.cons (t := 0) rfl (Ent.cons (t := 1) rfl (Ent.cons (t := 4) rfl (Ent.cons (t := 7) rfl (Ent.cons (t := 11) rfl (Ent.cons (t := 12) rfl (Ent.cons (t := 13) rfl (Ent.nil _)))))))) (Sub.keep 0 rfl (Sub.keep 0 rfl (Sub.keep 0 rfl (Sub.nil _))))
              · skip
                refine D.gs 9 rfl rfl rfl rfl rfl rfl rfl rfl rfl ?_
                refine D.gs 10 rfl rfl rfl rfl rfl rfl rfl rfl rfl ?_
                refine D.gs 11 rfl rfl rfl rfl rfl rfl rfl rfl rfl ?_
                refine D.gs 12 rfl rfl rfl rfl rfl rfl rfl rfl rfl ?_
                refine D.gs 13 rfl rfl rfl rfl rfl rfl rfl rfl rfl ?_
                refine D.gs 14 rfl rfl rfl rfl rfl rfl rfl rfl rfl ?_
                refine D.gs 15 rfl rfl rfl rfl rfl rfl rfl rfl rfl ?_
                refine D.gs 16 rfl rfl rfl rfl rfl rfl rfl rfl rfl ?_
                refine D.gs 17 rfl rfl rfl rfl rfl rfl rfl rfl rfl ?_
                refine D.gp 18 rfl rfl rfl rfl rfl rfl rfl rfl (Pu.pickF rfl rfl rfl) ?_
                refine D.gp 19 rfl rfl rfl rfl rfl rfl rfl rfl (Pu.notF rfl rfl) ?_
                refine D.p 20 rfl rfl rfl rfl rfl rfl (Pu.pickT rfl rfl rfl) ?_
                refine D.last hwf (e := 21) rfl rfl rfl rfl rfl rfl (Pu.assign rfl rfl) ?_
                refine X.blockNormal ?_
                refine X.next ?_
                refine V.region ?_
                refine O.p rfl rfl rfl (Pu.move rfl rfl) ?_
                refine O.p rfl rfl rfl (Pu.add64 (r := ((k + 1 : Nat) : Int)) rfl (by omega) rfl rfl rfl) ?_
                refine O.p rfl rfl rfl (Pu.assign rfl rfl) ?_
                refine O.nil ?_
                exact X.back3 (true, k + 1) (by (try dsimp only); exact ⟨by omega, apart_no ek hap c10⟩) (by first | omega | (dsimp only; omega)) (Ent.cons rfl (Ent.cons rfl (Ent.nil _))) (Ent.cons (t := 0) rfl (Ent.cons (t := 1) rfl (Ent.cons (t := 4) rfl (Ent.cons (t := 7) rfl (Ent.cons (t := 11) rfl (Ent.cons (t := 12) rfl (Ent.cons (t := 13) rfl (Ent.nil _)))))))) (Sub.keep 0 rfl (Sub.keep 0 rfl (Sub.keep 0 rfl (Sub.nil _))))
            · skip
              subst c9
              refine D.gs 2 rfl rfl rfl rfl rfl rfl rfl rfl rfl ?_
              refine D.gs 3 rfl rfl rfl rfl rfl rfl rfl rfl rfl ?_
              refine D.gs 4 rfl rfl rfl rfl rfl rfl rfl rfl rfl ?_
              refine D.gs 5 rfl rfl rfl rfl rfl rfl rfl rfl rfl ?_
              refine D.gs 6 rfl rfl rfl rfl rfl rfl rfl rfl rfl ?_
              refine D.gs 7 rfl rfl rfl rfl rfl rfl rfl rfl rfl ?_
              refine D.gs 8 rfl rfl rfl rfl rfl rfl rfl rfl rfl ?_
              refine D.gs 9 rfl rfl rfl rfl rfl rfl rfl rfl rfl ?_
              refine D.gs 10 rfl rfl rfl rfl rfl rfl rfl rfl rfl ?_
              refine D.gs 11 rfl rfl rfl rfl rfl rfl rfl rfl rfl ?_
              refine D.gs 12 rfl rfl rfl rfl rfl rfl rfl rfl rfl ?_
              refine D.gs 13 rfl rfl rfl rfl rfl rfl rfl rfl rfl ?_
              refine D.gs 14 rfl rfl rfl rfl rfl rfl rfl rfl rfl ?_
              refine D.gs 15 rfl rfl rfl rfl rfl rfl rfl rfl rfl ?_
              refine D.gs 16 rfl rfl rfl rfl rfl rfl rfl rfl rfl ?_
              refine D.gs 17 rfl rfl rfl rfl rfl rfl rfl rfl rfl ?_
              refine D.gs 18 rfl rfl rfl rfl rfl rfl rfl rfl rfl ?_
              refine D.gs 19 rfl rfl rfl rfl rfl rfl rfl rfl rfl ?_
              refine D.p 20 rfl rfl rfl rfl rfl rfl (Pu.pickF rfl rfl rfl) ?_
              refine D.last hwf (e := 21) rfl rfl rfl rfl rfl rfl (Pu.assign rfl rfl) ?_
              refine X.blockNormal ?_
              refine X.next ?_
              refine V.region ?_
              refine O.p rfl rfl rfl (Pu.move rfl rfl) ?_
              refine O.p rfl rfl rfl (Pu.add64 (r := ((k + 1 : Nat) : Int)) rfl (by omega) rfl rfl rfl) ?_
              refine O.p rfl rfl rfl (Pu.assign rfl rfl) ?_
              refine O.nil ?_
              exact X.back3 (false, k + 1) (by (try dsimp only); exact ⟨by omega, apart_off ek hap⟩) (by first | omega | (dsimp only; omega)) (Ent.cons rfl (Ent.cons rfl (Ent.nil _))) (Ent.cons (t := 0) rfl (Ent.cons (t := 1) rfl (Ent.cons (t := 4) rfl (Ent.cons (t := 7) rfl (Ent.cons (t := 11) rfl (Ent.cons (t := 12) rfl (Ent.cons (t := 13) rfl (Ent.nil _)))))))) (Sub.keep 0 rfl (Sub.keep 0 rfl (Sub.keep 0 rfl (Sub.nil _))))
          · skip
            refine V.exit ?_
            refine X.thenExit ?_
            refine X.thenExit ?_
            refine X.blockHit ?_
            refine X.next ?_
            refine V.seq ?_
            refine V.region ?_
            refine O.p rfl rfl rfl (Pu.move rfl rfl) ?_
            refine O.nil ?_
            refine X.next ?_
            refine V.cond rfl (fun c11 => ?_) (fun c11 => ?_)
            · skip
              subst c11
              have hap2 := (apB_iff (by omega)).1 hap.symm
              refine V.region ?_
              refine O.p rfl rfl rfl (Pu.move rfl rfl) ?_
              refine O.p rfl rfl rfl (Pu.move rfl rfl) ?_
              refine O.p rfl rfl rfl (Pu.indexAddrS (i) rfl Try.underlying54 sz2 rfl rfl (by omega) (by omega) (fun w hw => Own.some hw (i := 0) (by exact rfl) (by omega))) ?_
              refine O.p rfl rfl rfl (Pu.load rfl pl2 rfl (Ld.rd (Ld.own 0 (by exact rfl)) (k := i) ei rfl rfl)) ?_
              refine O.p rfl rfl rfl (Pu.assign rfl rfl) ?_
              refine O.nil ?_
              refine X.blockNormal ?_
              refine X.next ?_
              refine V.region ?_
              refine O.p rfl rfl rfl (Pu.move rfl rfl) ?_
              refine O.p rfl rfl rfl (Pu.add64 (r := ((i + 1 : Nat) : Int)) rfl (by omega) rfl rfl rfl) ?_
              refine O.p rfl rfl rfl (Pu.assign rfl rfl) ?_
              refine O.nil ?_
              exact X.back3 ((points[i]'ei), i + 1) (by (try dsimp only); exact ⟨by omega, by omega, by rw [take_snoc ei, lastL_snoc, if_pos (hpc.2 hap2)]⟩) (by first | omega | (dsimp only; omega)) (Ent.cons rfl (Ent.cons rfl (Ent.nil _))) (Ent.cons (t := 0) rfl (Ent.cons (t := 1) rfl (Ent.cons (t := 4) rfl (Ent.cons (t := 7) rfl (Ent.cons (t := 11) rfl (Ent.nil _)))))) (Sub.keep 0 rfl (Sub.keep 0 rfl (Sub.keep 0 rfl (Sub.nil _))))
            · skip
              subst c11
              have hap2 := fun h => Bool.false_ne_true (hap.trans ((apB_iff (fs := four) (a := points[0]'e0) (q := points[i]'ei) (k := k) (by omega)).2 h))
              refine V.skip ?_
              refine X.blockNormal ?_
              refine X.next ?_
              refine V.region ?_
              refine O.p rfl rfl rfl (Pu.move rfl rfl) ?_
              refine O.p rfl rfl rfl (Pu.add64 (r := ((i + 1 : Nat) : Int)) rfl (by omega) rfl rfl rfl) ?_
              refine O.p rfl rfl rfl (Pu.assign rfl rfl) ?_
              refine O.nil ?_
              exact X.back3 (last, i + 1) (by (try dsimp only); exact ⟨by omega, by omega, by rw [take_snoc ei, lastL_snoc, if_neg (fun h => hap2 (hpc.1 h))]; exact hla⟩) (by first | omega | (dsimp only; omega)) (Ent.cons rfl (Ent.cons rfl (Ent.nil _))) (Ent.cons (t := 0) rfl (Ent.cons (t := 1) rfl (Ent.cons (t := 4) rfl (Ent.cons (t := 7) rfl (Ent.cons (t := 11) rfl (Ent.nil _)))))) (Sub.keep 0 rfl (Sub.keep 0 rfl (Sub.keep 0 rfl (Sub.nil _))))
        · skip
          refine V.exit ?_
          refine X.thenExit ?_
          refine X.thenExit ?_
          refine X.blockHit ?_
          refine X.next ?_
          refine V.seq ?_
          refine V.seq ?_
          have hlb : last = ptB v_.toNat four := by rw [hla, List.take_of_length_le (by omega), hpN]; exact last_pts
          have hl0 := ptB_nonneg hv.1 h4 hg hP
          refine V.region ?_
          refine O.p rfl rfl rfl (Pu.move rfl rfl) ?_
          refine O.p rfl rfl rfl (Pu.lss rfl rfl rfl) ?_
          refine O.nil ?_
          refine X.next ?_
          refine V.condD rfl (fun c12 => ?_) (fun c12 => ?_)
          · skip
            exact absurd c12 (by omega)
          · skip
            refine V.skip ?_
            refine X.next ?_
            refine V.seq ?_
            have hpm : points[0]'e0 ∈ (ptsN (four.flatMap bl) v_.toNat) := by rw [← hpN]; exact List.getElem_mem e0
            have hpb := ptsN_mem.1 hpm
            have hlb2 : last < (v_.toNat : Int) := by rw [hlb]; exact lastP_lt.2
            refine V.region ?_
            refine O.e rfl rfl rfl (Ef.build B3C ([] : List B3) rfl Try.underlying28 inf67 rfl rfl rfl (by first | decide | (simp; done)) (by kernel_rfl)) ?_
            rintro _ _ ⟨A5, hA5, rfl, rfl⟩
            refine O.p rfl rfl rfl (Pu.assign rfl rfl) ?_
            refine O.nil ?_
            refine X.next ?_
            refine V.seq ?_
            refine V.seq ?_
            refine V.region ?_
            refine O.p rfl rfl rfl (Pu.assign rfl rfl) ?_
            refine O.nil ?_
            refine X.next ?_
            refine V.block ?_
            refine V.loop3 (β := (Option Addr) × Nat × (List B3) × Nat) (fun x => [(16, .slice x.1 x.2.2.1.length x.2.1), (17, .int .i64 (x.2.2.2 : Int))]) _ (fun x => [Own 67 B3C x.1 x.2.1 x.2.2.1]) _ (fun x => x.2.2.2 ≤ 4 ∧ x.2.2.1 = (four.take x.2.2.2).map (exB (points[0]'e0) last)) (fun x => 4 - x.2.2.2) (A5, 0, ([] : List B3), 0) (by (try dsimp only); exact ⟨by omega, rfl⟩) (Ent.cons rfl (Ent.cons rfl (Ent.nil _))) (Ent.cons (t := 0) rfl (Ent.cons (t := 1) rfl (Ent.cons (t := 4) rfl (Ent.cons (t := 11) rfl (Ent.cons (t := 12) rfl (Ent.nil _)))))) (Sub.keep 0 rfl (Sub.keep 0 rfl (Sub.keep 0 rfl (Sub.keep 0 rfl (Sub.nil _))))) ?_
            rintro ⟨in_A, in_c, in_, i⟩ ⟨hi, hin⟩
            dsimp only at hi hin ⊢
            have hil : in_.length = i := by rw [hin, List.length_map, List.length_take]; omega
            refine V.seq ?_
            refine V.seq ?_
            refine V.region ?_
            refine O.p rfl rfl rfl (Pu.move rfl rfl) ?_
            refine O.p rfl rfl rfl (Pu.lss rfl rfl rfl) ?_
            refine O.nil ?_
            refine X.next ?_
            refine V.condD rfl (fun c13 => ?_) (fun c13 => ?_)
            · skip
              refine V.skip ?_
              refine X.next ?_
              refine V.seq ?_
              refine V.block ?_
              have ej : i < four.length := by omega
              have hgj := hg _ (List.getElem_mem ej)
              unfold good at hgj
              refine V.region ?_
              refine O.p rfl rfl rfl (Pu.move rfl rfl) ?_
              refine O.p rfl rfl rfl (Pu.move rfl rfl) ?_
              refine O.p rfl rfl rfl (Pu.move rfl rfl) ?_
              refine O.p rfl rfl rfl (Pu.indexAddr (i) rfl Try.underlying28 sz67 rfl rfl (by omega) (by omega) (hfour.some (by omega))) ?_
              refine O.p rfl rfl rfl (Pu.loadAgg' (v := B3.v (four[i]'ej)) rfl rfl ag67 sz67 rfl rfl (Ld.rds (Ld.old hfour) (k := i) ej rfl)) ?_
              refine O.p rfl rfl rfl (Pu.move rfl rfl) ?_
              refine O.p rfl rfl rfl (Pu.move rfl rfl) ?_
              refine O.e rfl rfl rfl (Ef.callP call75 rfl rfl (fun w hw => l04ExchangedT_ok  (four[i]'ej) (points[0]'e0) last w   (by omega) (by omega) (by omega))) ?_
              rintro _ _ ⟨rfl, rfl⟩
              refine O.e rfl rfl rfl (Ef.build B3C ([(exB (points[0]'e0) last (four[i]'ej))] : List B3) rfl Try.underlying28 inf67 rfl rfl rfl (by first | decide | (simp; done)) (by kernel_rfl)) ?_
              rintro _ _ ⟨A6, hA6, rfl, rfl⟩
              refine O.e rfl rfl rfl (Ef.append (xs := in_) (ys := ([(exB (points[0]'e0) last (four[i]'ej))] : List B3)) 1 rfl Try.underlying28 inf67 rfl rfl rfl rfl rfl rfl hA6 (Ld.own 0 (by exact rfl)) (by simp only [List.length_append, List.length_cons, List.length_nil] at *; omega) (by decide)) ?_
              rintro _ _ ⟨A7, k2, rfl, rfl, hA7⟩
              replace hA7 := hA7 (.inr (by simp))
              refine O.p rfl rfl rfl (Pu.assign rfl rfl) ?_
              refine O.nil ?_
              refine X.blockNormal ?_
              refine X.next ?_
              refine V.region ?_
              refine O.p rfl rfl rfl (Pu.move rfl rfl) ?_
              refine O.p rfl rfl rfl (Pu.add64 (r := ((i + 1 : Nat) : Int)) rfl (by omega) rfl rfl rfl) ?_
              refine O.p rfl rfl rfl (Pu.assign rfl rfl) ?_
              refine O.nil ?_
              exact X.back3 (A7, k2, (in_ ++ ([(exB (points[0]'e0) last (four[i]'ej))] : List B3)), i + 1) (by (try dsimp only); exact ⟨by omega, by rw [take_snoc ej, List.map_append, hin]; rfl⟩) (by first | omega | (dsimp only; omega)) (Ent.cons rfl (Ent.cons rfl (Ent.nil _))) (Ent.cons (t := 0) rfl (Ent.cons (t := 1) rfl (Ent.cons (t := 4) rfl (Ent.cons (t := 11) rfl (Ent.cons (t := 12) rfl (Ent.nil _)))))) (Sub.keep 1 rfl (Sub.keep 1 rfl (Sub.keep 1 rfl (Sub.keep 1 rfl (Sub.nil _)))))
            · skip
              refine V.exit ?_
              refine X.thenExit ?_
              refine X.thenExit ?_
              refine X.blockHit ?_
              refine X.next ?_
              refine V.seq ?_
              refine V.region ?_
              refine O.p rfl rfl rfl (Pu.move rfl rfl) ?_
              refine O.p rfl rfl rfl (Pu.move rfl rfl) ?_
              refine O.p rfl rfl rfl (Pu.move rfl rfl) ?_
              refine O.e rfl rfl rfl (Ef.call1 call76 rfl rfl (fun w hw => l04MadeT_ok  v_ four in_ _ _ _ _ w ((Ld.old hfour) w hw) ((Ld.own 0 (by exact rfl)) w hw) (by first | omega | (simp only [tops_len, conts_len, bl, List.length_append, List.length_cons, List.length_nil] at *; omega)) (by first | omega | (simp only [tops_len, conts_len, bl, List.length_append, List.length_cons, List.length_nil] at *; omega)) (by omega) (by omega))) ?_
              rintro _ _ rfl
              refine O.exi (fun o1A => ?_)
              refine O.exi (fun o1c => ?_)
              refine O.exi (fun o1 => ?_)
              refine O.exi (fun i1A => ?_)
              refine O.exi (fun i1c => ?_)
              refine O.exi (fun i1 => ?_)
              refine O.sep ?_
              refine O.pur ?_
              rintro ⟨rfl, ho1_1, ho1_2⟩
              refine O.sep ?_
              refine O.s rfl rfl (Ef.storeAll 5 rfl sz74 rfl rfl rfl rfl (by simp [Value.oneCell']) rfl) ?_
              rintro _ _ rfl
              refine O.p rfl rfl rfl (Pu.assign rfl rfl) ?_
              refine O.nil ?_
              refine X.next ?_
              refine V.ret ?_
              refine X.retCell2 rfl ag74 sz74 rfl rfl rfl (Ld.whole 5 rfl) ?_
              exact fun w hw => St.mkExi o1A (St.mkExi o1c (St.mkExi o1 (St.mkExi i1A (St.mkExi i1c (St.mkExi i1 (St.unsep (St.addPur ⟨(by rw [if_pos hP, decide_eq_true hP]), (fun _ => ⟨srtB_unique ho1_1.2 (srtB_lt hlt) ho1_1.1, by rw [← hf, ← hlb]; exact ⟨by have h := ho1_2.1; rw [hin, List.take_of_length_le (by omega)] at h; exact h, ho1_2.2⟩⟩)⟩ (St.unsep (hw.sub (Sub.keep 0 rfl (Sub.keep 0 rfl (Sub.nil _))))))))))))
end Go.Proofs.Ytphgcnegmkafiaa
