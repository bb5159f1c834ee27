/-
  Pasch at points.
-/
import Derived.Test.YtnbbkcpafkooaaaL
import Derived.Test.YtnbbkcpafkooaaaS
import Derived.Test.YtnbbkcpafkooaaaU
import Derived.Test.YtnbbkcpafkooaaaPureAt
set_option linter.unusedVariables false
set_option linter.unusedSimpArgs false
namespace Go.Proofs.Ytnbbkcpafkooaaa
open Go Go.RowKit Go.Vc Go.Proofs
set_option maxRecDepth 100000 in
set_option maxHeartbeats 1000000 in
theorem paschAt1_ok (i : Int) (v : Int) (bs : List B3) (b_0 : Nat) (p : Nat) (b_1 : Nat) (A : Option Addr) (c : Nat) (w : World) (hx : Rd B3C w A bs) (hb_0 : RdB w b_0 [.int .i64 v, .slice A bs.length c]) (hb_1 : RdB w b_1 [.int .i64 (p : Int)]) (lx : bs.length ≤ 4611686018427387904) (hi : okIx bs i) : Does Try.prog 49 [.int .i64 i, .pointer (some ⟨b_0, 0, none⟩), .pointer (some ⟨b_1, 0, none⟩)] w [] (fun r => [.pur (r = .bool (decide (has (blk bs i) p)))]) := by
  refine Does.enter Try.func49 rfl rfl [(0, .int .i64 i), (1, .pointer (some ⟨b_0, 0, none⟩)), (2, .pointer (some ⟨b_1, 0, none⟩))] rfl ?_
  have hi2 := hi
  unfold okIx at hi2
  refine V.seq ?_
  refine V.region ?_
  refine O.p rfl rfl rfl (Pu.assign rfl rfl) ?_
  refine O.nil ?_
  refine X.next ?_
  refine V.seq ?_
  refine V.ent (Ent.cons (t := 0) rfl (Ent.cons (t := 1) rfl (Ent.cons (t := 2) rfl (Ent.nil _)))) ?_
  refine V.draw mo (by kernel_rfl) (fun hwf => ?_)
  refine D.p 0 rfl rfl rfl rfl rfl rfl (Pu.fieldAddr 1 rfl Try.underlying31 rfl sz29 rfl rfl) ?_
  refine D.p 1 rfl rfl rfl rfl rfl rfl (Pu.load rfl pl29 rfl (Ld.rdb hb_0 rfl)) ?_
  refine D.p 2 rfl rfl rfl rfl rfl rfl (Pu.move rfl rfl) ?_
  refine D.p 3 rfl rfl rfl rfl rfl rfl (Pu.indexAddr ((i).toNat) rfl Try.underlying29 sz66 rfl rfl (by omega) (by omega) (hx.some (by omega))) ?_
  have e1 : (i).toNat < bs.length := by omega
  refine D.p 4 rfl rfl rfl rfl rfl rfl (Pu.loadAgg' (v := B3.v (bs[(i).toNat]'e1)) rfl rfl ag66 sz66 rfl rfl (Ld.rds (Ld.old hx) (k := (i).toNat) e1 rfl)) ?_
  refine D.p 5 rfl rfl rfl rfl rfl rfl (Pu.load rfl pl2 rfl (Ld.rdb hb_1 rfl)) ?_
  refine D.eff hwf (e := 6) rfl rfl rfl rfl (Ef.callP call50 rfl rfl (fun w hw => has_ok (bs[(i).toNat]'e1) _ w)) rfl rfl rfl ?_
  rintro _ _ ⟨rfl, rfl⟩ hs
  refine ⟨fun w hw => hw, ?_⟩
  refine D.p 7 rfl rfl rfl rfl rfl rfl (Pu.assign rfl rfl) ?_
  refine D.done hwf rfl ?_
  refine X.next ?_
  refine V.ret ?_
  refine X.ret1 rfl rfl ?_
  exact fun w hw => St.retP (boolD (by rw [blk_ix hi])) hw

set_option maxRecDepth 100000 in
set_option maxHeartbeats 1000000 in
theorem implPaschAtPoints_ok (v : Int) (bs : List B3) (A : Option Addr) (c : Nat) (w : World) (hx : Rd B3C w A bs) (lx : bs.length ≤ 4611686018427387904) : Does Try.prog 28 [.agg #[.int .i64 v, .slice A bs.length c]] w [] (fun r => [.exi fun (oA : Option Addr) => .exi fun (oc : Nat) => .exi fun (o : List Int) => .sep (.pur (r = .tuple #[.slice oA o.length oc, .int .i64 (if STS v bs then 0 else 1)] ∧ PAR v bs o ∧ o.length ≤ 15)) (Own 2 I64 oA oc o)]) := by
  refine Does.enter Try.func28 rfl rfl [(0, .agg #[.int .i64 v, .slice A bs.length c])] rfl ?_
  refine V.seq ?_
  refine V.region ?_
  refine O.e rfl rfl rfl (Ef.box rfl rfl rfl) ?_
  rintro _ _ ⟨b1, rfl, rfl⟩
  refine O.p rfl rfl rfl (Pu.assign rfl rfl) ?_
  refine O.p rfl rfl rfl (Pu.assign rfl rfl) ?_
  refine O.nil ?_
  refine X.next ?_
  refine V.seq ?_
  refine V.seq ?_
  refine V.region ?_
  refine O.p rfl rfl rfl (Pu.loadAgg rfl ag31 sz31 rfl rfl (Ld.whole 0 rfl)) ?_
  refine O.e rfl rfl rfl (Ef.callP call32 rfl rfl (fun w hw => IsSystem_ok _ bs _ _ w ((Ld.old hx) w hw) (by omega))) ?_
  rintro _ _ ⟨rfl, rfl⟩
  refine O.p rfl rfl rfl (Pu.not rfl rfl) ?_
  refine O.nil ?_
  refine X.next ?_
  refine V.condNot rfl (fun c1 => ?_) (fun c1 => ?_)
  · skip
    refine V.seq ?_
    refine V.region ?_
    refine O.p rfl rfl rfl (Pu.assign rfl rfl) ?_
    refine O.p rfl rfl rfl (Pu.assign rfl rfl) ?_
    refine O.nil ?_
    refine X.next ?_
    refine V.ret ?_
    refine X.thenRet ?_
    refine X.ret2 rfl rfl rfl ?_
    exact fun w hw => St.mkExi none (St.mkExi 0 (St.mkExi [] (St.unsep (St.addPur ⟨by rw [if_neg c1]; rfl, ⟨fun h => absurd h c1, fun _ => rfl⟩, by simp⟩ (St.addNil (T := 2) (C := I64) (hw.sub (Sub.nil _)))))))
  · skip
    have hlo := c1.lo
    have hhi := c1.hi
    have hfew := c1.few
    have hg : ∀ b ∈ bs, good 15 b := fun b h => (c1.good b h).mono c1.hi
    refine V.skip ?_
    refine X.next ?_
    refine V.seq ?_
    refine V.region ?_
    refine O.p rfl rfl rfl (Pu.fieldAddr 0 rfl Try.underlying31 rfl sz2 rfl rfl) ?_
    refine O.p rfl rfl rfl (Pu.load rfl pl2 rfl (Ld.blk 0 rfl rfl)) ?_
    refine O.e rfl rfl rfl (Ef.makeI (n := (v).toNat) I64 (0 : Int) rfl Try.underlying47 inf2 rfl rfl rfl rfl (by omega) (by omega) (by omega)) ?_
    rintro _ _ ⟨A1, hA1, rfl, rfl⟩
    refine O.p rfl rfl rfl (Pu.assign rfl rfl) ?_
    refine O.nil ?_
    refine X.next ?_
    refine V.seq ?_
    refine V.seq ?_
    refine V.region ?_
    refine O.p rfl rfl rfl (Pu.loadAgg rfl ag31 sz31 rfl rfl (Ld.whole 1 rfl)) ?_
    refine O.e rfl rfl rfl (Ef.call1 call47 rfl rfl (fun w hw => paschs_ok  v bs _ _ w ((Ld.old hx) w hw) (by first | omega | (simp only [tops_len, conts_len, bl, List.length_append, List.length_cons, List.length_nil] at *; omega)) (by first | assumption | omega | (try dsimp only at *; omega)))) ?_
    rintro _ _ rfl
    refine O.exi (fun p1A => ?_)
    refine O.exi (fun p1c => ?_)
    refine O.exi (fun p1 => ?_)
    refine O.sep ?_
    refine O.pur ?_
    rintro ⟨rfl, hp1_1, hp1_2⟩
    refine O.sep ?_
    refine O.fact (RowsA.len 1 rfl) (fun hn_p1 => ?_)
    have htl_p1 := tops_len p1
    refine O.p rfl rfl rfl (Pu.len rfl Try.underlying38 rfl) ?_
    refine O.p rfl rfl rfl (Pu.move rfl rfl) ?_
    refine O.nil ?_
    refine X.next ?_
    refine V.block ?_
    refine V.loop3 (β := Nat × (List Int)) (fun x => [(17, .int .i64 (x.1 : Int))]) _ (fun x => [Own 2 I64 A1 (v).toNat x.2]) _ (fun x => x.1 ≤ p1.length ∧ x.2 = mixP bs (conts p1) v.toNat x.1 0) (fun x => p1.length - x.1) (0, (List.replicate ((v).toNat) (0 : Int))) (by (try dsimp only); exact ⟨by omega, mixP_start.symm⟩) (Ent.cons rfl (Ent.nil _)) (Ent.cons (t := 1) rfl (Ent.cons (t := 2) rfl (Ent.cons (t := 3) rfl (Ent.cons (t := 4) rfl (Ent.cons (t := 15) rfl (Ent.cons (t := 16) rfl (Ent.nil _))))))) (Sub.keep 2 rfl (Sub.keep 0 rfl (Sub.keep 0 rfl (Sub.keep 0 rfl (Sub.nil _))))) ?_
    rintro ⟨i, o⟩ ⟨hi, ho⟩
    dsimp only at hi ho ⊢
    refine V.seq ?_
    refine V.region ?_
    refine O.p rfl rfl rfl (Pu.lss rfl rfl rfl) ?_
    refine O.nil ?_
    refine X.next ?_
    refine V.seq ?_
    refine V.condD rfl (fun c2 => ?_) (fun c2 => ?_)
    · skip
      refine V.skip ?_
      refine X.next ?_
      refine V.seq ?_
      refine V.block ?_
      refine V.seq ?_
      refine V.region ?_
      refine O.p rfl rfl rfl (Pu.indexAddrS (i) rfl Try.underlying38 sz47 rfl rfl (by omega) (by omega) (fun w hw => Own.some hw (i := 1) (by exact rfl) (by omega))) ?_
      have e1 : i < p1.length := by have := tops_len p1; omega
      refine O.p rfl rfl rfl (Pu.load rfl pl47 rfl (Ld.row (Ld.own 1 (by exact rfl)) hn_p1 e1 rfl)) ?_
      refine O.p rfl rfl rfl (Pu.assign rfl rfl) ?_
      refine O.nil ?_
      refine X.next ?_
      refine V.seq ?_
      have hq : PQ bs (p1[i]'e1).2 := (hp1_1.2 _).1 (conts_get p1 (k := i) (by rw [conts_len]; exact e1) ▸ List.getElem_mem _)
      refine V.region ?_
      refine O.p rfl rfl rfl (Pu.fieldAddr 0 rfl Try.underlying31 rfl sz2 rfl rfl) ?_
      refine O.p rfl rfl rfl (Pu.load rfl pl2 rfl (Ld.blk 3 rfl rfl)) ?_
      refine O.p rfl rfl rfl (Pu.move rfl rfl) ?_
      refine O.nil ?_
      refine X.next ?_
      refine V.block ?_
      refine V.loop3 (β := Nat × (List Int)) (fun x => [(23, .int .i64 (x.1 : Int))]) _ (fun x => [Own 2 I64 A1 (v).toNat x.2]) _ (fun x => x.1 ≤ v.toNat ∧ x.2 = mixP bs (conts p1) v.toNat i x.1) (fun x => v.toNat - x.1) (0, o) (by (try dsimp only); exact ⟨by omega, ho⟩) (Ent.cons rfl (Ent.nil _)) (Ent.cons (t := 1) rfl (Ent.cons (t := 2) rfl (Ent.cons (t := 3) rfl (Ent.cons (t := 4) rfl (Ent.cons (t := 6) rfl (Ent.cons (t := 15) rfl (Ent.cons (t := 16) rfl (Ent.cons (t := 17) rfl (Ent.cons (t := 22) rfl (Ent.nil _)))))))))) (Sub.keep 0 rfl (Sub.keep 0 rfl (Sub.keep 0 rfl (Sub.keep 0 rfl (Sub.nil _))))) ?_
      rintro ⟨p, o2⟩ ⟨hp, ho2⟩
      dsimp only at hp ho2 ⊢
      subst ho2
      have hcl := conts_len p1
      have hln := mixP_len (bs := bs) (ls := conts p1) (n := v.toNat) (i := i) (p := p)
      have hbd := hitsP_bd (bs := bs) (ls := conts p1) (i := i) (p : Int)
      have hge := fun (h : p < v.toNat) => mixP_get (bs := bs) (ls := conts p1) (i := i) h (by rw [mixP_len]; exact h)
      refine V.seq ?_
      refine V.region ?_
      refine O.p rfl rfl rfl (Pu.lss rfl rfl rfl) ?_
      refine O.nil ?_
      refine X.next ?_
      refine V.seq ?_
      refine V.condD rfl (fun c3 => ?_) (fun c3 => ?_)
      · skip
        refine V.skip ?_
        refine X.next ?_
        refine V.seq ?_
        refine V.block ?_
        refine V.seq ?_
        refine V.region ?_
        refine O.p rfl rfl rfl (Pu.move rfl rfl) ?_
        refine O.e rfl rfl rfl (Ef.alloc rfl zr2 rfl) ?_
        rintro _ _ ⟨b2, rfl, rfl⟩
        refine O.s rfl rfl (Ef.store1 (cs' := [_]) 0 rfl sz2 rfl rfl rfl rfl rfl (ltb rfl) rfl) ?_
        rintro _ _ rfl
        refine O.nil ?_
        refine X.next ?_
        refine V.seq ?_
        refine V.region ?_
        refine O.p rfl rfl rfl (Pu.move rfl rfl) ?_
        refine O.p rfl rfl rfl (Pu.makeFunc rfl rfl) ?_
        refine O.e rfl rfl rfl (Ef.callP call48 rfl rfl (fun w hw => containsFunc_ok (fun k => has (blk bs k) (p : Int)) 49 _ (p1[i]'e1).2 _ _ w call49 ((Ld.rows 3 (by exact rfl) e1) w hw) (hn_p1.le e1) (fun k hk w' hb => paschAt1_ok _ v bs _ p _ _ _ w' ((hx.st hw).below hb) ((Blk.rdb hw (i := 4) rfl).below hb) ((Blk.rdb hw (i := 0) rfl).below hb) lx (hq.ix _ (List.getElem_mem hk))))) ?_
        rintro _ _ ⟨rfl, rfl⟩
        refine O.nil ?_
        refine X.next ?_
        refine V.condD rfl (fun c4 => ?_) (fun c4 => ?_)
        · skip
          have hg2 := hge (by omega)
          refine V.region ?_
          refine O.p rfl rfl rfl (Pu.move rfl rfl) ?_
          refine O.p rfl rfl rfl (Pu.load rfl pl2 rfl (Ld.blk 0 rfl rfl)) ?_
          refine O.p rfl rfl rfl (Pu.indexAddrS (p) rfl Try.underlying47 sz2 rfl rfl (by omega) (by omega) (fun w hw => Own.some hw (i := 1) (by exact rfl) (by omega))) ?_
          have e2 : p < (mixP bs (conts p1) v.toNat i p).length := by omega
          refine O.p rfl rfl rfl (Pu.load rfl pl2 rfl (Ld.rd (Ld.own 1 (by exact rfl)) (k := p) e2 rfl rfl)) ?_
          refine O.p rfl rfl rfl (Pu.add64 rfl (by omega) rfl rfl rfl) ?_
          refine O.p rfl rfl rfl (Pu.indexAddrS (p) rfl Try.underlying47 sz2 rfl rfl (by omega) (by omega) (fun w hw => Own.some hw (i := 1) (by exact rfl) (by omega))) ?_
          refine O.s rfl rfl (Ef.storeOwn 1 (p) (((mixP bs (conts p1) v.toNat i p)[p]'e2) + (1 : Int)) rfl sz2 rfl rfl rfl rfl (by rw [mixP_len]; omega) rfl) ?_
          rintro _ _ rfl
          refine O.nil ?_
          refine X.blockNormal ?_
          refine X.next ?_
          refine V.region ?_
          refine O.p rfl rfl rfl (Pu.add64 (r := ((p + 1 : Nat) : Int)) rfl (by omega) rfl rfl rfl) ?_
          refine O.p rfl rfl rfl (Pu.move rfl rfl) ?_
          refine O.nil ?_
          exact X.back3 (p + 1, ((mixP bs (conts p1) v.toNat i p).set (p) (((mixP bs (conts p1) v.toNat i p)[p]'e2) + (1 : Int)))) (by (try dsimp only); exact ⟨by omega, mixP_yes (by rw [conts_len]; exact e1) (by omega) (by rw [mixP_len]; omega) (by rw [conts_get]; exact c4)⟩) (by first | omega | (dsimp only; omega)) (Ent.cons rfl (Ent.nil _)) (Ent.cons (t := 1) rfl (Ent.cons (t := 2) rfl (Ent.cons (t := 3) rfl (Ent.cons (t := 4) rfl (Ent.cons (t := 6) rfl (Ent.cons (t := 15) rfl (Ent.cons (t := 16) rfl (Ent.cons (t := 17) rfl (Ent.cons (t := 22) rfl (Ent.nil _)))))))))) (Sub.keep 1 rfl (Sub.keep 1 rfl (Sub.keep 1 rfl (Sub.keep 1 rfl (Sub.nil _)))))
        · skip
          refine V.skip ?_
          refine X.blockNormal ?_
          refine X.next ?_
          refine V.region ?_
          refine O.p rfl rfl rfl (Pu.add64 (r := ((p + 1 : Nat) : Int)) rfl (by omega) rfl rfl rfl) ?_
          refine O.p rfl rfl rfl (Pu.move rfl rfl) ?_
          refine O.nil ?_
          exact X.back3 (p + 1, (mixP bs (conts p1) v.toNat i p)) (by (try dsimp only); exact ⟨by omega, mixP_no (by rw [conts_len]; exact e1) (by rw [conts_get]; exact c4)⟩) (by first | omega | (dsimp only; omega)) (Ent.cons rfl (Ent.nil _)) (Ent.cons (t := 1) rfl (Ent.cons (t := 2) rfl (Ent.cons (t := 3) rfl (Ent.cons (t := 4) rfl (Ent.cons (t := 6) rfl (Ent.cons (t := 15) rfl (Ent.cons (t := 16) rfl (Ent.cons (t := 17) rfl (Ent.cons (t := 22) rfl (Ent.nil _)))))))))) (Sub.keep 1 rfl (Sub.keep 1 rfl (Sub.keep 1 rfl (Sub.keep 1 rfl (Sub.nil _)))))
      · skip
        refine V.exit ?_
        refine X.thenExit ?_
        refine X.thenExit ?_
        refine X.blockHit ?_
        refine X.blockNormal ?_
        refine X.next ?_
        refine V.region ?_
        refine O.p rfl rfl rfl (Pu.add64 (r := ((i + 1 : Nat) : Int)) rfl (by omega) rfl rfl rfl) ?_
        refine O.p rfl rfl rfl (Pu.move rfl rfl) ?_
        refine O.nil ?_
        exact X.back3 (i + 1, (mixP bs (conts p1) v.toNat i p)) (by (try dsimp only); exact ⟨by omega, by rw [mixP_row (by omega)]⟩) (by first | omega | (dsimp only; omega)) (Ent.cons rfl (Ent.nil _)) (Ent.cons (t := 1) rfl (Ent.cons (t := 2) rfl (Ent.cons (t := 3) rfl (Ent.cons (t := 4) rfl (Ent.cons (t := 15) rfl (Ent.cons (t := 16) rfl (Ent.nil _))))))) (Sub.keep 0 rfl (Sub.keep 0 rfl (Sub.keep 0 rfl (Sub.keep 0 rfl (Sub.nil _)))))
    · skip
      refine V.exit ?_
      refine X.thenExit ?_
      refine X.thenExit ?_
      refine X.blockHit ?_
      refine X.next ?_
      refine V.seq ?_
      refine V.region ?_
      refine O.p rfl rfl rfl (Pu.move rfl rfl) ?_
      refine O.p rfl rfl rfl (Pu.assign rfl rfl) ?_
      refine O.p rfl rfl rfl (Pu.assign rfl rfl) ?_
      refine O.nil ?_
      refine X.next ?_
      refine V.ret ?_
      refine X.ret2 rfl rfl rfl ?_
      exact fun w hw => St.mkExi A1 (St.mkExi ((v).toNat) (St.mkExi o (St.unsep (St.addPur ⟨by rw [if_pos c1, show o.length = v.toNat by rw [ho, mixP_len]], ⟨fun _ => ⟨conts p1, hp1_1, by rw [ho, conts_len, show i = p1.length by omega]⟩, fun h => absurd c1 h⟩, by rw [ho, mixP_len]; omega⟩ (hw.sub (Sub.keep 0 rfl (Sub.nil _)))))))

set_option maxRecDepth 100000 in
set_option maxHeartbeats 1000000 in
theorem specPaschAtPoints_ok (v : Int) (bs : List B3) (A : Option Addr) (c : Nat) (w : World) (hx : Rd B3C w A bs) (lx : bs.length ≤ 4611686018427387904) : Does Try.prog 27 [.agg #[.int .i64 v, .slice A bs.length c]] w [] (fun r => [.exi fun (oA : Option Addr) => .exi fun (oc : Nat) => .exi fun (o : List Int) => .sep (.pur (r = .tuple #[.slice oA o.length oc, .int .i64 (if STS v bs then 0 else 1)] ∧ PAR v bs o ∧ o.length ≤ 15)) (Own 2 I64 oA oc o)]) := by
  refine Does.enter Try.func27 rfl rfl [(0, .agg #[.int .i64 v, .slice A bs.length c])] rfl ?_
  refine V.seq ?_
  refine V.region ?_
  refine O.e rfl rfl rfl (Ef.box rfl rfl rfl) ?_
  rintro _ _ ⟨b1, rfl, rfl⟩
  refine O.p rfl rfl rfl (Pu.assign rfl rfl) ?_
  refine O.p rfl rfl rfl (Pu.assign rfl rfl) ?_
  refine O.nil ?_
  refine X.next ?_
  refine V.seq ?_
  refine V.seq ?_
  refine V.region ?_
  refine O.p rfl rfl rfl (Pu.loadAgg rfl ag31 sz31 rfl rfl (Ld.whole 0 rfl)) ?_
  refine O.e rfl rfl rfl (Ef.callP call31 rfl rfl (fun w hw => l01Is_ok _ bs _ _ w ((Ld.old hx) w hw) (by omega))) ?_
  rintro _ _ ⟨rfl, rfl⟩
  refine O.p rfl rfl rfl (Pu.not rfl rfl) ?_
  refine O.nil ?_
  refine X.next ?_
  refine V.condNot rfl (fun c1 => ?_) (fun c1 => ?_)
  · skip
    refine V.seq ?_
    refine V.region ?_
    refine O.p rfl rfl rfl (Pu.assign rfl rfl) ?_
    refine O.p rfl rfl rfl (Pu.assign rfl rfl) ?_
    refine O.nil ?_
    refine X.next ?_
    refine V.ret ?_
    refine X.thenRet ?_
    refine X.ret2 rfl rfl rfl ?_
    exact fun w hw => St.mkExi none (St.mkExi 0 (St.mkExi [] (St.unsep (St.addPur ⟨by rw [if_neg c1]; rfl, ⟨fun h => absurd h c1, fun _ => rfl⟩, by simp⟩ (St.addNil (T := 2) (C := I64) (hw.sub (Sub.nil _)))))))
  · skip
    have hlo := c1.lo
    have hhi := c1.hi
    have hfew := c1.few
    have hg : ∀ b ∈ bs, good 15 b := fun b h => (c1.good b h).mono c1.hi
    refine V.skip ?_
    refine X.next ?_
    refine V.seq ?_
    refine V.cutE (β := (Option Addr) × Nat × (List (Sl × List Int)) × (Option Addr) × Nat × (List Int)) (fun x => [(4, .slice x.1 (tops x.2.2.1).length x.2.1), (5, .slice x.2.2.2.1 v.toNat x.2.2.2.2.1)]) _ (fun x => [Own 47 SlC x.1 x.2.1 (tops x.2.2.1), RowsA 2 I64 x.2.2.1, Own 2 I64 x.2.2.2.1 x.2.2.2.2.1 x.2.2.2.2.2]) _ (fun x => (IsList (PQ bs) (conts x.2.2.1) ∧ x.2.2.1.length ≤ 2450) ∧ x.2.2.2.2.2 = List.replicate v.toNat 0 ∧ x.2.2.2.1.isSome = true) (Ent.cons (t := 1) rfl (Ent.cons (t := 2) rfl (Ent.cons (t := 3) rfl (Ent.nil _)))) (Sub.keep 0 rfl (Sub.nil _)) ?_ ?_
    · skip
      refine V.draw mo (by kernel_rfl) (fun hwf => ?_)
      refine D.p 0 rfl rfl rfl rfl rfl rfl (Pu.loadAgg rfl ag31 sz31 rfl rfl (Ld.whole 0 rfl)) ?_
      refine D.p 2 rfl rfl rfl rfl rfl rfl (Pu.fieldAddr 0 rfl Try.underlying31 rfl sz2 rfl rfl) ?_
      refine D.p 3 rfl rfl rfl rfl rfl rfl (Pu.load rfl pl2 rfl (Ld.blk 0 rfl rfl)) ?_
      refine D.either hwf (e1 := 1) (e2 := 4) rfl ?_ ?_
      · skip
        refine ⟨_, _, rfl, rfl, fun _ _ => wanted_none rfl _, Ef.call1 call45 rfl rfl (fun w hw => l03Pasch_ok  v bs _ _ w ((Ld.old hx) w hw) (by first | omega | (simp only [tops_len, conts_len, bl, List.length_append, List.length_cons, List.length_nil] at *; omega)) (by first | assumption | omega | (try dsimp only at *; omega))), rfl, rfl, ?_⟩
        rintro _ _ rfl hs
        refine ⟨fun w hw => hs w hw.tail, ?_⟩
        refine D.exi (fun p1A => ?_)
        refine D.exi (fun p1c => ?_)
        refine D.exi (fun p1 => ?_)
        refine D.sep ?_
        refine D.pur1 ?_
        rintro ⟨rfl, hp1_1, hp1_2⟩
        refine D.sep ?_
        refine D.pur (RowsA.len 1 rfl) (fun hn_p1 => ?_)
        have htl_p1 := tops_len p1
        refine D.p 5 rfl rfl rfl rfl rfl rfl (Pu.assign rfl rfl) ?_
        refine D.eff hwf (e := 4) rfl rfl rfl rfl (Ef.makeI (n := (v).toNat) I64 (0 : Int) rfl Try.underlying47 inf2 rfl rfl rfl rfl (by omega) (by omega) (by omega)) rfl rfl rfl ?_
        rintro _ _ ⟨A1, hA1, rfl, rfl⟩ hs
        refine ⟨fun w hw => hw.sub (Sub.keep 3 rfl (Sub.nil _)), ?_⟩
        refine D.p 6 rfl rfl rfl rfl rfl rfl (Pu.assign rfl rfl) ?_
        refine D.done hwf rfl ?_
        exact X.cutE (p1A, p1c, p1, A1, (v).toNat, (List.replicate ((v).toNat) (0 : Int))) (by (try dsimp only); exact ⟨⟨hp1_1, hp1_2⟩, rfl, hA1⟩) (Ent.cons' rfl (by first | rfl | (simp only [tops_append]; rfl)) (Ent.cons rfl (Ent.nil _))) (Ent.cons (t := 1) rfl (Ent.cons (t := 2) rfl (Ent.cons (t := 3) rfl (Ent.nil _)))) (Sub.keep 1 rfl (Sub.keep 1 rfl (Sub.keep 0 rfl (Sub.keep 0 rfl (Sub.nil _)))))
      · skip
        refine ⟨_, _, rfl, rfl, fun _ _ => wanted_none rfl _, Ef.makeI (n := (v).toNat) I64 (0 : Int) rfl Try.underlying47 inf2 rfl rfl rfl rfl (by omega) (by omega) (by omega), rfl, rfl, ?_⟩
        rintro _ _ ⟨A1, hA1, rfl, rfl⟩ hs
        refine ⟨fun w hw => hw.sub (Sub.keep 1 rfl (Sub.nil _)), ?_⟩
        refine D.eff hwf (e := 1) rfl rfl rfl rfl (Ef.call1 call45 rfl rfl (fun w hw => l03Pasch_ok  v bs _ _ w ((Ld.old hx) w hw) (by first | omega | (simp only [tops_len, conts_len, bl, List.length_append, List.length_cons, List.length_nil] at *; omega)) (by first | assumption | omega | (try dsimp only at *; omega)))) rfl rfl rfl ?_
        rintro _ _ rfl hs
        refine ⟨fun w hw => hs w hw.tail, ?_⟩
        refine D.exi (fun p1A => ?_)
        refine D.exi (fun p1c => ?_)
        refine D.exi (fun p1 => ?_)
        refine D.sep ?_
        refine D.pur1 ?_
        rintro ⟨rfl, hp1_1, hp1_2⟩
        refine D.sep ?_
        refine D.pur (RowsA.len 1 rfl) (fun hn_p1 => ?_)
        have htl_p1 := tops_len p1
        refine D.p 5 rfl rfl rfl rfl rfl rfl (Pu.assign rfl rfl) ?_
        refine D.p 6 rfl rfl rfl rfl rfl rfl (Pu.assign rfl rfl) ?_
        refine D.done hwf rfl ?_
        exact X.cutE (p1A, p1c, p1, A1, (v).toNat, (List.replicate ((v).toNat) (0 : Int))) (by (try dsimp only); exact ⟨⟨hp1_1, hp1_2⟩, rfl, hA1⟩) (Ent.cons' rfl (by first | rfl | (simp only [tops_append]; rfl)) (Ent.cons rfl (Ent.nil _))) (Ent.cons (t := 1) rfl (Ent.cons (t := 2) rfl (Ent.cons (t := 3) rfl (Ent.nil _)))) (Sub.keep 0 rfl (Sub.keep 0 rfl (Sub.keep 0 rfl (Sub.keep 0 rfl (Sub.nil _)))))
    · skip
      rintro ⟨p1A, p1c, p1, out0A, out0c, out0⟩ ⟨⟨hp1_1, hp1_2⟩, ho0, hs0⟩
      dsimp only at hp1_1 hp1_2 ho0 hs0 ⊢
      refine X.fact (RowsA.len 1 rfl) (fun hn_p1 => ?_)
      have htl_p1 := tops_len p1
      refine X.next ?_
      refine V.seq ?_
      refine V.seq ?_
      refine V.region ?_
      refine O.p rfl rfl rfl (Pu.assign rfl rfl) ?_
      refine O.nil ?_
      refine X.next ?_
      refine V.block ?_
      refine V.loop3 (β := Nat × (List Int)) (fun x => [(6, .int .i64 (x.1 : Int))]) _ (fun x => [Own 2 I64 out0A out0c x.2]) _ (fun x => x.1 ≤ p1.length ∧ x.2 = mixP bs (conts p1) v.toNat x.1 0) (fun x => p1.length - x.1) (0, out0) (by (try dsimp only); exact ⟨by omega, by rw [ho0]; exact mixP_start.symm⟩) (Ent.cons rfl (Ent.nil _)) (Ent.cons (t := 1) rfl (Ent.cons (t := 2) rfl (Ent.cons (t := 3) rfl (Ent.cons (t := 4) rfl (Ent.cons (t := 5) rfl (Ent.nil _)))))) (Sub.keep 2 rfl (Sub.keep 0 rfl (Sub.keep 0 rfl (Sub.keep 0 rfl (Sub.nil _))))) ?_
      rintro ⟨i, o⟩ ⟨hi, ho⟩
      dsimp only at hi ho ⊢
      refine V.seq ?_
      refine V.seq ?_
      refine V.region ?_
      refine O.p rfl rfl rfl (Pu.move rfl rfl) ?_
      refine O.p rfl rfl rfl (Pu.move rfl rfl) ?_
      refine O.p rfl rfl rfl (Pu.len rfl Try.underlying38 rfl) ?_
      refine O.p rfl rfl rfl (Pu.lss rfl rfl rfl) ?_
      refine O.nil ?_
      refine X.next ?_
      refine V.condD rfl (fun c2 => ?_) (fun c2 => ?_)
      · skip
        refine V.skip ?_
        refine X.next ?_
        refine V.seq ?_
        refine V.block ?_
        refine V.seq ?_
        refine V.region ?_
        refine O.p rfl rfl rfl (Pu.assign rfl rfl) ?_
        refine O.nil ?_
        refine X.next ?_
        refine V.block ?_
        refine V.loop3 (β := Nat × (List Int)) (fun x => [(7, .int .i64 (x.1 : Int))]) _ (fun x => [Own 2 I64 out0A out0c x.2]) _ (fun x => x.1 ≤ v.toNat ∧ x.2 = mixP bs (conts p1) v.toNat i x.1) (fun x => v.toNat - x.1) (0, o) (by (try dsimp only); exact ⟨by omega, ho⟩) (Ent.cons rfl (Ent.nil _)) (Ent.cons (t := 1) rfl (Ent.cons (t := 2) rfl (Ent.cons (t := 3) rfl (Ent.cons (t := 4) rfl (Ent.cons (t := 5) rfl (Ent.cons (t := 6) rfl (Ent.nil _))))))) (Sub.keep 0 rfl (Sub.keep 0 rfl (Sub.keep 0 rfl (Sub.keep 0 rfl (Sub.nil _))))) ?_
        rintro ⟨p, o2⟩ ⟨hp, ho2⟩
        dsimp only at hp ho2 ⊢
        subst ho2
        have hcl := conts_len p1
        have hln := mixP_len (bs := bs) (ls := conts p1) (n := v.toNat) (i := i) (p := p)
        have hbd := hitsP_bd (bs := bs) (ls := conts p1) (i := i) (p : Int)
        have hge := fun (h : p < v.toNat) => mixP_get (bs := bs) (ls := conts p1) (i := i) h (by rw [mixP_len]; exact h)
        refine V.seq ?_
        refine V.seq ?_
        refine V.region ?_
        refine O.p rfl rfl rfl (Pu.move rfl rfl) ?_
        refine O.p rfl rfl rfl (Pu.fieldAddr 0 rfl Try.underlying31 rfl sz2 rfl rfl) ?_
        refine O.p rfl rfl rfl (Pu.load rfl pl2 rfl (Ld.blk 3 rfl rfl)) ?_
        refine O.p rfl rfl rfl (Pu.lss rfl rfl rfl) ?_
        refine O.nil ?_
        refine X.next ?_
        refine V.condD rfl (fun c3 => ?_) (fun c3 => ?_)
        · skip
          refine V.skip ?_
          refine X.next ?_
          refine V.seq ?_
          refine V.block ?_
          refine V.seq ?_
          have ei : i < p1.length := by omega
          have hq : PQ bs (p1[i]'ei).2 := (hp1_1.2 _).1 (conts_get p1 (k := i) (by rw [conts_len]; exact ei) ▸ List.getElem_mem _)
          have hq4 := hq.four
          refine V.region ?_
          refine O.p rfl rfl rfl (Pu.assign rfl rfl) ?_
          refine O.nil ?_
          refine X.next ?_
          refine V.block ?_
          refine V.loop3 (β := Nat) (fun k => [(8, .int .i64 (k : Int))]) _ (fun k => []) _ (fun k => k ≤ 4 ∧ ∀ j (hj : j < (p1[i]'ei).2.length), j < k → ¬ has (blk bs ((p1[i]'ei).2[j])) (p : Int)) (fun k => 4 - k) 0 ⟨by omega, fun j hj h => by omega⟩ (Ent.cons rfl (Ent.nil _)) (Ent.cons (t := 1) rfl (Ent.cons (t := 2) rfl (Ent.cons (t := 3) rfl (Ent.cons (t := 4) rfl (Ent.cons (t := 5) rfl (Ent.cons (t := 6) rfl (Ent.cons (t := 7) rfl (Ent.nil _)))))))) (Sub.keep 0 rfl (Sub.keep 0 rfl (Sub.keep 0 rfl (Sub.keep 0 rfl (Sub.nil _))))) ?_
          rintro k ⟨hk, hn⟩
          refine V.seq ?_
          refine V.seq ?_
          refine V.region ?_
          refine O.p rfl rfl rfl (Pu.move rfl rfl) ?_
          refine O.p rfl rfl rfl (Pu.lss rfl rfl rfl) ?_
          refine O.nil ?_
          refine X.next ?_
          refine V.condD rfl (fun c4 => ?_) (fun c4 => ?_)
          · skip
            refine V.skip ?_
            refine X.next ?_
            refine V.seq ?_
            refine V.block ?_
            refine V.seq ?_
            have hix := hq.ix _ (List.getElem_mem (l := (p1[i]'ei).2) (n := k) (by omega))
            unfold okIx at hix
            refine V.draw mo (by kernel_rfl) (fun hwf => ?_)
            refine D.p 0 rfl rfl rfl rfl rfl rfl (Pu.fieldAddr 1 rfl Try.underlying31 rfl sz29 rfl rfl) ?_
            refine D.p 1 rfl rfl rfl rfl rfl rfl (Pu.load rfl pl29 rfl (Ld.blk 3 rfl rfl)) ?_
            refine D.p 2 rfl rfl rfl rfl rfl rfl (Pu.move rfl rfl) ?_
            refine D.p 3 rfl rfl rfl rfl rfl rfl (Pu.move rfl rfl) ?_
            refine D.p 4 rfl rfl rfl rfl rfl rfl (Pu.indexAddrS (i) rfl Try.underlying38 sz47 rfl rfl (by omega) (by omega) (fun w hw => Own.some hw (i := 1) (by exact rfl) (by omega))) ?_
            refine D.p 5 rfl rfl rfl rfl rfl rfl (Pu.load rfl pl47 rfl (Ld.row (Ld.own 1 (by exact rfl)) hn_p1 ei rfl)) ?_
            refine D.p 6 rfl rfl rfl rfl rfl rfl (Pu.move rfl rfl) ?_
            refine D.p 7 rfl rfl rfl rfl rfl rfl (Pu.indexAddrS (k) rfl Try.underlying47 sz2 rfl rfl (by omega) (by omega) (fun w hw => ((Ld.rows 2 (by exact rfl) ei) w hw).some (by omega))) ?_
            have e1 : k < (p1[i]'ei).2.length := by omega
            refine D.p 8 rfl rfl rfl rfl rfl rfl (Pu.load rfl pl2 rfl (Ld.rd (Ld.rows 2 (by exact rfl) ei) (k := k) e1 rfl rfl)) ?_
            refine D.p 9 rfl rfl rfl rfl rfl rfl (Pu.indexAddr ((((p1[i]'ei).2[k]'e1)).toNat) rfl Try.underlying29 sz66 rfl rfl (by omega) (by omega) (hx.some (by omega))) ?_
            have e2 : (((p1[i]'ei).2[k]'e1)).toNat < bs.length := by omega
            refine D.p 10 rfl rfl rfl rfl rfl rfl (Pu.loadAgg' (v := B3.v (bs[(((p1[i]'ei).2[k]'e1)).toNat]'e2)) rfl rfl ag66 sz66 rfl rfl (Ld.rds (Ld.old hx) (k := (((p1[i]'ei).2[k]'e1)).toNat) e2 rfl)) ?_
            refine D.p 11 rfl rfl rfl rfl rfl rfl (Pu.move rfl rfl) ?_
            refine D.eff hwf (e := 12) rfl rfl rfl rfl (Ef.callP call46 rfl rfl (fun w hw => l01With_ok (bs[(((p1[i]'ei).2[k]'e1)).toNat]'e2) _ w)) rfl rfl rfl ?_
            rintro _ _ ⟨rfl, rfl⟩ hs
            refine ⟨fun w hw => hw, ?_⟩
            refine D.done hwf rfl ?_
            refine X.next ?_
            refine V.condD rfl (fun c5 => ?_) (fun c5 => ?_)
            · skip
              refine V.seq ?_
              have hg2 := hge (by omega)
              refine V.region ?_
              refine O.p rfl rfl rfl (Pu.move rfl rfl) ?_
              refine O.p rfl rfl rfl (Pu.move rfl rfl) ?_
              refine O.p rfl rfl rfl (Pu.indexAddrS (p) rfl Try.underlying47 sz2 rfl rfl (by omega) (by omega) (fun w hw => Own.some hw (i := 0) (by exact rfl) (by omega))) ?_
              have e3 : p < (mixP bs (conts p1) v.toNat i p).length := by omega
              refine O.p rfl rfl rfl (Pu.load rfl pl2 rfl (Ld.rd (Ld.own 0 (by exact rfl)) (k := p) e3 rfl rfl)) ?_
              refine O.p rfl rfl rfl (Pu.add64 rfl (by omega) rfl rfl rfl) ?_
              refine O.p rfl rfl rfl (Pu.indexAddrS (p) rfl Try.underlying47 sz2 rfl rfl (by omega) (by omega) (fun w hw => Own.some hw (i := 0) (by exact rfl) (by omega))) ?_
              refine O.s rfl rfl (Ef.storeOwn 0 (p) (((mixP bs (conts p1) v.toNat i p)[p]'e3) + (1 : Int)) rfl sz2 rfl rfl rfl rfl (by rw [mixP_len]; omega) rfl) ?_
              rintro _ _ rfl
              refine O.nil ?_
              refine X.next ?_
              refine V.exit ?_
              refine X.blockMiss rfl ?_
              refine X.thenExit ?_
              refine X.thenExit ?_
              refine X.blockHit ?_
              refine X.blockNormal ?_
              refine X.next ?_
              refine V.region ?_
              refine O.p rfl rfl rfl (Pu.move rfl rfl) ?_
              refine O.p rfl rfl rfl (Pu.add64 (r := ((p + 1 : Nat) : Int)) rfl (by omega) rfl rfl rfl) ?_
              refine O.p rfl rfl rfl (Pu.assign rfl rfl) ?_
              refine O.nil ?_
              exact X.back3 (p + 1, ((mixP bs (conts p1) v.toNat i p).set (p) (((mixP bs (conts p1) v.toNat i p)[p]'e3) + (1 : Int)))) (by (try dsimp only); exact ⟨by omega, mixP_yes (by rw [conts_len]; exact ei) (by omega) (by rw [mixP_len]; omega) (by rw [conts_get]; exact ⟨_, List.getElem_mem (n := k) (by omega), by rw [blk_ix (hq.ix _ (List.getElem_mem _))]; exact c5⟩)⟩) (by first | omega | (dsimp only; omega)) (Ent.cons rfl (Ent.nil _)) (Ent.cons (t := 1) rfl (Ent.cons (t := 2) rfl (Ent.cons (t := 3) rfl (Ent.cons (t := 4) rfl (Ent.cons (t := 5) rfl (Ent.cons (t := 6) rfl (Ent.nil _))))))) (Sub.keep 0 rfl (Sub.keep 0 rfl (Sub.keep 0 rfl (Sub.keep 0 rfl (Sub.nil _)))))
            · skip
              refine V.skip ?_
              refine X.blockNormal ?_
              refine X.next ?_
              refine V.region ?_
              refine O.p rfl rfl rfl (Pu.move rfl rfl) ?_
              refine O.p rfl rfl rfl (Pu.add64 (r := ((k + 1 : Nat) : Int)) rfl (by omega) rfl rfl rfl) ?_
              refine O.p rfl rfl rfl (Pu.assign rfl rfl) ?_
              refine O.nil ?_
              exact X.back3 (k + 1) ⟨by omega, fun j hj h hh => by by_cases e : j = k; (· subst e; rw [blk_ix (hq.ix _ (List.getElem_mem _))] at hh; exact c5 hh); (· exact hn j hj (by omega) hh)⟩ (by first | omega | (dsimp only; omega)) (Ent.cons rfl (Ent.nil _)) (Ent.cons (t := 1) rfl (Ent.cons (t := 2) rfl (Ent.cons (t := 3) rfl (Ent.cons (t := 4) rfl (Ent.cons (t := 5) rfl (Ent.cons (t := 6) rfl (Ent.cons (t := 7) rfl (Ent.nil _)))))))) (Sub.keep 0 rfl (Sub.keep 0 rfl (Sub.keep 0 rfl (Sub.keep 0 rfl (Sub.nil _)))))
          · skip
            refine V.exit ?_
            refine X.thenExit ?_
            refine X.thenExit ?_
            refine X.blockHit ?_
            refine X.blockNormal ?_
            refine X.next ?_
            refine V.region ?_
            refine O.p rfl rfl rfl (Pu.move rfl rfl) ?_
            refine O.p rfl rfl rfl (Pu.add64 (r := ((p + 1 : Nat) : Int)) rfl (by omega) rfl rfl rfl) ?_
            refine O.p rfl rfl rfl (Pu.assign rfl rfl) ?_
            refine O.nil ?_
            exact X.back3 (p + 1, (mixP bs (conts p1) v.toNat i p)) (by (try dsimp only); exact ⟨by omega, mixP_no (by rw [conts_len]; exact ei) (by rw [conts_get]; rintro ⟨z, hz, hh⟩; obtain ⟨j, hj, rfl⟩ := List.getElem_of_mem hz; exact hn j hj (by omega) hh)⟩) (by first | omega | (dsimp only; omega)) (Ent.cons rfl (Ent.nil _)) (Ent.cons (t := 1) rfl (Ent.cons (t := 2) rfl (Ent.cons (t := 3) rfl (Ent.cons (t := 4) rfl (Ent.cons (t := 5) rfl (Ent.cons (t := 6) rfl (Ent.nil _))))))) (Sub.keep 0 rfl (Sub.keep 0 rfl (Sub.keep 0 rfl (Sub.keep 0 rfl (Sub.nil _)))))
        · skip
          refine V.exit ?_
          refine X.thenExit ?_
          refine X.thenExit ?_
          refine X.blockHit ?_
          refine X.blockNormal ?_
          refine X.next ?_
          refine V.region ?_
          refine O.p rfl rfl rfl (Pu.move rfl rfl) ?_
          refine O.p rfl rfl rfl (Pu.add64 (r := ((i + 1 : Nat) : Int)) rfl (by omega) rfl rfl rfl) ?_
          refine O.p rfl rfl rfl (Pu.assign rfl rfl) ?_
          refine O.nil ?_
          exact X.back3 (i + 1, (mixP bs (conts p1) v.toNat i p)) (by (try dsimp only); exact ⟨by omega, by rw [mixP_row (by omega)]⟩) (by first | omega | (dsimp only; omega)) (Ent.cons rfl (Ent.nil _)) (Ent.cons (t := 1) rfl (Ent.cons (t := 2) rfl (Ent.cons (t := 3) rfl (Ent.cons (t := 4) rfl (Ent.cons (t := 5) rfl (Ent.nil _)))))) (Sub.keep 0 rfl (Sub.keep 0 rfl (Sub.keep 0 rfl (Sub.keep 0 rfl (Sub.nil _)))))
      · skip
        refine V.exit ?_
        refine X.thenExit ?_
        refine X.thenExit ?_
        refine X.blockHit ?_
        refine X.next ?_
        refine V.seq ?_
        refine V.region ?_
        refine O.p rfl rfl rfl (Pu.move rfl rfl) ?_
        refine O.p rfl rfl rfl (Pu.assign rfl rfl) ?_
        refine O.p rfl rfl rfl (Pu.assign rfl rfl) ?_
        refine O.nil ?_
        refine X.next ?_
        refine V.ret ?_
        refine X.ret2 rfl rfl rfl ?_
        exact fun w hw => St.mkExi out0A (St.mkExi out0c (St.mkExi o (St.unsep (St.addPur ⟨by rw [if_pos c1, show o.length = v.toNat by rw [ho, mixP_len]], ⟨fun _ => ⟨conts p1, hp1_1, by rw [ho, conts_len, show i = p1.length by omega]⟩, fun h => absurd c1 h⟩, by rw [ho, mixP_len]; omega⟩ (hw.sub (Sub.keep 0 rfl (Sub.nil _)))))))
end Go.Proofs.Ytnbbkcpafkooaaa
