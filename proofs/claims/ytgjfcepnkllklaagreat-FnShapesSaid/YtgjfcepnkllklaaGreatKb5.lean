/-
  Contracts, part 5.
-/
import Derived.Test.YtgjfcepnkllklaaGreatKb4
set_option linter.unusedVariables false
set_option linter.unusedSimpArgs false
namespace Go.Proofs.YtgjfcepnkllklaaGreat
open Go Go.RowKit Go.Vc Go.Proofs
set_option maxRecDepth 100000 in
set_option maxHeartbeats 1000000 in
theorem paschAt1_ok (i : Int) (v : Int) (bs : List B3) (b_0 : Nat) (p : Nat) (b_1 : Nat) (A : Option Addr) (c : Nat) (w : World) (hx : Rd B3C w A bs) (hb_0 : RdB w b_0 [.int .i64 v, .slice A bs.length c]) (hb_1 : RdB w b_1 [.int .i64 (p : Int)]) (lx : bs.length ≤ 4611686018427387904) (hi : okIx bs i) : Does Tryz.prog 84 [.int .i64 i, .pointer (some ⟨b_0, 0, none⟩), .pointer (some ⟨b_1, 0, none⟩)] w [] (fun r => [.pur (r = .bool (decide (has (blk bs i) p)))]) := by
  refine Does.enter Tryz.func84 rfl rfl [(0, .int .i64 i), (1, .pointer (some ⟨b_0, 0, none⟩)), (2, .pointer (some ⟨b_1, 0, none⟩))] rfl ?_
  have hi2 := hi
  unfold okIx at hi2
  refine V.seq ?_
  refine V.region ?_
  refine O.p rfl rfl rfl (Pu.assign rfl rfl) ?_
  refine O.nil ?_
  refine X.next ?_
  refine V.seq ?_
  refine V.ent (Ent.cons (t := 0) rfl (Ent.cons (t := 1) rfl (Ent.cons (t := 2) rfl (Ent.nil _)))) ?_
  refine V.draw mo (by kernel_rfl) (fun hwf => ?_)
  refine D.p 0 rfl rfl rfl rfl rfl rfl (Pu.fieldAddr 1 rfl Tryz.underlying26 rfl sz24 rfl rfl) ?_
  refine D.p 1 rfl rfl rfl rfl rfl rfl (Pu.load rfl pl24 rfl (Ld.rdb hb_0 rfl)) ?_
  refine D.p 2 rfl rfl rfl rfl rfl rfl (Pu.move rfl rfl) ?_
  refine D.p 3 rfl rfl rfl rfl rfl rfl (Pu.indexAddr ((i).toNat) rfl Tryz.underlying24 sz51 rfl rfl (by omega) (by omega) (hx.some (by omega))) ?_
  have e1 : (i).toNat < bs.length := by omega
  refine D.p 4 rfl rfl rfl rfl rfl rfl (Pu.loadAgg' (v := B3.v (bs[(i).toNat]'e1)) rfl rfl ag51 sz51 rfl rfl (Ld.rds (Ld.old hx) (k := (i).toNat) e1 rfl)) ?_
  refine D.p 5 rfl rfl rfl rfl rfl rfl (Pu.load rfl pl2 rfl (Ld.rdb hb_1 rfl)) ?_
  refine D.eff hwf (e := 6) rfl rfl rfl rfl (Ef.callP call85 rfl rfl (fun w hw => has_ok (bs[(i).toNat]'e1) _ w)) rfl rfl rfl ?_
  rintro _ _ ⟨rfl, rfl⟩ hs
  refine ⟨fun w hw => hw, ?_⟩
  refine D.p 7 rfl rfl rfl rfl rfl rfl (Pu.assign rfl rfl) ?_
  refine D.done hwf rfl ?_
  refine X.next ?_
  refine V.ret ?_
  refine X.ret1 rfl rfl ?_
  exact fun w hw => St.retP (boolD (by rw [blk_ix hi])) hw
set_option maxRecDepth 100000 in
set_option maxHeartbeats 1000000 in
theorem implPaschAtPoints_ok (v : Int) (bs : List B3) (A : Option Addr) (c : Nat) (w : World) (hx : Rd B3C w A bs) (lx : bs.length ≤ 4611686018427387904) : Does Tryz.prog 16 [.agg #[.int .i64 v, .slice A bs.length c]] w [] (fun r => [.exi fun (oA : Option Addr) => .exi fun (oc : Nat) => .exi fun (o : List Int) => .sep (.pur (r = .tuple #[.slice oA o.length oc, .int .i64 (if STS v bs then 0 else 1)] ∧ PAR v bs o ∧ o.length ≤ 15)) (Own 2 I64 oA oc o)]) := by
  refine Does.enter Tryz.func16 rfl rfl [(0, .agg #[.int .i64 v, .slice A bs.length c])] rfl ?_
  refine V.seq ?_
  refine V.region ?_
  refine O.e rfl rfl rfl (Ef.box rfl rfl rfl) ?_
  rintro _ _ ⟨b1, rfl, rfl⟩
  refine O.p rfl rfl rfl (Pu.assign rfl rfl) ?_
  refine O.p rfl rfl rfl (Pu.assign rfl rfl) ?_
  refine O.nil ?_
  refine X.next ?_
  refine V.seq ?_
  refine V.seq ?_
  refine V.region ?_
  refine O.p rfl rfl rfl (Pu.loadAgg rfl ag26 sz26 rfl rfl (Ld.whole 0 rfl)) ?_
  refine O.e rfl rfl rfl (Ef.callP call77 rfl rfl (fun w hw => IsSystem_ok _ bs _ _ w ((Ld.old hx) w hw) (by omega))) ?_
  rintro _ _ ⟨rfl, rfl⟩
  refine O.p rfl rfl rfl (Pu.not rfl rfl) ?_
  refine O.nil ?_
  refine X.next ?_
  refine V.condNot rfl (fun c1 => ?_) (fun c1 => ?_)
  · skip
    refine V.seq ?_
    refine V.region ?_
    refine O.p rfl rfl rfl (Pu.assign rfl rfl) ?_
    refine O.p rfl rfl rfl (Pu.assign rfl rfl) ?_
    refine O.nil ?_
    refine X.next ?_
    refine V.ret ?_
    refine X.thenRet ?_
    refine X.ret2 rfl rfl rfl ?_
    exact fun w hw => St.mkExi none (St.mkExi 0 (St.mkExi [] (St.unsep (St.addPur ⟨by rw [if_neg c1]; rfl, ⟨fun h => absurd h c1, fun _ => rfl⟩, by simp⟩ (St.addNil (T := 2) (C := I64) (hw.sub (Sub.nil _)))))))
  · skip
    have hlo := c1.lo
    have hhi := c1.hi
    have hfew := c1.few
    have hg : ∀ b ∈ bs, good 15 b := fun b h => (c1.good b h).mono c1.hi
    refine V.skip ?_
    refine X.next ?_
    refine V.seq ?_
    refine V.region ?_
    refine O.p rfl rfl rfl (Pu.fieldAddr 0 rfl Tryz.underlying26 rfl sz2 rfl rfl) ?_
    refine O.p rfl rfl rfl (Pu.load rfl pl2 rfl (Ld.blk 0 rfl rfl)) ?_
    refine O.e rfl rfl rfl (Ef.makeI (n := (v).toNat) I64 (0 : Int) rfl Tryz.underlying34 inf2 rfl rfl rfl rfl (by omega) (by omega) (by omega)) ?_
    rintro _ _ ⟨A1, hA1, rfl, rfl⟩
    refine O.p rfl rfl rfl (Pu.assign rfl rfl) ?_
    refine O.nil ?_
    refine X.next ?_
    refine V.seq ?_
    refine V.seq ?_
    refine V.region ?_
    refine O.p rfl rfl rfl (Pu.loadAgg rfl ag26 sz26 rfl rfl (Ld.whole 1 rfl)) ?_
    refine O.e rfl rfl rfl (Ef.call1 call78 rfl rfl (fun w hw => paschs_ok  v bs _ _ w ((Ld.old hx) w hw) (by first | omega | (simp only [tops_len, conts_len, bl, List.length_append, List.length_cons, List.length_nil] at *; omega)) (by first | assumption | omega | (try dsimp only at *; omega)))) ?_
    rintro _ _ rfl
    refine O.exi (fun p1A => ?_)
    refine O.exi (fun p1c => ?_)
    refine O.exi (fun p1 => ?_)
    refine O.sep ?_
    refine O.pur ?_
    rintro ⟨rfl, hp1_1, hp1_2⟩
    refine O.sep ?_
    refine O.fact (RowsA.len 1 rfl) (fun hn_p1 => ?_)
    have htl_p1 := tops_len p1
    refine O.p rfl rfl rfl (Pu.len rfl Tryz.underlying28 rfl) ?_
    refine O.p rfl rfl rfl (Pu.move rfl rfl) ?_
    refine O.nil ?_
    refine X.next ?_
    refine V.block ?_
    refine V.loop3 (β := Nat × (List Int)) (fun x => [(17, .int .i64 (x.1 : Int))]) _ (fun x => [Own 2 I64 A1 ((v).toNat) x.2]) _ (fun x => x.1 ≤ p1.length ∧ x.2 = mixP bs (conts p1) v.toNat x.1 0) (fun x => p1.length - x.1) (0, (List.replicate ((v).toNat) (0 : Int))) (by (try dsimp only); exact ⟨by omega, mixP_start.symm⟩) (Ent.cons rfl (Ent.nil _)) (Ent.cons (t := 1) rfl (Ent.cons (t := 4) rfl (Ent.cons (t := 15) rfl (Ent.cons (t := 16) rfl (Ent.nil _))))) (Sub.keep 2 rfl (Sub.keep 0 rfl (Sub.keep 0 rfl (Sub.keep 0 rfl (Sub.nil _))))) ?_
    rintro ⟨i, o⟩ ⟨hi, ho⟩
    dsimp only at hi ho ⊢
    refine V.seq ?_
    refine V.region ?_
    refine O.p rfl rfl rfl (Pu.lss rfl rfl rfl) ?_
    refine O.nil ?_
    refine X.next ?_
    refine V.seq ?_
    refine V.condD rfl (fun c2 => ?_) (fun c2 => ?_)
    · skip
      refine V.skip ?_
      refine X.next ?_
      refine V.seq ?_
      refine V.block ?_
      refine V.seq ?_
      refine V.region ?_
      refine O.p rfl rfl rfl (Pu.indexAddrS (i) rfl Tryz.underlying28 sz34 rfl rfl (by omega) (by omega) (fun w hw => Own.some hw (i := 1) (by exact rfl) (by omega))) ?_
      have e1 : i < p1.length := by have := tops_len p1; omega
      refine O.p rfl rfl rfl (Pu.load rfl pl34 rfl (Ld.row (Ld.own 1 (by exact rfl)) hn_p1 e1 rfl)) ?_
      refine O.p rfl rfl rfl (Pu.assign rfl rfl) ?_
      refine O.nil ?_
      refine X.next ?_
      refine V.seq ?_
      have hq : PQ bs (p1[i]'e1).2 := (hp1_1.2 _).1 (conts_get p1 (k := i) (by rw [conts_len]; exact e1) ▸ List.getElem_mem _)
      refine V.region ?_
      refine O.p rfl rfl rfl (Pu.fieldAddr 0 rfl Tryz.underlying26 rfl sz2 rfl rfl) ?_
      refine O.p rfl rfl rfl (Pu.load rfl pl2 rfl (Ld.blk 3 rfl rfl)) ?_
      refine O.p rfl rfl rfl (Pu.move rfl rfl) ?_
      refine O.nil ?_
      refine X.next ?_
      refine V.block ?_
      refine V.loop3 (β := Nat × (List Int)) (fun x => [(23, .int .i64 (x.1 : Int))]) _ (fun x => [Own 2 I64 A1 ((v).toNat) x.2]) _ (fun x => x.1 ≤ v.toNat ∧ x.2 = mixP bs (conts p1) v.toNat i x.1) (fun x => v.toNat - x.1) (0, o) (by (try dsimp only); exact ⟨by omega, ho⟩) (Ent.cons rfl (Ent.nil _)) (Ent.cons (t := 1) rfl (Ent.cons (t := 4) rfl (Ent.cons (t := 6) rfl (Ent.cons (t := 15) rfl (Ent.cons (t := 16) rfl (Ent.cons (t := 17) rfl (Ent.cons (t := 22) rfl (Ent.nil _)))))))) (Sub.keep 0 rfl (Sub.keep 0 rfl (Sub.keep 0 rfl (Sub.keep 0 rfl (Sub.nil _))))) ?_
      rintro ⟨p, o2⟩ ⟨hp, ho2⟩
      dsimp only at hp ho2 ⊢
      subst ho2
      have hcl := conts_len p1
      have hln := mixP_len (bs := bs) (ls := conts p1) (n := v.toNat) (i := i) (p := p)
      have hbd := hitsP_bd (bs := bs) (ls := conts p1) (i := i) (p : Int)
      have hge := fun (h : p < v.toNat) => mixP_get (bs := bs) (ls := conts p1) (i := i) h (by rw [mixP_len]; exact h)
      refine V.seq ?_
      refine V.region ?_
      refine O.p rfl rfl rfl (Pu.lss rfl rfl rfl) ?_
      refine O.nil ?_
      refine X.next ?_
      refine V.seq ?_
      refine V.condD rfl (fun c3 => ?_) (fun c3 => ?_)
      · skip
        refine V.skip ?_
        refine X.next ?_
        refine V.seq ?_
        refine V.block ?_
        refine V.seq ?_
        refine V.region ?_
        refine O.p rfl rfl rfl (Pu.move rfl rfl) ?_
        refine O.e rfl rfl rfl (Ef.alloc rfl zr2 rfl) ?_
        rintro _ _ ⟨b2, rfl, rfl⟩
        refine O.s rfl rfl (Ef.store1 (cs' := [_]) 0 rfl sz2 rfl rfl rfl rfl rfl (ltb rfl) rfl) ?_
        rintro _ _ rfl
        refine O.nil ?_
        refine X.next ?_
        refine V.seq ?_
        refine V.region ?_
        refine O.p rfl rfl rfl (Pu.move rfl rfl) ?_
        refine O.p rfl rfl rfl (Pu.makeFunc rfl rfl) ?_
        refine O.e rfl rfl rfl (Ef.callP call83 rfl rfl (fun w hw => containsFunc_ok (fun k => has (blk bs k) (p : Int)) 84 _ (p1[i]'e1).2 _ _ w call84 ((Ld.rows 3 (by exact rfl) e1) w hw) (hn_p1.le e1) (fun k hk w' hb => paschAt1_ok _ v bs _ p _ _ _ w' ((hx.st hw).below hb) ((Blk.rdb hw (i := 4) rfl).below hb) ((Blk.rdb hw (i := 0) rfl).below hb) lx (hq.ix _ (List.getElem_mem hk))))) ?_
        rintro _ _ ⟨rfl, rfl⟩
        refine O.nil ?_
        refine X.next ?_
        refine V.condD rfl (fun c4 => ?_) (fun c4 => ?_)
        · skip
          have hg2 := hge (by omega)
          refine V.region ?_
          refine O.p rfl rfl rfl (Pu.move rfl rfl) ?_
          refine O.p rfl rfl rfl (Pu.load rfl pl2 rfl (Ld.blk 0 rfl rfl)) ?_
          refine O.p rfl rfl rfl (Pu.indexAddrS (p) rfl Tryz.underlying34 sz2 rfl rfl (by omega) (by omega) (fun w hw => Own.some hw (i := 1) (by exact rfl) (by omega))) ?_
          have e2 : p < (mixP bs (conts p1) v.toNat i p).length := by omega
          refine O.p rfl rfl rfl (Pu.load rfl pl2 rfl (Ld.rd (Ld.own 1 (by exact rfl)) (k := p) e2 rfl rfl)) ?_
          refine O.p rfl rfl rfl (Pu.add64 rfl (by omega) rfl rfl rfl) ?_
          refine O.p rfl rfl rfl (Pu.indexAddrS (p) rfl Tryz.underlying34 sz2 rfl rfl (by omega) (by omega) (fun w hw => Own.some hw (i := 1) (by exact rfl) (by omega))) ?_
          refine O.s rfl rfl (Ef.storeOwn 1 (p) (((mixP bs (conts p1) v.toNat i p)[p]'e2) + (1 : Int)) rfl sz2 rfl rfl rfl rfl (by rw [mixP_len]; omega) rfl) ?_
          rintro _ _ rfl
          refine O.nil ?_
          refine X.blockNormal ?_
          refine X.next ?_
          refine V.region ?_
          refine O.p rfl rfl rfl (Pu.add64 (r := ((p + 1 : Nat) : Int)) rfl (by omega) rfl rfl rfl) ?_
          refine O.p rfl rfl rfl (Pu.move rfl rfl) ?_
          refine O.nil ?_
          exact X.back3 (p + 1, ((mixP bs (conts p1) v.toNat i p).set (p) (((mixP bs (conts p1) v.toNat i p)[p]'e2) + (1 : Int)))) (by (try dsimp only); exact ⟨by omega, mixP_yes (by rw [conts_len]; exact e1) (by omega) (by rw [mixP_len]; omega) (by rw [conts_get]; exact c4)⟩) (by first | omega | (dsimp only; omega)) (Ent.cons rfl (Ent.nil _)) (Ent.cons (t := 1) rfl (Ent.cons (t := 4) rfl (Ent.cons (t := 6) rfl (Ent.cons (t := 15) rfl (Ent.cons (t := 16) rfl (Ent.cons (t := 17) rfl (Ent.cons (t := 22) rfl (Ent.nil _)))))))) (Sub.keep 1 rfl (Sub.keep 1 rfl (Sub.keep 1 rfl (Sub.keep 1 rfl (Sub.nil _)))))
        · skip
          refine V.skip ?_
          refine X.blockNormal ?_
          refine X.next ?_
          refine V.region ?_
          refine O.p rfl rfl rfl (Pu.add64 (r := ((p + 1 : Nat) : Int)) rfl (by omega) rfl rfl rfl) ?_
          refine O.p rfl rfl rfl (Pu.move rfl rfl) ?_
          refine O.nil ?_
          exact X.back3 (p + 1, (mixP bs (conts p1) v.toNat i p)) (by (try dsimp only); exact ⟨by omega, mixP_no (by rw [conts_len]; exact e1) (by rw [conts_get]; exact c4)⟩) (by first | omega | (dsimp only; omega)) (Ent.cons rfl (Ent.nil _)) (Ent.cons (t := 1) rfl (Ent.cons (t := 4) rfl (Ent.cons (t := 6) rfl (Ent.cons (t := 15) rfl (Ent.cons (t := 16) rfl (Ent.cons (t := 17) rfl (Ent.cons (t := 22) rfl (Ent.nil _)))))))) (Sub.keep 1 rfl (Sub.keep 1 rfl (Sub.keep 1 rfl (Sub.keep 1 rfl (Sub.nil _)))))
      · skip
        refine V.exit ?_
        refine X.thenExit ?_
        refine X.thenExit ?_
        refine X.blockHit ?_
        refine X.blockNormal ?_
        refine X.next ?_
        refine V.region ?_
        refine O.p rfl rfl rfl (Pu.add64 (r := ((i + 1 : Nat) : Int)) rfl (by omega) rfl rfl rfl) ?_
        refine O.p rfl rfl rfl (Pu.move rfl rfl) ?_
        refine O.nil ?_
        exact X.back3 (i + 1, (mixP bs (conts p1) v.toNat i p)) (by (try dsimp only); exact ⟨by omega, by rw [mixP_row (by omega)]⟩) (by first | omega | (dsimp only; omega)) (Ent.cons rfl (Ent.nil _)) (Ent.cons (t := 1) rfl (Ent.cons (t := 4) rfl (Ent.cons (t := 15) rfl (Ent.cons (t := 16) rfl (Ent.nil _))))) (Sub.keep 0 rfl (Sub.keep 0 rfl (Sub.keep 0 rfl (Sub.keep 0 rfl (Sub.nil _)))))
    · skip
      refine V.exit ?_
      refine X.thenExit ?_
      refine X.thenExit ?_
      refine X.blockHit ?_
      refine X.next ?_
      refine V.seq ?_
      refine V.region ?_
      refine O.p rfl rfl rfl (Pu.move rfl rfl) ?_
      refine O.p rfl rfl rfl (Pu.assign rfl rfl) ?_
      refine O.p rfl rfl rfl (Pu.assign rfl rfl) ?_
      refine O.nil ?_
      refine X.next ?_
      refine V.ret ?_
      refine X.ret2 rfl rfl rfl ?_
      exact fun w hw => St.mkExi A1 (St.mkExi ((v).toNat) (St.mkExi o (St.unsep (St.addPur ⟨by rw [if_pos c1, show o.length = v.toNat by rw [ho, mixP_len]], ⟨fun _ => ⟨conts p1, hp1_1, by rw [ho, conts_len, show i = p1.length by omega]⟩, fun h => absurd c1 h⟩, by rw [ho, mixP_len]; omega⟩ (hw.sub (Sub.keep 0 rfl (Sub.nil _)))))))
set_option maxRecDepth 100000 in
set_option maxHeartbeats 1000000 in
theorem specPaschAtPoints_ok (v : Int) (bs : List B3) (A : Option Addr) (c : Nat) (w : World) (hx : Rd B3C w A bs) (lx : bs.length ≤ 4611686018427387904) : Does Tryz.prog 26 [.agg #[.int .i64 v, .slice A bs.length c]] w [] (fun r => [.exi fun (oA : Option Addr) => .exi fun (oc : Nat) => .exi fun (o : List Int) => .sep (.pur (r = .tuple #[.slice oA o.length oc, .int .i64 (if STS v bs then 0 else 1)] ∧ PAR v bs o ∧ o.length ≤ 15)) (Own 2 I64 oA oc o)]) := by
  refine Does.enter Tryz.func26 rfl rfl [(0, .agg #[.int .i64 v, .slice A bs.length c])] rfl ?_
  refine V.seq ?_
  refine V.region ?_
  refine O.e rfl rfl rfl (Ef.box rfl rfl rfl) ?_
  rintro _ _ ⟨b1, rfl, rfl⟩
  refine O.p rfl rfl rfl (Pu.assign rfl rfl) ?_
  refine O.p rfl rfl rfl (Pu.assign rfl rfl) ?_
  refine O.nil ?_
  refine X.next ?_
  refine V.seq ?_
  refine V.seq ?_
  refine V.region ?_
  refine O.p rfl rfl rfl (Pu.loadAgg rfl ag26 sz26 rfl rfl (Ld.whole 0 rfl)) ?_
  refine O.e rfl rfl rfl (Ef.callP call79 rfl rfl (fun w hw => l01Is_ok _ bs _ _ w ((Ld.old hx) w hw) (by omega))) ?_
  rintro _ _ ⟨rfl, rfl⟩
  refine O.p rfl rfl rfl (Pu.not rfl rfl) ?_
  refine O.nil ?_
  refine X.next ?_
  refine V.condNot rfl (fun c1 => ?_) (fun c1 => ?_)
  · skip
    refine V.seq ?_
    refine V.region ?_
    refine O.p rfl rfl rfl (Pu.assign rfl rfl) ?_
    refine O.p rfl rfl rfl (Pu.assign rfl rfl) ?_
    refine O.nil ?_
    refine X.next ?_
    refine V.ret ?_
    refine X.thenRet ?_
    refine X.ret2 rfl rfl rfl ?_
    exact fun w hw => St.mkExi none (St.mkExi 0 (St.mkExi [] (St.unsep (St.addPur ⟨by rw [if_neg c1]; rfl, ⟨fun h => absurd h c1, fun _ => rfl⟩, by simp⟩ (St.addNil (T := 2) (C := I64) (hw.sub (Sub.nil _)))))))
  · skip
    have hlo := c1.lo
    have hhi := c1.hi
    have hfew := c1.few
    have hg : ∀ b ∈ bs, good 15 b := fun b h => (c1.good b h).mono c1.hi
    refine V.skip ?_
    refine X.next ?_
    refine V.seq ?_
    refine V.cutE (β := (Option Addr) × Nat × (List (Sl × List Int)) × (Option Addr) × Nat × (List Int)) (fun x => [(4, .slice x.1 (tops x.2.2.1).length x.2.1), (5, .slice x.2.2.2.1 v.toNat x.2.2.2.2.1)]) _ (fun x => [Own 34 SlC x.1 x.2.1 (tops x.2.2.1), RowsA 2 I64 x.2.2.1, Own 2 I64 x.2.2.2.1 x.2.2.2.2.1 x.2.2.2.2.2]) _ (fun x => (IsList (PQ bs) (conts x.2.2.1) ∧ x.2.2.1.length ≤ 2450) ∧ x.2.2.2.2.2 = List.replicate v.toNat 0 ∧ x.2.2.2.1.isSome = true) (Ent.cons (t := 1) rfl (Ent.nil _)) (Sub.keep 0 rfl (Sub.nil _)) ?_ ?_
    · skip
      refine V.draw mo (by kernel_rfl) (fun hwf => ?_)
      refine D.p 0 rfl rfl rfl rfl rfl rfl (Pu.loadAgg rfl ag26 sz26 rfl rfl (Ld.whole 0 rfl)) ?_
      refine D.p 2 rfl rfl rfl rfl rfl rfl (Pu.fieldAddr 0 rfl Tryz.underlying26 rfl sz2 rfl rfl) ?_
      refine D.p 3 rfl rfl rfl rfl rfl rfl (Pu.load rfl pl2 rfl (Ld.blk 0 rfl rfl)) ?_
      refine D.either hwf (e1 := 1) (e2 := 4) rfl ?_ ?_
      · skip
        refine ⟨_, _, rfl, rfl, fun _ _ => wanted_none rfl _, Ef.call1 call80 rfl rfl (fun w hw => l03Pasch_ok  v bs _ _ w ((Ld.old hx) w hw) (by first | omega | (simp only [tops_len, conts_len, bl, List.length_append, List.length_cons, List.length_nil] at *; omega)) (by first | assumption | omega | (try dsimp only at *; omega))), rfl, rfl, ?_⟩
        rintro _ _ rfl hs
        refine ⟨fun w hw => hs w hw.tail, ?_⟩
        refine D.exi (fun p1A => ?_)
        refine D.exi (fun p1c => ?_)
        refine D.exi (fun p1 => ?_)
        refine D.sep ?_
        refine D.pur1 ?_
        rintro ⟨rfl, hp1_1, hp1_2⟩
        refine D.sep ?_
        refine D.pur (RowsA.len 1 rfl) (fun hn_p1 => ?_)
        have htl_p1 := tops_len p1
        refine D.p 5 rfl rfl rfl rfl rfl rfl (Pu.assign rfl rfl) ?_
        refine D.eff hwf (e := 4) rfl rfl rfl rfl (Ef.makeI (n := (v).toNat) I64 (0 : Int) rfl Tryz.underlying34 inf2 rfl rfl rfl rfl (by omega) (by omega) (by omega)) rfl rfl rfl ?_
        rintro _ _ ⟨A1, hA1, rfl, rfl⟩ hs
        refine ⟨fun w hw => hw.sub (Sub.keep 3 rfl (Sub.nil _)), ?_⟩
        refine D.p 6 rfl rfl rfl rfl rfl rfl (Pu.assign rfl rfl) ?_
        refine D.done hwf rfl ?_
        exact X.cutE (p1A, p1c, p1, A1, (v).toNat, (List.replicate ((v).toNat) (0 : Int))) (by (try dsimp only); exact ⟨⟨hp1_1, hp1_2⟩, rfl, hA1⟩) (Ent.cons' rfl (by first | rfl | (simp only [tops_append]; done) | (simp only [tops_append]; rfl)) (Ent.cons rfl (Ent.nil _))) (Ent.cons (t := 1) rfl (Ent.nil _)) (Sub.keep 1 rfl (Sub.keep 1 rfl (Sub.keep 0 rfl (Sub.keep 0 rfl (Sub.nil _)))))
      · skip
        refine ⟨_, _, rfl, rfl, fun _ _ => wanted_none rfl _, Ef.makeI (n := (v).toNat) I64 (0 : Int) rfl Tryz.underlying34 inf2 rfl rfl rfl rfl (by omega) (by omega) (by omega), rfl, rfl, ?_⟩
        rintro _ _ ⟨A1, hA1, rfl, rfl⟩ hs
        refine ⟨fun w hw => hw.sub (Sub.keep 1 rfl (Sub.nil _)), ?_⟩
        refine D.eff hwf (e := 1) rfl rfl rfl rfl (Ef.call1 call80 rfl rfl (fun w hw => l03Pasch_ok  v bs _ _ w ((Ld.old hx) w hw) (by first | omega | (simp only [tops_len, conts_len, bl, List.length_append, List.length_cons, List.length_nil] at *; omega)) (by first | assumption | omega | (try dsimp only at *; omega)))) rfl rfl rfl ?_
        rintro _ _ rfl hs
        refine ⟨fun w hw => hs w hw.tail, ?_⟩
        refine D.exi (fun p1A => ?_)
        refine D.exi (fun p1c => ?_)
        refine D.exi (fun p1 => ?_)
        refine D.sep ?_
        refine D.pur1 ?_
        rintro ⟨rfl, hp1_1, hp1_2⟩
        refine D.sep ?_
        refine D.pur (RowsA.len 1 rfl) (fun hn_p1 => ?_)
        have htl_p1 := tops_len p1
        refine D.p 5 rfl rfl rfl rfl rfl rfl (Pu.assign rfl rfl) ?_
        refine D.p 6 rfl rfl rfl rfl rfl rfl (Pu.assign rfl rfl) ?_
        refine D.done hwf rfl ?_
        exact X.cutE (p1A, p1c, p1, A1, (v).toNat, (List.replicate ((v).toNat) (0 : Int))) (by (try dsimp only); exact ⟨⟨hp1_1, hp1_2⟩, rfl, hA1⟩) (Ent.cons' rfl (by first | rfl | (simp only [tops_append]; done) | (simp only [tops_append]; rfl)) (Ent.cons rfl (Ent.nil _))) (Ent.cons (t := 1) rfl (Ent.nil _)) (Sub.keep 0 rfl (Sub.keep 0 rfl (Sub.keep 0 rfl (Sub.keep 0 rfl (Sub.nil _)))))
    · skip
      rintro ⟨p1A, p1c, p1, out0A, out0c, out0⟩ ⟨⟨hp1_1, hp1_2⟩, ho0, hs0⟩
      dsimp only at hp1_1 hp1_2 ho0 hs0 ⊢
      refine X.fact (RowsA.len 1 rfl) (fun hn_p1 => ?_)
      have htl_p1 := tops_len p1
      refine X.next ?_
      refine V.seq ?_
      refine V.seq ?_
      refine V.region ?_
      refine O.p rfl rfl rfl (Pu.assign rfl rfl) ?_
      refine O.nil ?_
      refine X.next ?_
      refine V.block ?_
      refine V.loop3 (β := Nat × (List Int)) (fun x => [(6, .int .i64 (x.1 : Int))]) _ (fun x => [Own 2 I64 out0A out0c x.2]) _ (fun x => x.1 ≤ p1.length ∧ x.2 = mixP bs (conts p1) v.toNat x.1 0) (fun x => p1.length - x.1) (0, out0) (by (try dsimp only); exact ⟨by omega, by rw [ho0]; exact mixP_start.symm⟩) (Ent.cons rfl (Ent.nil _)) (Ent.cons (t := 1) rfl (Ent.cons (t := 4) rfl (Ent.cons (t := 5) rfl (Ent.nil _)))) (Sub.keep 2 rfl (Sub.keep 0 rfl (Sub.keep 0 rfl (Sub.keep 0 rfl (Sub.nil _))))) ?_
      rintro ⟨i, o⟩ ⟨hi, ho⟩
      dsimp only at hi ho ⊢
      refine V.seq ?_
      refine V.seq ?_
      refine V.region ?_
      refine O.p rfl rfl rfl (Pu.move rfl rfl) ?_
      refine O.p rfl rfl rfl (Pu.move rfl rfl) ?_
      refine O.p rfl rfl rfl (Pu.len rfl Tryz.underlying28 rfl) ?_
      refine O.p rfl rfl rfl (Pu.lss rfl rfl rfl) ?_
      refine O.nil ?_
      refine X.next ?_
      refine V.condD rfl (fun c2 => ?_) (fun c2 => ?_)
      · skip
        refine V.skip ?_
        refine X.next ?_
        refine V.seq ?_
        refine V.block ?_
        refine V.seq ?_
        refine V.region ?_
        refine O.p rfl rfl rfl (Pu.assign rfl rfl) ?_
        refine O.nil ?_
        refine X.next ?_
        refine V.block ?_
        refine V.loop3 (β := Nat × (List Int)) (fun x => [(7, .int .i64 (x.1 : Int))]) _ (fun x => [Own 2 I64 out0A out0c x.2]) _ (fun x => x.1 ≤ v.toNat ∧ x.2 = mixP bs (conts p1) v.toNat i x.1) (fun x => v.toNat - x.1) (0, o) (by (try dsimp only); exact ⟨by omega, ho⟩) (Ent.cons rfl (Ent.nil _)) (Ent.cons (t := 1) rfl (Ent.cons (t := 4) rfl (Ent.cons (t := 5) rfl (Ent.cons (t := 6) rfl (Ent.nil _))))) (Sub.keep 0 rfl (Sub.keep 0 rfl (Sub.keep 0 rfl (Sub.keep 0 rfl (Sub.nil _))))) ?_
        rintro ⟨p, o2⟩ ⟨hp, ho2⟩
        dsimp only at hp ho2 ⊢
        subst ho2
        have hcl := conts_len p1
        have hln := mixP_len (bs := bs) (ls := conts p1) (n := v.toNat) (i := i) (p := p)
        have hbd := hitsP_bd (bs := bs) (ls := conts p1) (i := i) (p : Int)
        have hge := fun (h : p < v.toNat) => mixP_get (bs := bs) (ls := conts p1) (i := i) h (by rw [mixP_len]; exact h)
        refine V.seq ?_
        refine V.seq ?_
        refine V.region ?_
        refine O.p rfl rfl rfl (Pu.move rfl rfl) ?_
        refine O.p rfl rfl rfl (Pu.fieldAddr 0 rfl Tryz.underlying26 rfl sz2 rfl rfl) ?_
        refine O.p rfl rfl rfl (Pu.load rfl pl2 rfl (Ld.blk 3 rfl rfl)) ?_
        refine O.p rfl rfl rfl (Pu.lss rfl rfl rfl) ?_
        refine O.nil ?_
        refine X.next ?_
        refine V.condD rfl (fun c3 => ?_) (fun c3 => ?_)
        · skip
          refine V.skip ?_
          refine X.next ?_
          refine V.seq ?_
          refine V.block ?_
          refine V.seq ?_
          have ei : i < p1.length := by omega
          have hq : PQ bs (p1[i]'ei).2 := (hp1_1.2 _).1 (conts_get p1 (k := i) (by rw [conts_len]; exact ei) ▸ List.getElem_mem _)
          have hq4 := hq.four
          refine V.region ?_
          refine O.p rfl rfl rfl (Pu.assign rfl rfl) ?_
          refine O.nil ?_
          refine X.next ?_
          refine V.block ?_
          refine V.loop3 (β := Nat) (fun k => [(8, .int .i64 (k : Int))]) _ (fun k => []) _ (fun k => k ≤ 4 ∧ ∀ j (hj : j < (p1[i]'ei).2.length), j < k → ¬ has (blk bs ((p1[i]'ei).2[j])) (p : Int)) (fun k => 4 - k) 0 ⟨by omega, fun j hj h => by omega⟩ (Ent.cons rfl (Ent.nil _)) (Ent.cons (t := 1) rfl (Ent.cons (t := 4) rfl (Ent.cons (t := 5) rfl (Ent.cons (t := 6) rfl (Ent.cons (t := 7) rfl (Ent.nil _)))))) (Sub.keep 0 rfl (Sub.keep 0 rfl (Sub.keep 0 rfl (Sub.keep 0 rfl (Sub.nil _))))) ?_
          rintro k ⟨hk, hn⟩
          refine V.seq ?_
          refine V.seq ?_
          refine V.region ?_
          refine O.p rfl rfl rfl (Pu.move rfl rfl) ?_
          refine O.p rfl rfl rfl (Pu.lss rfl rfl rfl) ?_
          refine O.nil ?_
          refine X.next ?_
          refine V.condD rfl (fun c4 => ?_) (fun c4 => ?_)
          · skip
            refine V.skip ?_
            refine X.next ?_
            refine V.seq ?_
            refine V.block ?_
            refine V.seq ?_
            have hix := hq.ix _ (List.getElem_mem (l := (p1[i]'ei).2) (n := k) (by omega))
            unfold okIx at hix
            refine V.draw mo (by kernel_rfl) (fun hwf => ?_)
            refine D.p 0 rfl rfl rfl rfl rfl rfl (Pu.fieldAddr 1 rfl Tryz.underlying26 rfl sz24 rfl rfl) ?_
            refine D.p 1 rfl rfl rfl rfl rfl rfl (Pu.load rfl pl24 rfl (Ld.blk 3 rfl rfl)) ?_
            refine D.p 2 rfl rfl rfl rfl rfl rfl (Pu.move rfl rfl) ?_
            refine D.p 3 rfl rfl rfl rfl rfl rfl (Pu.move rfl rfl) ?_
            refine D.p 4 rfl rfl rfl rfl rfl rfl (Pu.indexAddrS (i) rfl Tryz.underlying28 sz34 rfl rfl (by omega) (by omega) (fun w hw => Own.some hw (i := 1) (by exact rfl) (by omega))) ?_
            refine D.p 5 rfl rfl rfl rfl rfl rfl (Pu.load rfl pl34 rfl (Ld.row (Ld.own 1 (by exact rfl)) hn_p1 ei rfl)) ?_
            refine D.p 6 rfl rfl rfl rfl rfl rfl (Pu.move rfl rfl) ?_
            refine D.p 7 rfl rfl rfl rfl rfl rfl (Pu.indexAddrS (k) rfl Tryz.underlying34 sz2 rfl rfl (by omega) (by omega) (fun w hw => ((Ld.rows 2 (by exact rfl) ei) w hw).some (by omega))) ?_
            have e1 : k < (p1[i]'ei).2.length := by omega
            refine D.p 8 rfl rfl rfl rfl rfl rfl (Pu.load rfl pl2 rfl (Ld.rd (Ld.rows 2 (by exact rfl) ei) (k := k) e1 rfl rfl)) ?_
            refine D.p 9 rfl rfl rfl rfl rfl rfl (Pu.indexAddr ((((p1[i]'ei).2[k]'e1)).toNat) rfl Tryz.underlying24 sz51 rfl rfl (by omega) (by omega) (hx.some (by omega))) ?_
            have e2 : (((p1[i]'ei).2[k]'e1)).toNat < bs.length := by omega
            refine D.p 10 rfl rfl rfl rfl rfl rfl (Pu.loadAgg' (v := B3.v (bs[(((p1[i]'ei).2[k]'e1)).toNat]'e2)) rfl rfl ag51 sz51 rfl rfl (Ld.rds (Ld.old hx) (k := (((p1[i]'ei).2[k]'e1)).toNat) e2 rfl)) ?_
            refine D.p 11 rfl rfl rfl rfl rfl rfl (Pu.move rfl rfl) ?_
            refine D.eff hwf (e := 12) rfl rfl rfl rfl (Ef.callP call88 rfl rfl (fun w hw => l01With_ok (bs[(((p1[i]'ei).2[k]'e1)).toNat]'e2) _ w)) rfl rfl rfl ?_
            rintro _ _ ⟨rfl, rfl⟩ hs
            refine ⟨fun w hw => hw, ?_⟩
            refine D.done hwf rfl ?_
            refine X.next ?_
            refine V.condD rfl (fun c5 => ?_) (fun c5 => ?_)
            · skip
              refine V.seq ?_
              have hg2 := hge (by omega)
              refine V.region ?_
              refine O.p rfl rfl rfl (Pu.move rfl rfl) ?_
              refine O.p rfl rfl rfl (Pu.move rfl rfl) ?_
              refine O.p rfl rfl rfl (Pu.indexAddrS (p) rfl Tryz.underlying34 sz2 rfl rfl (by omega) (by omega) (fun w hw => Own.some hw (i := 0) (by exact rfl) (by omega))) ?_
              have e3 : p < (mixP bs (conts p1) v.toNat i p).length := by omega
              refine O.p rfl rfl rfl (Pu.load rfl pl2 rfl (Ld.rd (Ld.own 0 (by exact rfl)) (k := p) e3 rfl rfl)) ?_
              refine O.p rfl rfl rfl (Pu.add64 rfl (by omega) rfl rfl rfl) ?_
              refine O.p rfl rfl rfl (Pu.indexAddrS (p) rfl Tryz.underlying34 sz2 rfl rfl (by omega) (by omega) (fun w hw => Own.some hw (i := 0) (by exact rfl) (by omega))) ?_
              refine O.s rfl rfl (Ef.storeOwn 0 (p) (((mixP bs (conts p1) v.toNat i p)[p]'e3) + (1 : Int)) rfl sz2 rfl rfl rfl rfl (by rw [mixP_len]; omega) rfl) ?_
              rintro _ _ rfl
              refine O.nil ?_
              refine X.next ?_
              refine V.exit ?_
              refine X.blockMiss rfl ?_
              refine X.thenExit ?_
              refine X.thenExit ?_
              refine X.blockHit ?_
              refine X.blockNormal ?_
              refine X.next ?_
              refine V.region ?_
              refine O.p rfl rfl rfl (Pu.move rfl rfl) ?_
              refine O.p rfl rfl rfl (Pu.add64 (r := ((p + 1 : Nat) : Int)) rfl (by omega) rfl rfl rfl) ?_
              refine O.p rfl rfl rfl (Pu.assign rfl rfl) ?_
              refine O.nil ?_
              exact X.back3 (p + 1, ((mixP bs (conts p1) v.toNat i p).set (p) (((mixP bs (conts p1) v.toNat i p)[p]'e3) + (1 : Int)))) (by (try dsimp only); exact ⟨by omega, mixP_yes (by rw [conts_len]; exact ei) (by omega) (by rw [mixP_len]; omega) (by rw [conts_get]; exact ⟨_, List.getElem_mem (n := k) (by omega), by rw [blk_ix (hq.ix _ (List.getElem_mem _))]; exact c5⟩)⟩) (by first | omega | (dsimp only; omega)) (Ent.cons rfl (Ent.nil _)) (Ent.cons (t := 1) rfl (Ent.cons (t := 4) rfl (Ent.cons (t := 5) rfl (Ent.cons (t := 6) rfl (Ent.nil _))))) (Sub.keep 0 rfl (Sub.keep 0 rfl (Sub.keep 0 rfl (Sub.keep 0 rfl (Sub.nil _)))))
            · skip
              refine V.skip ?_
              refine X.blockNormal ?_
              refine X.next ?_
              refine V.region ?_
              refine O.p rfl rfl rfl (Pu.move rfl rfl) ?_
              refine O.p rfl rfl rfl (Pu.add64 (r := ((k + 1 : Nat) : Int)) rfl (by omega) rfl rfl rfl) ?_
              refine O.p rfl rfl rfl (Pu.assign rfl rfl) ?_
              refine O.nil ?_
              exact X.back3 (k + 1) ⟨by omega, fun j hj h hh => by by_cases e : j = k; (· subst e; rw [blk_ix (hq.ix _ (List.getElem_mem _))] at hh; exact c5 hh); (· exact hn j hj (by omega) hh)⟩ (by first | omega | (dsimp only; omega)) (Ent.cons rfl (Ent.nil _)) (Ent.cons (t := 1) rfl (Ent.cons (t := 4) rfl (Ent.cons (t := 5) rfl (Ent.cons (t := 6) rfl (Ent.cons (t := 7) rfl (Ent.nil _)))))) (Sub.keep 0 rfl (Sub.keep 0 rfl (Sub.keep 0 rfl (Sub.keep 0 rfl (Sub.nil _)))))
          · skip
            refine V.exit ?_
            refine X.thenExit ?_
            refine X.thenExit ?_
            refine X.blockHit ?_
            refine X.blockNormal ?_
            refine X.next ?_
            refine V.region ?_
            refine O.p rfl rfl rfl (Pu.move rfl rfl) ?_
            refine O.p rfl rfl rfl (Pu.add64 (r := ((p + 1 : Nat) : Int)) rfl (by omega) rfl rfl rfl) ?_
            refine O.p rfl rfl rfl (Pu.assign rfl rfl) ?_
            refine O.nil ?_
            exact X.back3 (p + 1, (mixP bs (conts p1) v.toNat i p)) (by (try dsimp only); exact ⟨by omega, mixP_no (by rw [conts_len]; exact ei) (by rw [conts_get]; rintro ⟨z, hz, hh⟩; obtain ⟨j, hj, rfl⟩ := List.getElem_of_mem hz; exact hn j hj (by omega) hh)⟩) (by first | omega | (dsimp only; omega)) (Ent.cons rfl (Ent.nil _)) (Ent.cons (t := 1) rfl (Ent.cons (t := 4) rfl (Ent.cons (t := 5) rfl (Ent.cons (t := 6) rfl (Ent.nil _))))) (Sub.keep 0 rfl (Sub.keep 0 rfl (Sub.keep 0 rfl (Sub.keep 0 rfl (Sub.nil _)))))
        · skip
          refine V.exit ?_
          refine X.thenExit ?_
          refine X.thenExit ?_
          refine X.blockHit ?_
          refine X.blockNormal ?_
          refine X.next ?_
          refine V.region ?_
          refine O.p rfl rfl rfl (Pu.move rfl rfl) ?_
          refine O.p rfl rfl rfl (Pu.add64 (r := ((i + 1 : Nat) : Int)) rfl (by omega) rfl rfl rfl) ?_
          refine O.p rfl rfl rfl (Pu.assign rfl rfl) ?_
          refine O.nil ?_
          exact X.back3 (i + 1, (mixP bs (conts p1) v.toNat i p)) (by (try dsimp only); exact ⟨by omega, by rw [mixP_row (by omega)]⟩) (by first | omega | (dsimp only; omega)) (Ent.cons rfl (Ent.nil _)) (Ent.cons (t := 1) rfl (Ent.cons (t := 4) rfl (Ent.cons (t := 5) rfl (Ent.nil _)))) (Sub.keep 0 rfl (Sub.keep 0 rfl (Sub.keep 0 rfl (Sub.keep 0 rfl (Sub.nil _)))))
      · skip
        refine V.exit ?_
        refine X.thenExit ?_
        refine X.thenExit ?_
        refine X.blockHit ?_
        refine X.next ?_
        refine V.seq ?_
        refine V.region ?_
        refine O.p rfl rfl rfl (Pu.move rfl rfl) ?_
        refine O.p rfl rfl rfl (Pu.assign rfl rfl) ?_
        refine O.p rfl rfl rfl (Pu.assign rfl rfl) ?_
        refine O.nil ?_
        refine X.next ?_
        refine V.ret ?_
        refine X.ret2 rfl rfl rfl ?_
        exact fun w hw => St.mkExi out0A (St.mkExi out0c (St.mkExi o (St.unsep (St.addPur ⟨by rw [if_pos c1, show o.length = v.toNat by rw [ho, mixP_len]], ⟨fun _ => ⟨conts p1, hp1_1, by rw [ho, conts_len, show i = p1.length by omega]⟩, fun h => absurd c1 h⟩, by rw [ho, mixP_len]; omega⟩ (hw.sub (Sub.keep 0 rfl (Sub.nil _)))))))
set_option maxRecDepth 100000 in
set_option maxHeartbeats 1000000 in
theorem indexBl_ok (s : List B3) (y : B3) (sA : Option Addr) (sc : Nat) (w : World) (hs : Rd B3C w sA s) (ls : s.length ≤ 1099511627776) : Does Tryz.prog 177 [.slice sA s.length sc, B3.v y] w [] (fun r => [.pur (r = .int .i64 (idxP (fun x => y = x) s))]) := by
  refine Does.enter Tryz.func177 rfl rfl [(0, .slice sA s.length sc), (1, B3.v y)] rfl ?_
  refine V.seq ?_
  refine V.region ?_
  refine O.e rfl rfl rfl (Ef.box rfl rfl rfl) ?_
  rintro _ _ ⟨b1, rfl, rfl⟩
  refine O.p rfl rfl rfl (Pu.assign rfl rfl) ?_
  refine O.nil ?_
  refine X.next ?_
  refine V.seq ?_
  refine V.seq ?_
  refine V.region ?_
  refine O.p rfl rfl rfl (Pu.move rfl rfl) ?_
  refine O.p rfl rfl rfl (Pu.len rfl Tryz.underlying24 rfl) ?_
  refine O.p rfl rfl rfl (Pu.move rfl rfl) ?_
  refine O.nil ?_
  refine X.next ?_
  refine V.block ?_
  refine V.loop3 (β := Nat) (fun i => [(8, .int .i64 (i : Int))]) _ (fun i => []) _ (fun i => i ≤ s.length ∧ ∀ j (hj : j < s.length), j < i → ¬ y = s[j]) (fun i => s.length - i) 0 ⟨by omega, fun j hj h => by omega⟩ (Ent.cons rfl (Ent.nil _)) (Ent.cons (t := 0) rfl (Ent.cons (t := 3) rfl (Ent.cons (t := 7) rfl (Ent.nil _)))) (Sub.keep 0 rfl (Sub.nil _)) ?_
  rintro i ⟨hi, hn⟩
  refine V.seq ?_
  refine V.region ?_
  refine O.p rfl rfl rfl (Pu.lss rfl rfl rfl) ?_
  refine O.nil ?_
  refine X.next ?_
  refine V.seq ?_
  refine V.condD rfl (fun c1 => ?_) (fun c1 => ?_)
  · skip
    refine V.skip ?_
    refine X.next ?_
    refine V.seq ?_
    refine V.block ?_
    refine V.seq ?_
    refine V.region ?_
    refine O.p rfl rfl rfl (Pu.move rfl rfl) ?_
    refine O.p rfl rfl rfl (Pu.assign rfl rfl) ?_
    refine O.nil ?_
    refine X.next ?_
    refine V.seq ?_
    refine V.draw mo (by kernel_rfl) (fun hwf => ?_)
    refine D.p 0 rfl rfl rfl rfl rfl rfl (Pu.loadAgg' (v := B3.v y) rfl rfl ag51 sz51 rfl rfl (Ld.whole 0 rfl)) ?_
    refine D.p 1 rfl rfl rfl rfl rfl rfl (Pu.move rfl rfl) ?_
    refine D.p 2 rfl rfl rfl rfl rfl rfl (Pu.move rfl rfl) ?_
    refine D.p 3 rfl rfl rfl rfl rfl rfl (Pu.indexAddr (i) rfl Tryz.underlying24 sz51 rfl rfl (by omega) (by omega) (hs.some (by omega))) ?_
    have e1 : i < s.length := by omega
    refine D.p 4 rfl rfl rfl rfl rfl rfl (Pu.loadAgg' (v := B3.v (s[i]'e1)) rfl rfl ag51 sz51 rfl rfl (Ld.rds (Ld.old hs) (k := i) e1 rfl)) ?_
    refine D.p 5 rfl rfl rfl rfl rfl rfl (Pu.eqlB3 Tryz.underlying51 Tryz.underlying2 sz2 (by kernel_rfl) rfl rfl rfl) ?_
    refine D.done hwf rfl ?_
    refine X.next ?_
    refine V.condD rfl (fun c2 => ?_) (fun c2 => ?_)
    · skip
      refine V.seq ?_
      refine V.region ?_
      refine O.p rfl rfl rfl (Pu.move rfl rfl) ?_
      refine O.p rfl rfl rfl (Pu.assign rfl rfl) ?_
      refine O.nil ?_
      refine X.next ?_
      refine V.ret ?_
      refine X.blockRet ?_
      refine X.thenRet ?_
      refine X.thenRet ?_
      refine X.blockRet ?_
      refine X.thenRet ?_
      refine X.ret1 rfl rfl ?_
      exact fun w hw => St.retP (iv ((idxP_found (p := fun x => y = x) e1 c2 hn).symm)) hw
    · skip
      refine V.skip ?_
      refine X.blockNormal ?_
      refine X.next ?_
      refine V.region ?_
      refine O.p rfl rfl rfl (Pu.add64 (r := ((i + 1 : Nat) : Int)) rfl (by omega) rfl rfl rfl) ?_
      refine O.p rfl rfl rfl (Pu.move rfl rfl) ?_
      refine O.nil ?_
      exact X.back3 (i + 1) ⟨by omega, fun j hj h => by by_cases e : j = i; (· subst e; exact c2); (· exact hn j hj (by omega))⟩ (by first | omega | (dsimp only; omega)) (Ent.cons rfl (Ent.nil _)) (Ent.cons (t := 0) rfl (Ent.cons (t := 3) rfl (Ent.cons (t := 7) rfl (Ent.nil _)))) (Sub.keep 0 rfl (Sub.nil _))
  · skip
    refine V.exit ?_
    refine X.thenExit ?_
    refine X.thenExit ?_
    refine X.blockHit ?_
    refine X.next ?_
    refine V.seq ?_
    refine V.region ?_
    refine O.p rfl rfl rfl (Pu.assign rfl rfl) ?_
    refine O.nil ?_
    refine X.next ?_
    refine V.ret ?_
    refine X.ret1 rfl rfl ?_
    exact fun w hw => St.retP (iv ((idxP_none (p := fun x => y = x) (fun j hj => hn j hj (by omega))).symm)) hw
set_option maxRecDepth 100000 in
set_option maxHeartbeats 1000000 in
theorem numbersOf_ok (v : Int) (bs : List B3) (p : B3 → Prop) [DecidablePred p] (gf : Nat) (caps : Array Value) (A : Option Addr) (c : Nat) (w : World) (hx : Rd B3C w A bs) (lx : bs.length ≤ 4611686018427387904) (hok : CallOk Tryz.prog gf) (lf : bs.length ≤ 1099511627776) (hf : ∀ (k : Nat) (hk : k < bs.length) w', Bel w.heap.size w w' → Does Tryz.prog gf ([B3.v bs[k]] ++ caps.toList) w' [] (fun v => [.pur (v = .bool (decide (p bs[k])))])) : Does Tryz.prog 178 [.agg #[.int .i64 v, .slice A bs.length c], .func (.func gf) #[] caps] w [] (fun rv_ => [.exi fun (rA : Option Addr) => .exi fun (rc : Nat) => .exi fun (r : List Int) => .sep (.pur (rv_ = .slice rA r.length rc ∧ r = numsAt p bs bs.length)) (Own 2 I64 rA rc r)]) := by
  refine Does.enter Tryz.func178 rfl rfl [(0, .agg #[.int .i64 v, .slice A bs.length c]), (1, .func (.func gf) #[] caps)] rfl ?_
  refine V.seq ?_
  refine V.region ?_
  refine O.e rfl rfl rfl (Ef.box rfl rfl rfl) ?_
  rintro _ _ ⟨b1, rfl, rfl⟩
  refine O.p rfl rfl rfl (Pu.assign rfl rfl) ?_
  refine O.nil ?_
  refine X.next ?_
  refine V.seq ?_
  refine V.region ?_
  refine O.p rfl rfl rfl (Pu.assign rfl rfl) ?_
  refine O.nil ?_
  refine X.next ?_
  refine V.seq ?_
  refine V.seq ?_
  refine V.region ?_
  refine O.p rfl rfl rfl (Pu.fieldAddr 1 rfl Tryz.underlying26 rfl sz24 rfl rfl) ?_
  refine O.p rfl rfl rfl (Pu.load rfl pl24 rfl (Ld.blk 0 rfl rfl)) ?_
  refine O.p rfl rfl rfl (Pu.len rfl Tryz.underlying24 rfl) ?_
  refine O.p rfl rfl rfl (Pu.move rfl rfl) ?_
  refine O.nil ?_
  refine X.next ?_
  refine V.block ?_
  refine V.map (fun w hw => St.addNil (T := 2) (C := I64) hw) ?_
  refine V.loop3 (β := (Option Addr) × Nat × (List Int) × Nat) (fun x => [(5, .slice x.1 x.2.2.1.length x.2.1), (11, .int .i64 (x.2.2.2 : Int))]) _ (fun x => [Own 2 I64 x.1 x.2.1 x.2.2.1]) _ (fun x => x.2.2.2 ≤ bs.length ∧ x.2.2.1 = numsAt p bs x.2.2.2 ∧ x.2.2.1.length ≤ x.2.2.2) (fun x => bs.length - x.2.2.2) (none, 0, [], 0) (by (try dsimp only); exact ⟨by omega, rfl, by simp⟩) (Ent.cons rfl (Ent.cons rfl (Ent.nil _))) (Ent.cons (t := 1) rfl (Ent.cons (t := 9) rfl (Ent.cons (t := 10) rfl (Ent.nil _)))) (Sub.keep 0 rfl (Sub.keep 0 rfl (Sub.nil _))) ?_
  rintro ⟨outA, outc, out, i⟩ ⟨hi, ho, hl⟩
  dsimp only at hi ho hl ⊢
  refine V.seq ?_
  refine V.region ?_
  refine O.p rfl rfl rfl (Pu.lss rfl rfl rfl) ?_
  refine O.nil ?_
  refine X.next ?_
  refine V.seq ?_
  refine V.condD rfl (fun c1 => ?_) (fun c1 => ?_)
  · skip
    refine V.skip ?_
    refine X.next ?_
    refine V.seq ?_
    refine V.block ?_
    refine V.seq ?_
    refine V.region ?_
    refine O.p rfl rfl rfl (Pu.move rfl rfl) ?_
    refine O.p rfl rfl rfl (Pu.indexAddr (i) rfl Tryz.underlying24 sz51 rfl rfl (by omega) (by omega) (hx.some (by omega))) ?_
    have e1 : i < bs.length := by omega
    refine O.p rfl rfl rfl (Pu.loadAgg' (v := B3.v (bs[i]'e1)) rfl rfl ag51 sz51 rfl rfl (Ld.rds (Ld.old hx) (k := i) e1 rfl)) ?_
    refine O.e rfl rfl rfl (Ef.alloc rfl zr51 rfl) ?_
    rintro _ _ ⟨b2, rfl, rfl⟩
    refine O.p rfl rfl rfl (Pu.assign rfl rfl) ?_
    refine O.s rfl rfl (Ef.storeAll 0 rfl sz51 rfl rfl rfl rfl (by simp [Value.oneCell']) rfl) ?_
    rintro _ _ rfl
    refine O.nil ?_
    refine X.next ?_
    refine V.seq ?_
    refine V.region ?_
    refine O.p rfl rfl rfl (Pu.move rfl rfl) ?_
    refine O.p rfl rfl rfl (Pu.loadAgg' (v := B3.v (bs[i]'e1)) rfl rfl ag51 sz51 rfl rfl (Ld.whole 0 rfl)) ?_
    refine O.e rfl rfl rfl (Ef.callPV hok rfl rfl rfl (fun w' hw => hf i e1 w' hw.below)) ?_
    rintro _ _ ⟨rfl, rfl⟩
    refine O.nil ?_
    refine X.next ?_
    refine V.condD rfl (fun c2 => ?_) (fun c2 => ?_)
    · skip
      refine V.region ?_
      refine O.p rfl rfl rfl (Pu.move rfl rfl) ?_
      refine O.p rfl rfl rfl (Pu.move rfl rfl) ?_
      refine O.e rfl rfl rfl (Ef.build I64 ([(↑i : Int)] : List Int) rfl Tryz.underlying34 inf2 rfl rfl rfl (by first | decide | (simp; done)) (by kernel_rfl)) ?_
      rintro _ _ ⟨A1, hA1, rfl, rfl⟩
      refine O.e rfl rfl rfl (Ef.append (xs := out) (ys := ([(↑i : Int)] : List Int)) 2 rfl Tryz.underlying34 inf2 rfl rfl rfl rfl rfl rfl hA1 (Ld.own 0 (by exact rfl)) (by simp only [List.length_append, List.length_cons, List.length_nil] at *; omega) (by decide)) ?_
      rintro _ _ ⟨A2, k1, rfl, rfl, hA2⟩
      replace hA2 := hA2 (.inr (by simp))
      refine O.p rfl rfl rfl (Pu.assign rfl rfl) ?_
      refine O.nil ?_
      refine X.blockNormal ?_
      refine X.next ?_
      refine V.region ?_
      refine O.p rfl rfl rfl (Pu.add64 (r := ((i + 1 : Nat) : Int)) rfl (by omega) rfl rfl rfl) ?_
      refine O.p rfl rfl rfl (Pu.move rfl rfl) ?_
      refine O.nil ?_
      exact X.back3 (A2, k1, (out ++ ([(↑i : Int)] : List Int)), i + 1) (by (try dsimp only); exact ⟨by omega, by rw [ho, numsAt_yes e1 c2], by simp only [List.length_append, List.length_singleton]; omega⟩) (by first | omega | (dsimp only; omega)) (Ent.cons rfl (Ent.cons rfl (Ent.nil _))) (Ent.cons (t := 1) rfl (Ent.cons (t := 9) rfl (Ent.cons (t := 10) rfl (Ent.nil _)))) (Sub.keep 2 rfl (Sub.keep 2 rfl (Sub.nil _)))
    · skip
      refine V.skip ?_
      refine X.blockNormal ?_
      refine X.next ?_
      refine V.region ?_
      refine O.p rfl rfl rfl (Pu.add64 (r := ((i + 1 : Nat) : Int)) rfl (by omega) rfl rfl rfl) ?_
      refine O.p rfl rfl rfl (Pu.move rfl rfl) ?_
      refine O.nil ?_
      exact X.back3 (outA, outc, out, i + 1) (by (try dsimp only); exact ⟨by omega, by rw [ho, numsAt_no e1 c2], by omega⟩) (by first | omega | (dsimp only; omega)) (Ent.cons rfl (Ent.cons rfl (Ent.nil _))) (Ent.cons (t := 1) rfl (Ent.cons (t := 9) rfl (Ent.cons (t := 10) rfl (Ent.nil _)))) (Sub.keep 1 rfl (Sub.keep 1 rfl (Sub.nil _)))
  · skip
    refine V.exit ?_
    refine X.thenExit ?_
    refine X.thenExit ?_
    refine X.blockHit ?_
    refine X.next ?_
    refine V.seq ?_
    refine V.region ?_
    refine O.p rfl rfl rfl (Pu.move rfl rfl) ?_
    refine O.p rfl rfl rfl (Pu.assign rfl rfl) ?_
    refine O.nil ?_
    refine X.next ?_
    refine V.ret ?_
    refine X.ret1 rfl rfl ?_
    exact fun w hw => St.mkExi outA (St.mkExi outc (St.mkExi out (St.unsep (St.addPur ⟨rfl, by rw [ho, show i = bs.length by omega]⟩ (hw.sub (Sub.keep 0 rfl (Sub.nil _)))))))
set_option maxRecDepth 100000 in
set_option maxHeartbeats 1000000 in
theorem l01Sort_ok (blocks : List B3) (blocksA : Option Addr) (blocksc : Nat) (w : World) (hblocks : Rd B3C w blocksA blocks) (lblocks : blocks.length ≤ 1099511627776) (lb : blocks.length ≤ 1000000) : Does Tryz.prog 240 [.slice blocksA blocks.length blocksc] w [] (fun rv_ => [.exi fun (rA : Option Addr) => .exi fun (rc : Nat) => .exi fun (r : List B3) => .sep (.pur (rv_ = .slice rA r.length rc ∧ r.Perm blocks ∧ SrtB r)) (Own 51 B3C rA rc r)]) := by
  refine Does.enter Tryz.func240 rfl rfl [(0, .slice blocksA blocks.length blocksc)] rfl ?_
  refine V.seq ?_
  refine V.region ?_
  refine O.p rfl rfl rfl (Pu.assign rfl rfl) ?_
  refine O.nil ?_
  refine X.next ?_
  refine V.seq ?_
  refine V.region ?_
  refine O.e rfl rfl rfl (Ef.build B3C ([] : List B3) rfl Tryz.underlying24 inf51 rfl rfl rfl (by first | decide | (simp; done)) (by kernel_rfl)) ?_
  rintro _ _ ⟨A1, hA1, rfl, rfl⟩
  refine O.p rfl rfl rfl (Pu.assign rfl rfl) ?_
  refine O.nil ?_
  refine X.next ?_
  refine V.seq ?_
  refine V.seq ?_
  refine V.region ?_
  refine O.p rfl rfl rfl (Pu.assign rfl rfl) ?_
  refine O.nil ?_
  refine X.next ?_
  refine V.block ?_
  refine V.loop2 (β := (Option Addr) × Nat × (List B3) × Nat) (fun x => [(3, .slice x.1 x.2.2.1.length x.2.1), (4, .int .i64 (x.2.2.2 : Int))]) _ (fun x => [Own 51 B3C x.1 x.2.1 x.2.2.1]) (fun x => x.2.2.2 ≤ blocks.length ∧ x.2.2.1.Perm (blocks.take x.2.2.2) ∧ SrtB x.2.2.1) (fun x => blocks.length - x.2.2.2) (A1, 0, ([] : List B3), 0) (by (try dsimp only); exact ⟨by omega, by simp, List.Pairwise.nil⟩) (Ent.cons rfl (Ent.cons rfl (Ent.nil _))) (Ent.cons (t := 0) rfl (Ent.nil _)) (Sub.keep 0 rfl (Sub.nil _)) ?_
  rintro ⟨outA, outc, out, i⟩ ⟨hi, hp, hsr⟩
  dsimp only at hi hp hsr ⊢
  have hol : out.length = i := by rw [hp.length_eq, List.length_take]; omega
  refine V.seq ?_
  refine V.seq ?_
  refine V.region ?_
  refine O.p rfl rfl rfl (Pu.move rfl rfl) ?_
  refine O.p rfl rfl rfl (Pu.move rfl rfl) ?_
  refine O.p rfl rfl rfl (Pu.len rfl Tryz.underlying24 rfl) ?_
  refine O.p rfl rfl rfl (Pu.lss rfl rfl rfl) ?_
  refine O.nil ?_
  refine X.next ?_
  refine V.condD rfl (fun c1 => ?_) (fun c1 => ?_)
  · skip
    refine V.skip ?_
    refine X.next ?_
    refine V.seq ?_
    refine V.block ?_
    refine V.seq ?_
    refine V.region ?_
    refine O.p rfl rfl rfl (Pu.move rfl rfl) ?_
    refine O.p rfl rfl rfl (Pu.len rfl Tryz.underlying24 rfl) ?_
    refine O.p rfl rfl rfl (Pu.assign rfl rfl) ?_
    refine O.nil ?_
    refine X.next ?_
    refine V.seq ?_
    refine V.region ?_
    refine O.p rfl rfl rfl (Pu.move rfl rfl) ?_
    refine O.p rfl rfl rfl (Pu.move rfl rfl) ?_
    refine O.p rfl rfl rfl (Pu.move rfl rfl) ?_
    refine O.p rfl rfl rfl (Pu.indexAddr (i) rfl Tryz.underlying24 sz51 rfl rfl (by omega) (by omega) (hblocks.some (by omega))) ?_
    have e1 : i < blocks.length := by omega
    refine O.p rfl rfl rfl (Pu.loadAgg' (v := B3.v (blocks[i]'e1)) rfl rfl ag51 sz51 rfl rfl (Ld.rds (Ld.old hblocks) (k := i) e1 rfl)) ?_
    refine O.e rfl rfl rfl (Ef.build B3C ([(blocks[i]'e1)] : List B3) rfl Tryz.underlying24 inf51 rfl rfl rfl (by first | decide | (simp; done)) (by kernel_rfl)) ?_
    rintro _ _ ⟨A2, hA2, rfl, rfl⟩
    refine O.e rfl rfl rfl (Ef.append (xs := out) (ys := ([(blocks[i]'e1)] : List B3)) 1 rfl Tryz.underlying24 inf51 rfl rfl rfl rfl rfl rfl hA2 (Ld.own 0 (by exact rfl)) (by simp only [List.length_append, List.length_cons, List.length_nil] at *; omega) (by decide)) ?_
    rintro _ _ ⟨A3, k1, rfl, rfl, hA3⟩
    replace hA3 := hA3 (.inr (by simp))
    refine O.p rfl rfl rfl (Pu.assign rfl rfl) ?_
    refine O.nil ?_
    refine X.next ?_
    refine V.seq ?_
    refine V.block ?_
    refine V.loop3 (β := Nat × (List B3)) (fun x => [(5, .int .i64 (x.1 : Int))]) _ (fun x => [Own 51 B3C A3 k1 x.2]) _ (fun x => x.1 ≤ out.length ∧ x.2 = shiftAt out (blocks[i]'e1) x.1 ∧ ∀ j (hj : j < out.length), x.1 ≤ j → B3.lt (blocks[i]'e1) out[j]) (fun x => x.1) (out.length, (out ++ ([(blocks[i]'e1)] : List B3))) (by (try dsimp only); exact ⟨by omega, shiftAt_start.symm, fun j hj h => by omega⟩) (Ent.cons rfl (Ent.nil _)) (Ent.cons (t := 0) rfl (Ent.cons (t := 3) rfl (Ent.cons (t := 4) rfl (Ent.nil _)))) (Sub.keep 1 rfl (Sub.keep 0 rfl (Sub.nil _))) ?_
    rintro ⟨y, z⟩ ⟨hy, hz, hz2⟩
    dsimp only at hy hz hz2 ⊢
    have hzl : z.length = out.length + 1 := by rw [hz]; exact shiftAt_len hy
    have hoa : (out ++ [(blocks[i]'e1)]).length = out.length + 1 := by simp
    refine V.seq ?_
    refine V.seq ?_
    refine V.draw mo (by kernel_rfl) (fun hwf => ?_)
    refine D.p 0 rfl rfl rfl rfl rfl rfl (Pu.move rfl rfl) ?_
    refine D.p 1 rfl rfl rfl rfl rfl rfl (Pu.gtr rfl rfl rfl) ?_
    refine D.p 2 rfl rfl rfl rfl rfl rfl (Pu.move rfl rfl) ?_
    refine D.splitD 24 rfl (fun c2 => ?_) (fun c2 => ?_)
    · skip
      refine D.gp 3 rfl rfl rfl rfl rfl rfl rfl rfl (Pu.move rfl rfl) ?_
      refine D.gp 4 rfl rfl rfl rfl rfl rfl rfl rfl (Pu.move rfl rfl) ?_
      refine D.gp 5 rfl rfl rfl rfl rfl rfl rfl rfl (Pu.indexAddr (i) rfl Tryz.underlying24 sz51 rfl rfl (by omega) (by omega) (hblocks.some (by omega))) ?_
      refine D.gp 6 rfl rfl rfl rfl rfl rfl rfl rfl (Pu.loadAgg' (v := B3.v (blocks[i]'e1)) rfl rfl ag51 sz51 rfl rfl (Ld.rds (Ld.old hblocks) (k := i) e1 rfl)) ?_
      refine D.gp 7 rfl rfl rfl rfl rfl rfl rfl rfl (Pu.move rfl rfl) ?_
      refine D.gp 8 rfl rfl rfl rfl rfl rfl rfl rfl (Pu.move rfl rfl) ?_
      refine D.gp 9 rfl rfl rfl rfl rfl rfl rfl rfl (Pu.sub64 (r := ((y - 1 : Nat) : Int)) (by omega) (by omega) rfl rfl rfl) ?_
      refine D.gp 10 rfl rfl rfl rfl rfl rfl rfl rfl (Pu.indexAddrS (y - 1) rfl Tryz.underlying24 sz51 rfl rfl (by omega) (by omega) (fun w hw => Own.some hw (i := 0) (by exact rfl) (by omega))) ?_
      have e2 : y - 1 < z.length := by omega
      refine D.gp 11 rfl rfl rfl rfl rfl rfl rfl rfl (Pu.loadAgg' (v := B3.v (z[y - 1]'e2)) rfl rfl ag51 sz51 rfl rfl (Ld.rds (C := B3C) (Ld.own 0 (by exact rfl)) (k := y - 1) e2 rfl)) ?_
      refine D.geff hwf (e := 12) rfl rfl rfl rfl rfl rfl (Ef.callP call166 rfl rfl (fun w hw => l01Before_ok _ _ _)) rfl rfl rfl ?_
      rintro _ _ ⟨rfl, rfl⟩ hs
      refine ⟨fun w hw => hw, ?_⟩
      refine D.p 13 rfl rfl rfl rfl rfl rfl (Pu.pickT rfl rfl rfl) ?_
      refine D.done hwf rfl ?_
      refine X.next ?_
      refine V.condD rfl (fun c3 => ?_) (fun c3 => ?_)
      · skip
        refine V.skip ?_
        refine X.next ?_
        refine V.block ?_
        refine V.seq ?_
        refine V.region ?_
        refine O.p rfl rfl rfl (Pu.move rfl rfl) ?_
        refine O.p rfl rfl rfl (Pu.move rfl rfl) ?_
        refine O.p rfl rfl rfl (Pu.move rfl rfl) ?_
        refine O.p rfl rfl rfl (Pu.move rfl rfl) ?_
        refine O.p rfl rfl rfl (Pu.sub64 (r := ((y - 1 : Nat) : Int)) (by omega) (by omega) rfl rfl rfl) ?_
        refine O.p rfl rfl rfl (Pu.indexAddrS (y - 1) rfl Tryz.underlying24 sz51 rfl rfl (by omega) (by omega) (fun w hw => Own.some hw (i := 0) (by exact rfl) (by omega))) ?_
        refine O.p rfl rfl rfl (Pu.loadAgg' (v := B3.v (z[y - 1]'e2)) rfl rfl ag51 sz51 rfl rfl (Ld.rds (C := B3C) (Ld.own 0 (by exact rfl)) (k := y - 1) e2 rfl)) ?_
        refine O.p rfl rfl rfl (Pu.indexAddrS (y) rfl Tryz.underlying24 sz51 rfl rfl (by omega) (by omega) (fun w hw => Own.some hw (i := 0) (by exact rfl) (by omega))) ?_
        refine O.s rfl rfl (Ef.storeOwn 0 (y) (z[y - 1]'e2) rfl sz51 rfl rfl rfl rfl (by omega) rfl) ?_
        rintro _ _ rfl
        refine O.nil ?_
        refine X.next ?_
        refine V.region ?_
        refine O.p rfl rfl rfl (Pu.move rfl rfl) ?_
        refine O.p rfl rfl rfl (Pu.sub64 (r := ((y - 1 : Nat) : Int)) (by omega) (by omega) rfl rfl rfl) ?_
        refine O.p rfl rfl rfl (Pu.assign rfl rfl) ?_
        refine O.nil ?_
        refine X.blockNormal ?_
        exact X.back3 (y - 1, (z.set (y) (z[y - 1]'e2))) (by (try dsimp only); exact ⟨by omega, by subst hz; exact shiftAt_step hy (by omega) _, fun j hj h => by by_cases e : j = y - 1; (· subst e; have e4 : z[y - 1]'(by omega) = out[y - 1]'(by omega) := (by subst hz; exact shiftAt_lt hy (by omega) _); rw [← e4]; exact c3); (· exact hz2 j hj (by omega))⟩) (by first | omega | (dsimp only; omega)) (Ent.cons rfl (Ent.nil _)) (Ent.cons (t := 0) rfl (Ent.cons (t := 3) rfl (Ent.cons (t := 4) rfl (Ent.nil _)))) (Sub.keep 0 rfl (Sub.keep 0 rfl (Sub.nil _)))
      · skip
        refine V.exit ?_
        refine X.thenExit ?_
        refine X.thenExit ?_
        refine X.blockHit ?_
        refine X.next ?_
        refine V.region ?_
        refine O.p rfl rfl rfl (Pu.move rfl rfl) ?_
        refine O.p rfl rfl rfl (Pu.move rfl rfl) ?_
        refine O.p rfl rfl rfl (Pu.move rfl rfl) ?_
        refine O.p rfl rfl rfl (Pu.move rfl rfl) ?_
        refine O.p rfl rfl rfl (Pu.indexAddr (i) rfl Tryz.underlying24 sz51 rfl rfl (by omega) (by omega) (hblocks.some (by omega))) ?_
        refine O.p rfl rfl rfl (Pu.loadAgg' (v := B3.v (blocks[i]'e1)) rfl rfl ag51 sz51 rfl rfl (Ld.rds (Ld.old hblocks) (k := i) e1 rfl)) ?_
        refine O.p rfl rfl rfl (Pu.indexAddrS (y) rfl Tryz.underlying24 sz51 rfl rfl (by omega) (by omega) (fun w hw => Own.some hw (i := 0) (by exact rfl) (by omega))) ?_
        refine O.s rfl rfl (Ef.storeOwn 0 (y) (blocks[i]'e1) rfl sz51 rfl rfl rfl rfl (by omega) rfl) ?_
        rintro _ _ rfl
        refine O.nil ?_
        refine X.blockNormal ?_
        refine X.next ?_
        refine V.region ?_
        refine O.p rfl rfl rfl (Pu.move rfl rfl) ?_
        refine O.p rfl rfl rfl (Pu.add64 (r := ((i + 1 : Nat) : Int)) rfl (by omega) rfl rfl rfl) ?_
        refine O.p rfl rfl rfl (Pu.assign rfl rfl) ?_
        refine O.nil ?_
        exact X.back2 (A3, k1, (out.take y ++ (blocks[i]'e1) :: out.drop y), i + 1) (by (try dsimp only); exact ⟨by omega, ((ins_perm (y := y)).trans ((hp.append_right _).trans (by rw [take_snoc e1]))), ins_sorted hsr hy hz2 (fun h0 => by have e4 : z[y - 1]'(by omega) = out[y - 1]'(by omega) := (by subst hz; exact shiftAt_lt hy (by omega) _); rw [← e4]; exact c3)⟩) (by first | omega | (dsimp only; omega)) (Ent.cons' rfl (by rw [(ins_perm (y := y)).length_eq]) (Ent.cons rfl (Ent.nil _))) (Ent.cons (t := 0) rfl (Ent.nil _)) (Sub.cons 0 rfl (fun w F h => by rw [hz, shiftAt_done hy] at h; exact h) (Sub.nil _))
    · skip
      refine D.gs 3 rfl rfl rfl rfl rfl rfl rfl rfl rfl ?_
      refine D.gs 4 rfl rfl rfl rfl rfl rfl rfl rfl rfl ?_
      refine D.gs 5 rfl rfl rfl rfl rfl rfl rfl rfl rfl ?_
      refine D.gs 6 rfl rfl rfl rfl rfl rfl rfl rfl rfl ?_
      refine D.gs 7 rfl rfl rfl rfl rfl rfl rfl rfl rfl ?_
      refine D.gs 8 rfl rfl rfl rfl rfl rfl rfl rfl rfl ?_
      refine D.gs 9 rfl rfl rfl rfl rfl rfl rfl rfl rfl ?_
      refine D.gs 10 rfl rfl rfl rfl rfl rfl rfl rfl rfl ?_
      refine D.gs 11 rfl rfl rfl rfl rfl rfl rfl rfl rfl ?_
      refine D.gs 12 rfl rfl rfl rfl rfl rfl rfl rfl rfl ?_
      refine D.p 13 rfl rfl rfl rfl rfl rfl (Pu.pickF rfl rfl rfl) ?_
      refine D.done hwf rfl ?_
      refine X.next ?_
      refine V.condF rfl ?_
      refine V.exit ?_
      refine X.thenExit ?_
      refine X.thenExit ?_
      refine X.blockHit ?_
      refine X.next ?_
      refine V.region ?_
      refine O.p rfl rfl rfl (Pu.move rfl rfl) ?_
      refine O.p rfl rfl rfl (Pu.move rfl rfl) ?_
      refine O.p rfl rfl rfl (Pu.move rfl rfl) ?_
      refine O.p rfl rfl rfl (Pu.move rfl rfl) ?_
      refine O.p rfl rfl rfl (Pu.indexAddr (i) rfl Tryz.underlying24 sz51 rfl rfl (by omega) (by omega) (hblocks.some (by omega))) ?_
      refine O.p rfl rfl rfl (Pu.loadAgg' (v := B3.v (blocks[i]'e1)) rfl rfl ag51 sz51 rfl rfl (Ld.rds (Ld.old hblocks) (k := i) e1 rfl)) ?_
      refine O.p rfl rfl rfl (Pu.indexAddrS (y) rfl Tryz.underlying24 sz51 rfl rfl (by omega) (by omega) (fun w hw => Own.some hw (i := 0) (by exact rfl) (by omega))) ?_
      refine O.s rfl rfl (Ef.storeOwn 0 (y) (blocks[i]'e1) rfl sz51 rfl rfl rfl rfl (by omega) rfl) ?_
      rintro _ _ rfl
      refine O.nil ?_
      refine X.blockNormal ?_
      refine X.next ?_
      refine V.region ?_
      refine O.p rfl rfl rfl (Pu.move rfl rfl) ?_
      refine O.p rfl rfl rfl (Pu.add64 (r := ((i + 1 : Nat) : Int)) rfl (by omega) rfl rfl rfl) ?_
      refine O.p rfl rfl rfl (Pu.assign rfl rfl) ?_
      refine O.nil ?_
      exact X.back2 (A3, k1, (out.take y ++ (blocks[i]'e1) :: out.drop y), i + 1) (by (try dsimp only); exact ⟨by omega, ((ins_perm (y := y)).trans ((hp.append_right _).trans (by rw [take_snoc e1]))), ins_sorted hsr hy hz2 (fun h0 => by omega)⟩) (by first | omega | (dsimp only; omega)) (Ent.cons' rfl (by rw [(ins_perm (y := y)).length_eq]) (Ent.cons rfl (Ent.nil _))) (Ent.cons (t := 0) rfl (Ent.nil _)) (Sub.cons 0 rfl (fun w F h => by rw [hz, shiftAt_done hy] at h; exact h) (Sub.nil _))
  · skip
    refine V.exit ?_
    refine X.thenExit ?_
    refine X.thenExit ?_
    refine X.blockHit ?_
    refine X.next ?_
    refine V.seq ?_
    refine V.region ?_
    refine O.p rfl rfl rfl (Pu.move rfl rfl) ?_
    refine O.p rfl rfl rfl (Pu.assign rfl rfl) ?_
    refine O.nil ?_
    refine X.next ?_
    refine V.ret ?_
    refine X.ret1 rfl rfl ?_
    exact fun w hw => St.mkExi outA (St.mkExi outc (St.mkExi out (St.unsep (St.addPur ⟨rfl, by rw [List.take_of_length_le (by omega)] at hp; exact hp, hsr⟩ (hw.sub (Sub.keep 0 rfl (Sub.nil _)))))))
set_option maxRecDepth 100000 in
set_option maxHeartbeats 1000000 in
theorem l01Made_ok (v_ : Int) (blocks : List B3) (blocksA : Option Addr) (blocksc : Nat) (w : World) (hblocks : Rd B3C w blocksA blocks) (lblocks : blocks.length ≤ 1099511627776) (lb : blocks.length ≤ 1000000) : Does Tryz.prog 199 [.int .i64 v_, .slice blocksA blocks.length blocksc] w [] (fun rv_ => [.exi fun (rA : Option Addr) => .exi fun (rc : Nat) => .exi fun (r : List B3) => .sep (.pur (rv_ = .agg #[.int .i64 v_, .slice rA r.length rc] ∧ r.Perm blocks ∧ SrtB r)) (Own 51 B3C rA rc r)]) := by
  refine Does.enter Tryz.func199 rfl rfl [(0, .int .i64 v_), (1, .slice blocksA blocks.length blocksc)] rfl ?_
  refine V.seq ?_
  refine V.region ?_
  refine O.e rfl rfl rfl (Ef.alloc rfl zr26 rfl) ?_
  rintro _ _ ⟨b1, rfl, rfl⟩
  refine O.nil ?_
  refine X.next ?_
  refine V.seq ?_
  refine V.region ?_
  refine O.p rfl rfl rfl (Pu.move rfl rfl) ?_
  refine O.p rfl rfl rfl (Pu.move rfl rfl) ?_
  refine O.e rfl rfl rfl (Ef.call1 call240 rfl rfl (fun w hw => l01Sort_ok  blocks _ _ w ((Ld.old hblocks) w hw) (by first | omega | (simp only [tops_len, conts_len, bl, List.length_append, List.length_cons, List.length_nil] at *; omega)) (by first | assumption | omega | (try dsimp only at *; omega)))) ?_
  rintro _ _ rfl
  refine O.exi (fun r1A => ?_)
  refine O.exi (fun r1c => ?_)
  refine O.exi (fun r1 => ?_)
  refine O.sep ?_
  refine O.pur ?_
  rintro ⟨rfl, hr1_1, hr1_2⟩
  refine O.p rfl rfl rfl (Pu.buildS (cs := [.int .i64 v_, .slice r1A r1.length r1c]) rfl rfl Tryz.underlying26 zr26 (by kernel_rfl) rfl (by kernel_rfl)) ?_
  refine O.s rfl rfl (Ef.storeAll 1 rfl sz26 rfl rfl rfl rfl (by simp [Value.oneCell']) rfl) ?_
  rintro _ _ rfl
  refine O.nil ?_
  refine X.next ?_
  refine V.ret ?_
  refine X.retCell rfl ag26 sz26 rfl rfl (Ld.whole 1 rfl) ?_
  exact fun w hw => St.mkExi r1A (St.mkExi r1c (St.mkExi r1 (St.unsep (St.addPur ⟨rfl, hr1_1, hr1_2⟩ (hw.sub (Sub.keep 0 rfl (Sub.nil _)))))))
def layI_ren : Go.Shelf.Ren := ⟨fun | 5 => 182 | 8 => 194 | 7 => 225 | 19 => 237 | 20 => 238 | 10 => 246 | 11 => 247 | 12 => 248 | 13 => 249 | 14 => 250 | 15 => 251 | 16 => 252 | 17 => 253 | 18 => 254 | 30 => 262 | 31 => 256 | 32 => 257 | 33 => 263 | 34 => 264 | 35 => 239 | 40 => 267 | n => n, fun | 23 => 34 | 25 => 2 | 3 => 3 | 32 => 76 | 22 => 34 | 0 => 0 | 44 => 171 | 46 => 90 | 4 => 4 | 36 => 187 | 35 => 186 | 41 => 191 | 5 => 5 | 9 => 9 | 53 => 207 | 57 => 211 | 63 => 219 | 64 => 220 | n => n, fun | n => n⟩
theorem layI : SlLaysM.n5 Tryz.prog layI_ren where
  mixed := by kernel_rfl
  f5 := ⟨Tryz.f182.name, by decide, Tryz.func182.trans (congrArg some (by kernel_rfl))⟩
  f7 := ⟨Tryz.f225.name, by decide, Tryz.func225.trans (congrArg some (by kernel_rfl))⟩
  f8 := Tryz.func194.trans (congrArg some (by kernel_rfl))
  f10 := ⟨Tryz.f246.name, by decide, Tryz.func246.trans (congrArg some (by kernel_rfl))⟩
  f11 := ⟨Tryz.f247.name, by decide, Tryz.func247.trans (congrArg some (by kernel_rfl))⟩
  f12 := ⟨Tryz.f248.name, by decide, Tryz.func248.trans (congrArg some (by kernel_rfl))⟩
  f13 := ⟨Tryz.f249.name, by decide, Tryz.func249.trans (congrArg some (by kernel_rfl))⟩
  f14 := ⟨Tryz.f250.name, by decide, Tryz.func250.trans (congrArg some (by kernel_rfl))⟩
  f15 := ⟨Tryz.f251.name, by decide, Tryz.func251.trans (congrArg some (by kernel_rfl))⟩
  f16 := ⟨Tryz.f252.name, by decide, Tryz.func252.trans (congrArg some (by kernel_rfl))⟩
  f17 := ⟨Tryz.f253.name, by decide, Tryz.func253.trans (congrArg some (by kernel_rfl))⟩
  f18 := ⟨Tryz.f254.name, by decide, Tryz.func254.trans (congrArg some (by kernel_rfl))⟩
  f19 := Tryz.func237.trans (congrArg some (by kernel_rfl))
  f20 := Tryz.func238.trans (congrArg some (by kernel_rfl))
  f30 := ⟨Tryz.f262.name, by decide, Tryz.func262.trans (congrArg some (by kernel_rfl))⟩
  f31 := Tryz.func256.trans (congrArg some (by kernel_rfl))
  f32 := Tryz.func257.trans (congrArg some (by kernel_rfl))
  f33 := ⟨Tryz.f263.name, by decide, Tryz.func263.trans (congrArg some (by kernel_rfl))⟩
  f34 := ⟨Tryz.f264.name, by decide, Tryz.func264.trans (congrArg some (by kernel_rfl))⟩
  f35 := ⟨Tryz.f239.name, by decide, Tryz.func239.trans (congrArg some (by kernel_rfl))⟩
  f40 := ⟨Tryz.f267.name, by decide, Tryz.func267.trans (congrArg some (by kernel_rfl))⟩
  t0 := Tryz.underlying0
  a0 := Tryz.isAgg0
  z0 := Tryz.sizeOf0
  v0 := Tryz.zeroValue0
  t3 := Tryz.underlying3
  a3 := Tryz.isAgg3
  z3 := Tryz.sizeOf3
  v3 := Tryz.zeroValue3
  t4 := Tryz.underlying4
  a4 := Tryz.isAgg4
  z4 := Tryz.sizeOf4
  v4 := Tryz.zeroValue4
  t5 := Tryz.underlying5
  a5 := Tryz.isAgg5
  z5 := Tryz.sizeOf5
  v5 := Tryz.zeroValue5
  t9 := Tryz.underlying9
  a9 := Tryz.isAgg9
  z9 := Tryz.sizeOf9
  v9 := Tryz.zeroValue9
  t22 := Tryz.underlying34
  a22 := Tryz.isAgg34
  z22 := Tryz.sizeOf34
  v22 := Tryz.zeroValue34
  t23 := Tryz.underlying34
  a23 := Tryz.isAgg34
  z23 := Tryz.sizeOf34
  v23 := Tryz.zeroValue34
  t25 := Tryz.underlying2
  a25 := Tryz.isAgg2
  z25 := Tryz.sizeOf2
  v25 := Tryz.zeroValue2
  t32 := Tryz.underlying76
  a32 := Tryz.isAgg76
  z32 := Tryz.sizeOf76
  v32 := Tryz.zeroValue76
  t35 := Tryz.underlying186
  a35 := Tryz.isAgg186
  z35 := Tryz.sizeOf186
  v35 := Tryz.zeroValue186
  t36 := Tryz.underlying187
  a36 := Tryz.isAgg187
  z36 := Tryz.sizeOf187
  v36 := Tryz.zeroValue187
  t41 := Tryz.underlying191
  a41 := Tryz.isAgg191
  z41 := Tryz.sizeOf191
  v41 := Tryz.zeroValue191
  t44 := Tryz.underlying171
  a44 := Tryz.isAgg171
  z44 := Tryz.sizeOf171
  v44 := Tryz.zeroValue171
  t46 := Tryz.underlying90
  a46 := Tryz.isAgg90
  z46 := Tryz.sizeOf90
  v46 := Tryz.zeroValue90
  t53 := Tryz.underlying207
  a53 := Tryz.isAgg207
  z53 := Tryz.sizeOf207
  v53 := Tryz.zeroValue207
  t57 := Tryz.underlying211
  a57 := Tryz.isAgg211
  z57 := Tryz.sizeOf211
  v57 := Tryz.zeroValue211
  t63 := Tryz.underlying219
  a63 := Tryz.isAgg219
  z63 := Tryz.sizeOf219
  v63 := Tryz.zeroValue219
  t64 := Tryz.underlying220
  a64 := Tryz.isAgg220
  z64 := Tryz.sizeOf220
  v64 := Tryz.zeroValue220
theorem sortInt_ok (xs : List Int) (xsA : Option Addr) (xsc : Nat) (w0 : World) (H : List Assn) (lxs : xs.length ≤ 1099511627776) : Does Tryz.prog 182 [.slice xsA xs.length xsc] w0 (Own 2 I64 xsA xsc xs :: H) (fun v => [.sep (.pur (v = .tuple #[])) (Own 2 I64 xsA xsc (sortI xs))] ++ H) :=
  sortI_does layI (by omega)
theorem sort3_ok (x y z : Int) (g c T : Nat) (w0 : World) (H : List Assn) : Does Tryz.prog 182 [.slice (some ⟨g, 0, none⟩) 3 c] w0 (Blk g [.int .i64 x, .int .i64 y, .int .i64 z] T :: H) (fun v => [.sep (.pur (v = .tuple #[])) (Blk g [.int .i64 (lo3 x y z), .int .i64 (mi3 x y z), .int .i64 (hi3 x y z)] T)] ++ H) :=
  sort3_blk layI x y z
set_option maxRecDepth 100000 in
set_option maxHeartbeats 1000000 in
theorem blockOf_ok (a : Int) (b : Int) (c_ : Int) (w : World) : Does Tryz.prog 181 [.int .i64 a, .int .i64 b, .int .i64 c_] w [] (fun r => [.pur (r = B3.v (bk3 a b c_))]) := by
  refine Does.enter Tryz.func181 rfl rfl [(0, .int .i64 a), (1, .int .i64 b), (2, .int .i64 c_)] rfl ?_
  refine V.seq ?_
  refine V.region ?_
  refine O.e rfl rfl rfl (Ef.alloc rfl zr51 rfl) ?_
  rintro _ _ ⟨b1, rfl, rfl⟩
  refine O.nil ?_
  refine X.next ?_
  refine V.seq ?_
  refine V.region ?_
  refine O.p rfl rfl rfl (Pu.move rfl rfl) ?_
  refine O.p rfl rfl rfl (Pu.move rfl rfl) ?_
  refine O.p rfl rfl rfl (Pu.move rfl rfl) ?_
  refine O.p rfl rfl rfl (Pu.buildA (cs := [.int .i64 a, .int .i64 b, .int .i64 c_]) (v := B3.v (a, b, c_)) rfl rfl Tryz.underlying51 zr51 sz2 rfl (by kernel_rfl)) ?_
  refine O.e rfl rfl rfl (Ef.alloc rfl zr51 rfl) ?_
  rintro _ _ ⟨b2, rfl, rfl⟩
  refine O.s rfl rfl (Ef.storeAll 0 rfl sz51 rfl rfl rfl rfl (by simp [Value.oneCell']) rfl) ?_
  rintro _ _ rfl
  refine O.nil ?_
  refine X.next ?_
  refine V.seq ?_
  refine V.region ?_
  refine O.p rfl rfl rfl (Pu.slicePtr rfl Tryz.underlying51 sz2 rfl) ?_
  refine O.e rfl rfl rfl (Ef.call call182 rfl rfl (Does.pre (fun w hw => hw.sub (Sub.keep 0 rfl (Sub.keep 0 rfl (Sub.nil _)))) (sort3_ok a b c_ _ _ _ w _))) ?_
  rintro _ _ rfl
  refine O.sep ?_
  refine O.pur ?_
  rintro rfl
  refine O.nil ?_
  refine X.next ?_
  refine V.seq ?_
  refine V.region ?_
  refine O.p rfl rfl rfl (Pu.loadAgg' (v := B3.v (bk3 a b c_)) rfl rfl ag51 sz51 rfl rfl (Ld.whole 0 rfl)) ?_
  refine O.s rfl rfl (Ef.storeAll 1 rfl sz51 rfl rfl rfl rfl (by simp [Value.oneCell']) rfl) ?_
  rintro _ _ rfl
  refine O.nil ?_
  refine X.next ?_
  refine V.ret ?_
  refine X.retCell rfl ag51 sz51 rfl rfl (Ld.whole 1 rfl) ?_
  exact fun w hw => St.retP (rfl) hw
set_option maxRecDepth 100000 in
set_option maxHeartbeats 1000000 in
theorem l01At_ok (v : Int) (bs : List B3) (p : Int) (A : Option Addr) (c : Nat) (w : World) (hx : Rd B3C w A bs) (lx : bs.length ≤ 4611686018427387904) (lb : bs.length ≤ 1000000) : Does Tryz.prog 183 [.agg #[.int .i64 v, .slice A bs.length c], .int .i64 p] w [] (fun rv_ => [.exi fun (rA : Option Addr) => .exi fun (rc : Nat) => .exi fun (r : List Int) => .sep (.pur (rv_ = .slice rA r.length rc ∧ r = atL bs p)) (Own 2 I64 rA rc r)]) := by
  refine Does.enter Tryz.func183 rfl rfl [(0, .agg #[.int .i64 v, .slice A bs.length c]), (1, .int .i64 p)] rfl ?_
  refine V.seq ?_
  refine V.region ?_
  refine O.e rfl rfl rfl (Ef.box rfl rfl rfl) ?_
  rintro _ _ ⟨b1, rfl, rfl⟩
  refine O.p rfl rfl rfl (Pu.assign rfl rfl) ?_
  refine O.nil ?_
  refine X.next ?_
  refine V.seq ?_
  refine V.region ?_
  refine O.e rfl rfl rfl (Ef.build I64 ([] : List Int) rfl Tryz.underlying34 inf2 rfl rfl rfl (by first | decide | (simp; done)) (by kernel_rfl)) ?_
  rintro _ _ ⟨A1, hA1, rfl, rfl⟩
  refine O.p rfl rfl rfl (Pu.assign rfl rfl) ?_
  refine O.nil ?_
  refine X.next ?_
  refine V.seq ?_
  refine V.seq ?_
  refine V.region ?_
  refine O.p rfl rfl rfl (Pu.assign rfl rfl) ?_
  refine O.nil ?_
  refine X.next ?_
  refine V.block ?_
  refine V.loop3 (β := (Option Addr) × Nat × (List Int) × Nat) (fun x => [(5, .slice x.1 x.2.2.1.length x.2.1), (6, .int .i64 (x.2.2.2 : Int))]) _ (fun x => [Own 2 I64 x.1 x.2.1 x.2.2.1]) _ (fun x => x.2.2.2 ≤ bs.length ∧ x.2.2.1 = numsAt (fun c => has c p) bs x.2.2.2 ∧ x.2.2.1.length ≤ x.2.2.2) (fun x => bs.length - x.2.2.2) (A1, 0, ([] : List Int), 0) (by (try dsimp only); exact ⟨by omega, rfl, by simp⟩) (Ent.cons rfl (Ent.cons rfl (Ent.nil _))) (Ent.cons (t := 1) rfl (Ent.cons (t := 2) rfl (Ent.nil _))) (Sub.keep 0 rfl (Sub.keep 0 rfl (Sub.nil _))) ?_
  rintro ⟨outA, outc, out, i⟩ ⟨hi, ho, hl⟩
  dsimp only at hi ho hl ⊢
  refine V.seq ?_
  refine V.seq ?_
  refine V.region ?_
  refine O.p rfl rfl rfl (Pu.move rfl rfl) ?_
  refine O.p rfl rfl rfl (Pu.fieldAddr 1 rfl Tryz.underlying26 rfl sz24 rfl rfl) ?_
  refine O.p rfl rfl rfl (Pu.load rfl pl24 rfl (Ld.blk 1 rfl rfl)) ?_
  refine O.p rfl rfl rfl (Pu.len rfl Tryz.underlying24 rfl) ?_
  refine O.p rfl rfl rfl (Pu.lss rfl rfl rfl) ?_
  refine O.nil ?_
  refine X.next ?_
  refine V.condD rfl (fun c1 => ?_) (fun c1 => ?_)
  · skip
    refine V.skip ?_
    refine X.next ?_
    refine V.seq ?_
    refine V.block ?_
    refine V.seq ?_
    refine V.region ?_
    refine O.p rfl rfl rfl (Pu.fieldAddr 1 rfl Tryz.underlying26 rfl sz24 rfl rfl) ?_
    refine O.p rfl rfl rfl (Pu.load rfl pl24 rfl (Ld.blk 1 rfl rfl)) ?_
    refine O.p rfl rfl rfl (Pu.move rfl rfl) ?_
    refine O.p rfl rfl rfl (Pu.indexAddr (i) rfl Tryz.underlying24 sz51 rfl rfl (by omega) (by omega) (hx.some (by omega))) ?_
    have e1 : i < bs.length := by omega
    refine O.p rfl rfl rfl (Pu.loadAgg' (v := B3.v (bs[i]'e1)) rfl rfl ag51 sz51 rfl rfl (Ld.rds (Ld.old hx) (k := i) e1 rfl)) ?_
    refine O.p rfl rfl rfl (Pu.move rfl rfl) ?_
    refine O.e rfl rfl rfl (Ef.callP call88 rfl rfl (fun w hw => l01With_ok (bs[i]'e1) _ w)) ?_
    rintro _ _ ⟨rfl, rfl⟩
    refine O.nil ?_
    refine X.next ?_
    refine V.condD rfl (fun c2 => ?_) (fun c2 => ?_)
    · skip
      refine V.region ?_
      refine O.p rfl rfl rfl (Pu.move rfl rfl) ?_
      refine O.p rfl rfl rfl (Pu.move rfl rfl) ?_
      refine O.e rfl rfl rfl (Ef.build I64 ([(↑i : Int)] : List Int) rfl Tryz.underlying34 inf2 rfl rfl rfl (by first | decide | (simp; done)) (by kernel_rfl)) ?_
      rintro _ _ ⟨A2, hA2, rfl, rfl⟩
      refine O.e rfl rfl rfl (Ef.append (xs := out) (ys := ([(↑i : Int)] : List Int)) 1 rfl Tryz.underlying34 inf2 rfl rfl rfl rfl rfl rfl hA2 (Ld.own 0 (by exact rfl)) (by simp only [List.length_append, List.length_cons, List.length_nil] at *; omega) (by decide)) ?_
      rintro _ _ ⟨A3, k1, rfl, rfl, hA3⟩
      replace hA3 := hA3 (.inr (by simp))
      refine O.p rfl rfl rfl (Pu.assign rfl rfl) ?_
      refine O.nil ?_
      refine X.blockNormal ?_
      refine X.next ?_
      refine V.region ?_
      refine O.p rfl rfl rfl (Pu.move rfl rfl) ?_
      refine O.p rfl rfl rfl (Pu.add64 (r := ((i + 1 : Nat) : Int)) rfl (by omega) rfl rfl rfl) ?_
      refine O.p rfl rfl rfl (Pu.assign rfl rfl) ?_
      refine O.nil ?_
      exact X.back3 (A3, k1, (out ++ ([(↑i : Int)] : List Int)), i + 1) (by (try dsimp only); exact ⟨by omega, by rw [ho, numsAt_yes (p := fun c => has c p) e1 c2], by simp only [List.length_append, List.length_singleton]; omega⟩) (by first | omega | (dsimp only; omega)) (Ent.cons rfl (Ent.cons rfl (Ent.nil _))) (Ent.cons (t := 1) rfl (Ent.cons (t := 2) rfl (Ent.nil _))) (Sub.keep 1 rfl (Sub.keep 1 rfl (Sub.nil _)))
    · skip
      refine V.skip ?_
      refine X.blockNormal ?_
      refine X.next ?_
      refine V.region ?_
      refine O.p rfl rfl rfl (Pu.move rfl rfl) ?_
      refine O.p rfl rfl rfl (Pu.add64 (r := ((i + 1 : Nat) : Int)) rfl (by omega) rfl rfl rfl) ?_
      refine O.p rfl rfl rfl (Pu.assign rfl rfl) ?_
      refine O.nil ?_
      exact X.back3 (outA, outc, out, i + 1) (by (try dsimp only); exact ⟨by omega, by rw [ho, numsAt_no (p := fun c => has c p) e1 c2], by omega⟩) (by first | omega | (dsimp only; omega)) (Ent.cons rfl (Ent.cons rfl (Ent.nil _))) (Ent.cons (t := 1) rfl (Ent.cons (t := 2) rfl (Ent.nil _))) (Sub.keep 0 rfl (Sub.keep 0 rfl (Sub.nil _)))
  · skip
    refine V.exit ?_
    refine X.thenExit ?_
    refine X.thenExit ?_
    refine X.blockHit ?_
    refine X.next ?_
    refine V.seq ?_
    refine V.region ?_
    refine O.p rfl rfl rfl (Pu.move rfl rfl) ?_
    refine O.p rfl rfl rfl (Pu.assign rfl rfl) ?_
    refine O.nil ?_
    refine X.next ?_
    refine V.ret ?_
    refine X.ret1 rfl rfl ?_
    exact fun w hw => St.mkExi outA (St.mkExi outc (St.mkExi out (St.unsep (St.addPur ⟨rfl, by rw [ho, show i = bs.length by omega]; rfl⟩ (hw.sub (Sub.keep 0 rfl (Sub.nil _)))))))
end Go.Proofs.YtgjfcepnkllklaaGreat
