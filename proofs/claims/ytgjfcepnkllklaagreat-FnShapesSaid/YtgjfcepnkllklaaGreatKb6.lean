/-
  Contracts, part 6.
-/
import Derived.Test.YtgjfcepnkllklaaGreatKb5
set_option linter.unusedVariables false
set_option linter.unusedSimpArgs false
namespace Go.Proofs.YtgjfcepnkllklaaGreat
open Go Go.RowKit Go.Vc Go.Proofs
set_option maxRecDepth 100000 in
set_option maxHeartbeats 1000000 in
theorem l03MitresAt_ok (v : Int) (bs : List B3) (a : Int) (A : Option Addr) (c : Nat) (w : World) (hx : Rd B3C w A bs) (lx : bs.length ≤ 4611686018427387904) (hS : STS v bs) (ha : 0 ≤ a ∧ a < 15) : Does Tryz.prog 87 [.agg #[.int .i64 v, .slice A bs.length c], .int .i64 a] w [] (fun rv_ => [.exi fun (rA : Option Addr) => .exi fun (rc : Nat) => .exi fun (r : List (Sl × List Int)) => .sep (.pur (rv_ = .slice rA (tops r).length rc ∧ IsList (Mit bs a) (conts r) ∧ r.length ≤ 200000)) (.sep (Own 34 SlC rA rc (tops r)) (RowsA 2 I64 r))]) := by
  refine Does.enter Tryz.func87 rfl rfl [(0, .agg #[.int .i64 v, .slice A bs.length c]), (1, .int .i64 a)] rfl ?_
  have hfew := hS.few
  have hg : ∀ b ∈ bs, good 15 b := fun b h => (hS.good b h).mono hS.hi
  refine V.seq ?_
  refine V.region ?_
  refine O.e rfl rfl rfl (Ef.box rfl rfl rfl) ?_
  rintro _ _ ⟨b1, rfl, rfl⟩
  refine O.p rfl rfl rfl (Pu.assign rfl rfl) ?_
  refine O.nil ?_
  refine X.next ?_
  refine V.seq ?_
  refine V.region ?_
  refine O.e rfl rfl rfl (Ef.build SlC ([] : List Sl) rfl Tryz.underlying28 inf34 rfl rfl rfl (by first | decide | (simp; done)) (by kernel_rfl)) ?_
  rintro _ _ ⟨A1, hA1, rfl, rfl⟩
  refine O.p rfl rfl rfl (Pu.loadAgg rfl ag26 sz26 rfl rfl (Ld.whole 1 rfl)) ?_
  refine O.p rfl rfl rfl (Pu.move rfl rfl) ?_
  refine O.e rfl rfl rfl (Ef.call1 call183 rfl rfl (fun w hw => l01At_ok  v bs a _ _ w ((Ld.old hx) w hw) (by first | omega | (simp only [tops_len, conts_len, bl, List.length_append, List.length_cons, List.length_nil] at *; omega)) (by first | assumption | omega | (try dsimp only at *; omega)))) ?_
  rintro _ _ rfl
  refine O.exi (fun r1A => ?_)
  refine O.exi (fun r1c => ?_)
  refine O.exi (fun r1 => ?_)
  refine O.sep ?_
  refine O.pur ?_
  rintro ⟨rfl, hr1_1⟩
  have hlat : r1.length ≤ 35 := by rw [hr1_1]; exact Nat.le_trans atL_len (by omega)
  refine O.p rfl rfl rfl (Pu.assign rfl rfl) ?_
  refine O.p rfl rfl rfl (Pu.assign rfl rfl) ?_
  refine O.nil ?_
  refine X.next ?_
  refine V.seq ?_
  refine V.seq ?_
  refine V.region ?_
  refine O.p rfl rfl rfl (Pu.assign rfl rfl) ?_
  refine O.nil ?_
  refine X.next ?_
  refine V.block ?_
  refine V.map (fun w hw => RowsA.nil (T := 2) (C := I64) hw) ?_
  refine V.loop3 (β := (Option Addr) × Nat × (List (Sl × List Int)) × Nat) (fun x => [(5, .slice x.1 (tops x.2.2.1).length x.2.1), (7, .int .i64 (x.2.2.2 : Int))]) _ (fun x => [Own 34 SlC x.1 x.2.1 (tops x.2.2.1), RowsA 2 I64 x.2.2.1]) _ (fun x => x.2.2.2 ≤ r1.length ∧ SrtL (conts x.2.2.1) ∧ (∀ q, q ∈ conts x.2.2.1 ↔ q ∈ fmR (ms1 bs a r1) x.2.2.2) ∧ x.2.2.1.length ≤ x.2.2.2 * 4900) (fun x => r1.length - x.2.2.2) (A1, 0, [], 0) (by (try dsimp only); exact ⟨by omega, SrtL.nil, fun q => by simp [conts, fmR_zero], by simp⟩) (Ent.cons rfl (Ent.cons rfl (Ent.nil _))) (Ent.cons (t := 1) rfl (Ent.cons (t := 2) rfl (Ent.cons (t := 6) rfl (Ent.nil _)))) (Sub.keep 2 rfl (Sub.keep 0 rfl (Sub.keep 0 rfl (Sub.keep 0 rfl (Sub.nil _))))) ?_
  rintro ⟨outA, outc, out, i⟩ ⟨hi, hs0, hm0, b0⟩
  dsimp only at hi hs0 hm0 b0 ⊢
  refine V.fact (RowsA.len 1 rfl) (fun hn_out => ?_)
  have htl_out := tops_len out
  refine V.seq ?_
  refine V.seq ?_
  refine V.region ?_
  refine O.p rfl rfl rfl (Pu.move rfl rfl) ?_
  refine O.p rfl rfl rfl (Pu.move rfl rfl) ?_
  refine O.p rfl rfl rfl (Pu.len rfl Tryz.underlying34 rfl) ?_
  refine O.p rfl rfl rfl (Pu.lss rfl rfl rfl) ?_
  refine O.nil ?_
  refine X.next ?_
  refine V.condD rfl (fun c1 => ?_) (fun c1 => ?_)
  · skip
    refine V.skip ?_
    refine X.next ?_
    refine V.seq ?_
    refine V.block ?_
    refine V.seq ?_
    refine V.region ?_
    refine O.p rfl rfl rfl (Pu.assign rfl rfl) ?_
    refine O.nil ?_
    refine X.next ?_
    refine V.block ?_
    refine V.loop3 (β := (Option Addr) × Nat × (List (Sl × List Int)) × Nat) (fun x => [(5, .slice x.1 (tops x.2.2.1).length x.2.1), (8, .int .i64 (x.2.2.2 : Int))]) _ (fun x => [Own 34 SlC x.1 x.2.1 (tops x.2.2.1), RowsA 2 I64 x.2.2.1]) _ (fun x => x.2.2.2 ≤ i ∧ SrtL (conts x.2.2.1) ∧ (∀ q, q ∈ conts x.2.2.1 ↔ q ∈ conts out ∨ q ∈ fmR (ms2 bs a r1 i) x.2.2.2) ∧ x.2.2.1.length ≤ i * 4900 + x.2.2.2 * 140) (fun x => i - x.2.2.2) (outA, outc, out, 0) (by (try dsimp only); exact ⟨by omega, hs0, fun q => by simp [fmR_zero], by omega⟩) (Ent.cons rfl (Ent.cons rfl (Ent.nil _))) (Ent.cons (t := 1) rfl (Ent.cons (t := 2) rfl (Ent.cons (t := 6) rfl (Ent.cons (t := 7) rfl (Ent.nil _))))) (Sub.keep 0 rfl (Sub.keep 0 rfl (Sub.keep 0 rfl (Sub.keep 0 rfl (Sub.nil _))))) ?_
    rintro ⟨o1A, o1c, o1, j⟩ ⟨hj, hs1, hm1, b1⟩
    dsimp only at hj hs1 hm1 b1 ⊢
    refine V.fact (RowsA.len 1 rfl) (fun hn_o1 => ?_)
    have htl_o1 := tops_len o1
    refine V.seq ?_
    refine V.seq ?_
    refine V.region ?_
    refine O.p rfl rfl rfl (Pu.move rfl rfl) ?_
    refine O.p rfl rfl rfl (Pu.move rfl rfl) ?_
    refine O.p rfl rfl rfl (Pu.lss rfl rfl rfl) ?_
    refine O.nil ?_
    refine X.next ?_
    refine V.condD rfl (fun c2 => ?_) (fun c2 => ?_)
    · skip
      refine V.skip ?_
      refine X.next ?_
      refine V.seq ?_
      refine V.block ?_
      refine V.seq ?_
      refine V.region ?_
      refine O.p rfl rfl rfl (Pu.assign rfl rfl) ?_
      refine O.nil ?_
      refine X.next ?_
      refine V.block ?_
      refine V.loop3 (β := (Option Addr) × Nat × (List (Sl × List Int)) × Nat) (fun x => [(5, .slice x.1 (tops x.2.2.1).length x.2.1), (9, .int .i64 (x.2.2.2 : Int))]) _ (fun x => [Own 34 SlC x.1 x.2.1 (tops x.2.2.1), RowsA 2 I64 x.2.2.1]) _ (fun x => x.2.2.2 ≤ j ∧ SrtL (conts x.2.2.1) ∧ (∀ q, q ∈ conts x.2.2.1 ↔ q ∈ conts o1 ∨ q ∈ fmR (ms3 bs a r1 i j) x.2.2.2) ∧ x.2.2.1.length ≤ i * 4900 + j * 140 + x.2.2.2 * 4) (fun x => j - x.2.2.2) (o1A, o1c, o1, 0) (by (try dsimp only); exact ⟨by omega, hs1, fun q => by simp [fmR_zero], by omega⟩) (Ent.cons rfl (Ent.cons rfl (Ent.nil _))) (Ent.cons (t := 1) rfl (Ent.cons (t := 2) rfl (Ent.cons (t := 6) rfl (Ent.cons (t := 7) rfl (Ent.cons (t := 8) rfl (Ent.nil _)))))) (Sub.keep 0 rfl (Sub.keep 0 rfl (Sub.keep 0 rfl (Sub.keep 0 rfl (Sub.nil _))))) ?_
      rintro ⟨o2A, o2c, o2, k⟩ ⟨hk, hs2, hm2, b2⟩
      dsimp only at hk hs2 hm2 b2 ⊢
      refine V.fact (RowsA.len 1 rfl) (fun hn_o2 => ?_)
      have htl_o2 := tops_len o2
      refine V.seq ?_
      refine V.seq ?_
      refine V.region ?_
      refine O.p rfl rfl rfl (Pu.move rfl rfl) ?_
      refine O.p rfl rfl rfl (Pu.move rfl rfl) ?_
      refine O.p rfl rfl rfl (Pu.lss rfl rfl rfl) ?_
      refine O.nil ?_
      refine X.next ?_
      refine V.condD rfl (fun c3 => ?_) (fun c3 => ?_)
      · skip
        refine V.skip ?_
        refine X.next ?_
        refine V.seq ?_
        refine V.block ?_
        refine V.seq ?_
        have hxx := atL_get (bs := bs) (a := a) (i := i) (by rw [← hr1_1]; omega)
        obtain ⟨x1, hx1, ex1, gx1⟩ := hxx
        rw [← hr1_1, getD_at (by omega)] at ex1
        refine V.draw mo (by kernel_rfl) (fun hwf => ?_)
        refine D.p 0 rfl rfl rfl rfl rfl rfl (Pu.fieldAddr 1 rfl Tryz.underlying26 rfl sz24 rfl rfl) ?_
        refine D.p 1 rfl rfl rfl rfl rfl rfl (Pu.load rfl pl24 rfl (Ld.blk 3 rfl rfl)) ?_
        refine D.p 2 rfl rfl rfl rfl rfl rfl (Pu.move rfl rfl) ?_
        refine D.p 3 rfl rfl rfl rfl rfl rfl (Pu.move rfl rfl) ?_
        refine D.p 4 rfl rfl rfl rfl rfl rfl (Pu.indexAddrS (i) rfl Tryz.underlying34 sz2 rfl rfl (by omega) (by omega) (fun w hw => Own.some hw (i := 2) (by exact rfl) (by omega))) ?_
        have e1 : i < r1.length := by omega
        refine D.p 5 rfl rfl rfl rfl rfl rfl (Pu.load rfl pl2 rfl (Ld.rd (Ld.own 2 (by exact rfl)) (k := i) e1 rfl rfl)) ?_
        refine D.p 6 rfl rfl rfl rfl rfl rfl (Pu.indexAddr (((r1[i]'e1)).toNat) rfl Tryz.underlying24 sz51 rfl rfl (by omega) (by omega) (hx.some (by omega))) ?_
        have e2 : ((r1[i]'e1)).toNat < bs.length := by omega
        refine D.p 7 rfl rfl rfl rfl rfl rfl (Pu.loadAgg' (v := B3.v (bs[((r1[i]'e1)).toNat]'e2)) rfl rfl ag51 sz51 rfl rfl (Ld.rds (Ld.old hx) (k := ((r1[i]'e1)).toNat) e2 rfl)) ?_
        refine D.p 8 rfl rfl rfl rfl rfl rfl (Pu.move rfl rfl) ?_
        refine D.eff hwf (e := 9) rfl rfl rfl rfl (Ef.callP call169 rfl rfl (fun w hw => l03Others_ok  (bs[((r1[i]'e1)).toNat]'e2) a w   )) rfl rfl rfl ?_
        rintro _ _ ⟨rfl, rfl⟩ hs
        refine ⟨fun w hw => hw, ?_⟩
        have g1 : has (bs[((r1[i]'e1)).toNat]'e2) a := by simpa only [ex1, Int.toNat_natCast] using gx1
        have tr1 := tri_oth (hS.good _ (List.getElem_mem e2)) g1
        have pt1 := good_lt (hg _ (List.getElem_mem e2)) tr1.h2
        have pu1 := good_lt (hg _ (List.getElem_mem e2)) tr1.h3
        have hb1 : blk bs (r1.getD i 0) = bs[((r1[i]'e1)).toNat]'e2 := by rw [getD_at e1]; exact blk_at e2
        refine D.p 10 rfl rfl rfl rfl rfl rfl (Pu.move rfl rfl) ?_
        refine D.p 11 rfl rfl rfl rfl rfl rfl (Pu.extract rfl rfl rfl) ?_
        refine D.p 12 rfl rfl rfl rfl rfl rfl (Pu.extract rfl rfl rfl) ?_
        refine D.p 13 rfl rfl rfl rfl rfl rfl (Pu.assign rfl rfl) ?_
        refine D.p 14 rfl rfl rfl rfl rfl rfl (Pu.assign rfl rfl) ?_
        refine D.done hwf rfl ?_
        refine X.next ?_
        refine V.seq ?_
        refine V.region ?_
        refine O.p rfl rfl rfl (Pu.assign rfl rfl) ?_
        refine O.nil ?_
        refine X.next ?_
        refine V.block ?_
        refine V.loop3 (β := (Option Addr) × Nat × (List (Sl × List Int)) × Nat) (fun x => [(5, .slice x.1 (tops x.2.2.1).length x.2.1), (12, .int .i64 (x.2.2.2 : Int))]) _ (fun x => [Own 34 SlC x.1 x.2.1 (tops x.2.2.1), RowsA 2 I64 x.2.2.1]) _ (fun x => x.2.2.2 ≤ 4 ∧ SrtL (conts x.2.2.1) ∧ (∀ q, q ∈ conts x.2.2.1 ↔ q ∈ conts o2 ∨ q ∈ fmR (s3 bs a (r1.getD i 0) (r1.getD j 0) (r1.getD k 0)) x.2.2.2) ∧ x.2.2.1.length ≤ i * 4900 + j * 140 + k * 4 + x.2.2.2) (fun x => 4 - x.2.2.2) (o2A, o2c, o2, 0) (by (try dsimp only); exact ⟨by omega, hs2, fun q => by simp [fmR_zero], by omega⟩) (Ent.cons rfl (Ent.cons rfl (Ent.nil _))) (Ent.cons (t := 1) rfl (Ent.cons (t := 2) rfl (Ent.cons (t := 6) rfl (Ent.cons (t := 7) rfl (Ent.cons (t := 8) rfl (Ent.cons (t := 9) rfl (Ent.cons (t := 10) rfl (Ent.cons (t := 11) rfl (Ent.nil _))))))))) (Sub.keep 0 rfl (Sub.keep 0 rfl (Sub.keep 0 rfl (Sub.keep 0 rfl (Sub.nil _))))) ?_
        rintro ⟨o3A, o3c, o3, turn⟩ ⟨ht, hs3, hm3, b3⟩
        dsimp only at ht hs3 hm3 b3 ⊢
        refine V.fact (RowsA.len 1 rfl) (fun hn_o3 => ?_)
        have htl_o3 := tops_len o3
        refine V.seq ?_
        refine V.seq ?_
        refine V.region ?_
        refine O.p rfl rfl rfl (Pu.move rfl rfl) ?_
        refine O.p rfl rfl rfl (Pu.lss rfl rfl rfl) ?_
        refine O.nil ?_
        refine X.next ?_
        refine V.condD rfl (fun c4 => ?_) (fun c4 => ?_)
        · skip
          refine V.skip ?_
          refine X.next ?_
          refine V.seq ?_
          refine V.block ?_
          refine V.seq ?_
          have hyy := atL_get (bs := bs) (a := a) (i := j) (by rw [← hr1_1]; omega)
          obtain ⟨x2, hx2, ex2, gx2⟩ := hyy
          rw [← hr1_1, getD_at (by omega)] at ex2
          refine V.draw mo (by kernel_rfl) (fun hwf => ?_)
          refine D.p 0 rfl rfl rfl rfl rfl rfl (Pu.fieldAddr 1 rfl Tryz.underlying26 rfl sz24 rfl rfl) ?_
          refine D.p 1 rfl rfl rfl rfl rfl rfl (Pu.load rfl pl24 rfl (Ld.blk 3 rfl rfl)) ?_
          refine D.p 2 rfl rfl rfl rfl rfl rfl (Pu.move rfl rfl) ?_
          refine D.p 3 rfl rfl rfl rfl rfl rfl (Pu.move rfl rfl) ?_
          refine D.p 4 rfl rfl rfl rfl rfl rfl (Pu.indexAddrS (j) rfl Tryz.underlying34 sz2 rfl rfl (by omega) (by omega) (fun w hw => Own.some hw (i := 2) (by exact rfl) (by omega))) ?_
          have e3 : j < r1.length := by omega
          refine D.p 5 rfl rfl rfl rfl rfl rfl (Pu.load rfl pl2 rfl (Ld.rd (Ld.own 2 (by exact rfl)) (k := j) e3 rfl rfl)) ?_
          refine D.p 6 rfl rfl rfl rfl rfl rfl (Pu.indexAddr (((r1[j]'e3)).toNat) rfl Tryz.underlying24 sz51 rfl rfl (by omega) (by omega) (hx.some (by omega))) ?_
          have e4 : ((r1[j]'e3)).toNat < bs.length := by omega
          refine D.p 7 rfl rfl rfl rfl rfl rfl (Pu.loadAgg' (v := B3.v (bs[((r1[j]'e3)).toNat]'e4)) rfl rfl ag51 sz51 rfl rfl (Ld.rds (Ld.old hx) (k := ((r1[j]'e3)).toNat) e4 rfl)) ?_
          refine D.p 8 rfl rfl rfl rfl rfl rfl (Pu.move rfl rfl) ?_
          refine D.eff hwf (e := 9) rfl rfl rfl rfl (Ef.callP call169 rfl rfl (fun w hw => l03Others_ok  (bs[((r1[j]'e3)).toNat]'e4) a w   )) rfl rfl rfl ?_
          rintro _ _ ⟨rfl, rfl⟩ hs
          refine ⟨fun w hw => hw, ?_⟩
          have g2 : has (bs[((r1[j]'e3)).toNat]'e4) a := by simpa only [ex2, Int.toNat_natCast] using gx2
          have tr2 := tri_oth (hS.good _ (List.getElem_mem e4)) g2
          have pt2 := good_lt (hg _ (List.getElem_mem e4)) tr2.h2
          have pu2 := good_lt (hg _ (List.getElem_mem e4)) tr2.h3
          have hb2 : blk bs (r1.getD j 0) = bs[((r1[j]'e3)).toNat]'e4 := by rw [getD_at e3]; exact blk_at e4
          refine D.p 10 rfl rfl rfl rfl rfl rfl (Pu.move rfl rfl) ?_
          refine D.p 11 rfl rfl rfl rfl rfl rfl (Pu.extract rfl rfl rfl) ?_
          refine D.p 12 rfl rfl rfl rfl rfl rfl (Pu.extract rfl rfl rfl) ?_
          refine D.p 13 rfl rfl rfl rfl rfl rfl (Pu.assign rfl rfl) ?_
          refine D.p 14 rfl rfl rfl rfl rfl rfl (Pu.assign rfl rfl) ?_
          refine D.done hwf rfl ?_
          refine X.next ?_
          refine V.seq ?_
          have hzz := atL_get (bs := bs) (a := a) (i := k) (by rw [← hr1_1]; omega)
          obtain ⟨x3, hx3, ex3, gx3⟩ := hzz
          rw [← hr1_1, getD_at (by omega)] at ex3
          refine V.draw mo (by kernel_rfl) (fun hwf => ?_)
          refine D.p 0 rfl rfl rfl rfl rfl rfl (Pu.fieldAddr 1 rfl Tryz.underlying26 rfl sz24 rfl rfl) ?_
          refine D.p 1 rfl rfl rfl rfl rfl rfl (Pu.load rfl pl24 rfl (Ld.blk 3 rfl rfl)) ?_
          refine D.p 2 rfl rfl rfl rfl rfl rfl (Pu.move rfl rfl) ?_
          refine D.p 3 rfl rfl rfl rfl rfl rfl (Pu.move rfl rfl) ?_
          refine D.p 4 rfl rfl rfl rfl rfl rfl (Pu.indexAddrS (k) rfl Tryz.underlying34 sz2 rfl rfl (by omega) (by omega) (fun w hw => Own.some hw (i := 2) (by exact rfl) (by omega))) ?_
          have e5 : k < r1.length := by omega
          refine D.p 5 rfl rfl rfl rfl rfl rfl (Pu.load rfl pl2 rfl (Ld.rd (Ld.own 2 (by exact rfl)) (k := k) e5 rfl rfl)) ?_
          refine D.p 6 rfl rfl rfl rfl rfl rfl (Pu.indexAddr (((r1[k]'e5)).toNat) rfl Tryz.underlying24 sz51 rfl rfl (by omega) (by omega) (hx.some (by omega))) ?_
          have e6 : ((r1[k]'e5)).toNat < bs.length := by omega
          refine D.p 7 rfl rfl rfl rfl rfl rfl (Pu.loadAgg' (v := B3.v (bs[((r1[k]'e5)).toNat]'e6)) rfl rfl ag51 sz51 rfl rfl (Ld.rds (Ld.old hx) (k := ((r1[k]'e5)).toNat) e6 rfl)) ?_
          refine D.p 8 rfl rfl rfl rfl rfl rfl (Pu.move rfl rfl) ?_
          refine D.eff hwf (e := 9) rfl rfl rfl rfl (Ef.callP call169 rfl rfl (fun w hw => l03Others_ok  (bs[((r1[k]'e5)).toNat]'e6) a w   )) rfl rfl rfl ?_
          rintro _ _ ⟨rfl, rfl⟩ hs
          refine ⟨fun w hw => hw, ?_⟩
          have g3 : has (bs[((r1[k]'e5)).toNat]'e6) a := by simpa only [ex3, Int.toNat_natCast] using gx3
          have tr3 := tri_oth (hS.good _ (List.getElem_mem e6)) g3
          have pt3 := good_lt (hg _ (List.getElem_mem e6)) tr3.h2
          have pu3 := good_lt (hg _ (List.getElem_mem e6)) tr3.h3
          have hb3 : blk bs (r1.getD k 0) = bs[((r1[k]'e5)).toNat]'e6 := by rw [getD_at e5]; exact blk_at e6
          refine D.p 10 rfl rfl rfl rfl rfl rfl (Pu.move rfl rfl) ?_
          refine D.p 11 rfl rfl rfl rfl rfl rfl (Pu.extract rfl rfl rfl) ?_
          refine D.p 12 rfl rfl rfl rfl rfl rfl (Pu.extract rfl rfl rfl) ?_
          refine D.p 13 rfl rfl rfl rfl rfl rfl (Pu.assign rfl rfl) ?_
          refine D.p 14 rfl rfl rfl rfl rfl rfl (Pu.assign rfl rfl) ?_
          refine D.done hwf rfl ?_
          refine X.next ?_
          refine V.seq ?_
          refine V.seq ?_
          refine V.region ?_
          refine O.p rfl rfl rfl (Pu.move rfl rfl) ?_
          refine O.p rfl rfl rfl (Pu.rem64 (by omega) (by omega) rfl rfl rfl) ?_
          refine O.p rfl rfl rfl (Pu.eql rfl rfl rfl) ?_
          refine O.nil ?_
          refine X.next ?_
          refine V.condD rfl (fun c5 => ?_) (fun c5 => ?_)
          · skip
            refine V.region ?_
            refine O.p rfl rfl rfl (Pu.move rfl rfl) ?_
            refine O.p rfl rfl rfl (Pu.move rfl rfl) ?_
            refine O.p rfl rfl rfl (Pu.assign rfl rfl) ?_
            refine O.p rfl rfl rfl (Pu.assign rfl rfl) ?_
            refine O.nil ?_
            refine X.next ?_
            refine V.seq ?_
            refine V.seq ?_
            refine V.region ?_
            refine O.p rfl rfl rfl (Pu.move rfl rfl) ?_
            refine O.p rfl rfl rfl (Pu.quo64 (by omega) (by omega) (by omega) rfl rfl rfl) ?_
            refine O.p rfl rfl rfl (Pu.eql rfl rfl rfl) ?_
            refine O.nil ?_
            refine X.next ?_
            refine V.condD rfl (fun c6 => ?_) (fun c6 => ?_)
            · skip
              refine V.region ?_
              refine O.p rfl rfl rfl (Pu.move rfl rfl) ?_
              refine O.p rfl rfl rfl (Pu.move rfl rfl) ?_
              refine O.p rfl rfl rfl (Pu.assign rfl rfl) ?_
              refine O.p rfl rfl rfl (Pu.assign rfl rfl) ?_
              refine O.nil ?_
              refine X.next ?_
              refine V.seq ?_
              refine V.region ?_
              refine O.p rfl rfl rfl (Pu.loadAgg rfl ag26 sz26 rfl rfl (Ld.whole 3 rfl)) ?_
              refine O.p rfl rfl rfl (Pu.move rfl rfl) ?_
              refine O.p rfl rfl rfl (Pu.move rfl rfl) ?_
              refine O.e rfl rfl rfl (Ef.callP call170 rfl rfl (fun w hw => l01Third_ok  v bs (oth1 (bs[((r1[i]'e1)).toNat]'e2) a) (oth2 (bs[((r1[j]'e3)).toNat]'e4) a) _ _ w ((Ld.old hx) w hw) (by first | omega | (simp only [tops_len, conts_len, bl, List.length_append, List.length_cons, List.length_nil] at *; omega)) hg (by omega) (by omega))) ?_
              rintro _ _ ⟨rfl, rfl⟩
              refine O.p rfl rfl rfl (Pu.move rfl rfl) ?_
              refine O.p rfl rfl rfl (Pu.eql rfl rfl rfl) ?_
              refine O.p rfl rfl rfl (Pu.move rfl rfl) ?_
              refine O.splitD 96 rfl (fun c7 => ?_) (fun c7 => ?_)
              · skip
                refine O.gp rfl rfl rfl rfl rfl (Pu.loadAgg rfl ag26 sz26 rfl rfl (Ld.whole 3 rfl)) ?_
                refine O.gp rfl rfl rfl rfl rfl (Pu.move rfl rfl) ?_
                refine O.gp rfl rfl rfl rfl rfl (Pu.move rfl rfl) ?_
                refine O.ge rfl rfl rfl rfl rfl (Ef.callP call170 rfl rfl (fun w hw => l01Third_ok  v bs (oth2 (bs[((r1[i]'e1)).toNat]'e2) a) (oth1 (bs[((r1[j]'e3)).toNat]'e4) a) _ _ w ((Ld.old hx) w hw) (by first | omega | (simp only [tops_len, conts_len, bl, List.length_append, List.length_cons, List.length_nil] at *; omega)) hg (by omega) (by omega))) ?_
                rintro _ _ ⟨rfl, rfl⟩
                refine O.gp rfl rfl rfl rfl rfl (Pu.move rfl rfl) ?_
                refine O.gp rfl rfl rfl rfl rfl (Pu.eql rfl rfl rfl) ?_
                refine O.p rfl rfl rfl (Pu.pickT rfl rfl rfl) ?_
                refine O.nil ?_
                refine X.next ?_
                refine V.condD rfl (fun c8 => ?_) (fun c8 => ?_)
                · skip
                  refine V.drawS mo (by kernel_rfl) (Sub.keep 2 rfl (Sub.keep 2 rfl (Sub.nil _))) (fun hwf => ?_)
                  refine D.p 0 rfl rfl rfl rfl rfl rfl (Pu.move rfl rfl) ?_
                  refine D.p 1 rfl rfl rfl rfl rfl rfl (Pu.move rfl rfl) ?_
                  refine D.p 2 rfl rfl rfl rfl rfl rfl (Pu.move rfl rfl) ?_
                  refine D.p 3 rfl rfl rfl rfl rfl rfl (Pu.indexAddrS (i) rfl Tryz.underlying34 sz2 rfl rfl (by omega) (by omega) (fun w hw => Own.some hw (i := 0) (by exact rfl) (by omega))) ?_
                  refine D.p 4 rfl rfl rfl rfl rfl rfl (Pu.load rfl pl2 rfl (Ld.rd (Ld.own 0 (by exact rfl)) (k := i) e1 rfl rfl)) ?_
                  refine D.p 5 rfl rfl rfl rfl rfl rfl (Pu.move rfl rfl) ?_
                  refine D.p 6 rfl rfl rfl rfl rfl rfl (Pu.move rfl rfl) ?_
                  refine D.p 7 rfl rfl rfl rfl rfl rfl (Pu.indexAddrS (j) rfl Tryz.underlying34 sz2 rfl rfl (by omega) (by omega) (fun w hw => Own.some hw (i := 0) (by exact rfl) (by omega))) ?_
                  refine D.p 8 rfl rfl rfl rfl rfl rfl (Pu.load rfl pl2 rfl (Ld.rd (Ld.own 0 (by exact rfl)) (k := j) e3 rfl rfl)) ?_
                  refine D.p 9 rfl rfl rfl rfl rfl rfl (Pu.move rfl rfl) ?_
                  refine D.p 10 rfl rfl rfl rfl rfl rfl (Pu.move rfl rfl) ?_
                  refine D.p 11 rfl rfl rfl rfl rfl rfl (Pu.indexAddrS (k) rfl Tryz.underlying34 sz2 rfl rfl (by omega) (by omega) (fun w hw => Own.some hw (i := 0) (by exact rfl) (by omega))) ?_
                  refine D.p 12 rfl rfl rfl rfl rfl rfl (Pu.load rfl pl2 rfl (Ld.rd (Ld.own 0 (by exact rfl)) (k := k) e5 rfl rfl)) ?_
                  refine D.p 13 rfl rfl rfl rfl rfl rfl (Pu.loadAgg rfl ag26 sz26 rfl rfl (Ld.whole 1 rfl)) ?_
                  refine D.p 14 rfl rfl rfl rfl rfl rfl (Pu.move rfl rfl) ?_
                  refine D.p 15 rfl rfl rfl rfl rfl rfl (Pu.move rfl rfl) ?_
                  refine D.p 17 rfl rfl rfl rfl rfl rfl (Pu.loadAgg rfl ag26 sz26 rfl rfl (Ld.whole 1 rfl)) ?_
                  refine D.p 18 rfl rfl rfl rfl rfl rfl (Pu.move rfl rfl) ?_
                  refine D.p 19 rfl rfl rfl rfl rfl rfl (Pu.move rfl rfl) ?_
                  refine D.eff hwf (e := 16) rfl rfl rfl rfl (Ef.callP call172 rfl rfl (fun w hw => l03Number_ok  v bs (oth1 (bs[((r1[i]'e1)).toNat]'e2) a) (oth2 (bs[((r1[j]'e3)).toNat]'e4) a) _ _ w ((Ld.old hx) w hw) (by first | omega | (simp only [tops_len, conts_len, bl, List.length_append, List.length_cons, List.length_nil] at *; omega)) )) rfl rfl rfl ?_
                  rintro _ _ ⟨rfl, rfl⟩ hs
                  refine ⟨fun w hw => hw.sub (Sub.keep 2 rfl (Sub.keep 2 rfl (Sub.nil _))), ?_⟩
                  refine D.eff hwf (e := 20) rfl rfl rfl rfl (Ef.callP call172 rfl rfl (fun w hw => l03Number_ok  v bs (oth2 (bs[((r1[i]'e1)).toNat]'e2) a) (oth1 (bs[((r1[j]'e3)).toNat]'e4) a) _ _ w ((Ld.old hx) w hw) (by first | omega | (simp only [tops_len, conts_len, bl, List.length_append, List.length_cons, List.length_nil] at *; omega)) )) rfl rfl rfl ?_
                  rintro _ _ ⟨rfl, rfl⟩ hs
                  refine ⟨fun w hw => hw.sub (Sub.keep 2 rfl (Sub.keep 2 rfl (Sub.nil _))), ?_⟩
                  refine D.eff hwf (e := 21) rfl rfl rfl rfl (Ef.build I64 ([(r1[i]'e1), (r1[j]'e3), (r1[k]'e5), (num bs (oth1 (bs[((r1[i]'e1)).toNat]'e2) a) (oth2 (bs[((r1[j]'e3)).toNat]'e4) a)), (num bs (oth2 (bs[((r1[i]'e1)).toNat]'e2) a) (oth1 (bs[((r1[j]'e3)).toNat]'e4) a))] : List Int) rfl Tryz.underlying34 inf2 rfl rfl rfl (by first | decide | (simp; done)) (by kernel_rfl)) rfl rfl rfl ?_
                  rintro _ _ ⟨A2, hA2, rfl, rfl⟩ hs
                  refine ⟨fun w hw => hw.sub (Sub.keep 3 rfl (Sub.keep 3 rfl (Sub.nil _))), ?_⟩
                  refine D.eff hwf (e := 22) rfl rfl rfl rfl (Ef.call1 call91 rfl rfl (fun w hw => l03Ascending_ok ([(r1[i]'e1), (r1[j]'e3), (r1[k]'e5), (num bs (oth1 (bs[((r1[i]'e1)).toNat]'e2) a) (oth2 (bs[((r1[j]'e3)).toNat]'e4) a)), (num bs (oth2 (bs[((r1[i]'e1)).toNat]'e2) a) (oth1 (bs[((r1[j]'e3)).toNat]'e4) a))] : List Int) _ _ w ((Ld.own 0 (by exact rfl)) w hw) (by first | omega | (simp only [List.length_cons, List.length_nil]; omega)))) rfl rfl rfl ?_
                  rintro _ _ rfl hs
                  refine ⟨fun w hw => hs w hw.tail, ?_⟩
                  refine D.exi (fun p1 => ?_)
                  refine D.sep ?_
                  refine D.pur1 ?_
                  rintro ⟨rfl, hp1⟩
                  refine D.eff hwf (e := 23) rfl rfl rfl rfl (Ef.call call171 rfl rfl (Does.pre (fun w hw => hw.sub (Sub.keep 2 rfl (Sub.keep 2 rfl (Sub.keep 0 rfl (Sub.keep 0 rfl (Sub.keep 0 rfl (Sub.keep 0 rfl (Sub.nil _)))))))) (l03Put_ok o3 _ _ _ _ _ _ _ hs3 (by omega)))) rfl rfl rfl ?_
                  rintro _ _ rfl hs
                  refine ⟨fun w hw => hw.tail.sub (Sub.keep 1 rfl (Sub.keep 1 rfl (Sub.nil _))), ?_⟩
                  refine D.exi (fun p2 => ?_)
                  refine D.sep ?_
                  refine D.pur1 ?_
                  rintro ⟨rfl, hp2_1, hp2_2, hp2_3⟩
                  refine D.sep ?_
                  refine D.last hwf (e := 24) rfl rfl rfl rfl rfl rfl (Pu.assign rfl rfl) ?_
                  refine X.blockNormal ?_
                  refine X.next ?_
                  refine V.region ?_
                  refine O.p rfl rfl rfl (Pu.move rfl rfl) ?_
                  refine O.p rfl rfl rfl (Pu.add64 (r := ((turn + 1 : Nat) : Int)) rfl (by omega) rfl rfl rfl) ?_
                  refine O.p rfl rfl rfl (Pu.assign rfl rfl) ?_
                  refine O.nil ?_
                  exact X.back3 (p2.1.1, p2.1.2, p2.2, turn + 1) (by (try dsimp only); exact ⟨by omega, hp2_1, fun q => by rw [hp2_2 q, hm3 q]; exact (put_turn hb1 hb2 hb3 (by split <;> first | rfl | omega) (by split <;> first | rfl | omega) (by split <;> first | rfl | omega) (by split <;> first | rfl | omega) c7 c8 (by rw [getD_at e1, getD_at e3, getD_at e5]; exact hp1.1) hp1.2).symm, by omega⟩) (by first | omega | (dsimp only; omega)) (Ent.cons' rfl (by first | rfl | (simp only [tops_append]; done) | (simp only [tops_append]; rfl)) (Ent.cons rfl (Ent.nil _))) (Ent.cons (t := 1) rfl (Ent.cons (t := 2) rfl (Ent.cons (t := 6) rfl (Ent.cons (t := 7) rfl (Ent.cons (t := 8) rfl (Ent.cons (t := 9) rfl (Ent.cons (t := 10) rfl (Ent.cons (t := 11) rfl (Ent.nil _))))))))) (Sub.keep 0 rfl (Sub.keep 0 rfl (Sub.keep 1 rfl (Sub.keep 1 rfl (Sub.nil _)))))
                · skip
                  refine V.skip ?_
                  refine X.blockNormal ?_
                  refine X.next ?_
                  refine V.region ?_
                  refine O.p rfl rfl rfl (Pu.move rfl rfl) ?_
                  refine O.p rfl rfl rfl (Pu.add64 (r := ((turn + 1 : Nat) : Int)) rfl (by omega) rfl rfl rfl) ?_
                  refine O.p rfl rfl rfl (Pu.assign rfl rfl) ?_
                  refine O.nil ?_
                  exact X.back3 (o3A, o3c, o3, turn + 1) (by (try dsimp only); exact ⟨by omega, hs3, fun q => by rw [hm3 q]; exact (no_turn hb1 hb2 hb3 rfl (by split <;> first | rfl | omega) rfl (by split <;> first | rfl | omega) (fun h => c8 h.2)).symm, by omega⟩) (by first | omega | (dsimp only; omega)) (Ent.cons' rfl (by first | rfl | (simp only [tops_append]; done) | (simp only [tops_append]; rfl)) (Ent.cons rfl (Ent.nil _))) (Ent.cons (t := 1) rfl (Ent.cons (t := 2) rfl (Ent.cons (t := 6) rfl (Ent.cons (t := 7) rfl (Ent.cons (t := 8) rfl (Ent.cons (t := 9) rfl (Ent.cons (t := 10) rfl (Ent.cons (t := 11) rfl (Ent.nil _))))))))) (Sub.keep 0 rfl (Sub.keep 0 rfl (Sub.keep 0 rfl (Sub.keep 0 rfl (Sub.nil _)))))
              · skip
                refine O.gs rfl rfl rfl rfl rfl rfl ?_
                refine O.gs rfl rfl rfl rfl rfl rfl ?_
                refine O.gs rfl rfl rfl rfl rfl rfl ?_
                refine O.gs rfl rfl rfl rfl rfl rfl ?_
                refine O.gs rfl rfl rfl rfl rfl rfl ?_
                refine O.gs rfl rfl rfl rfl rfl rfl ?_
                refine O.p rfl rfl rfl (Pu.pickF rfl rfl rfl) ?_
                refine O.nil ?_
                refine X.next ?_
                refine V.condF rfl ?_
                refine V.skip ?_
                refine X.blockNormal ?_
                refine X.next ?_
                refine V.region ?_
                refine O.p rfl rfl rfl (Pu.move rfl rfl) ?_
                refine O.p rfl rfl rfl (Pu.add64 (r := ((turn + 1 : Nat) : Int)) rfl (by omega) rfl rfl rfl) ?_
                refine O.p rfl rfl rfl (Pu.assign rfl rfl) ?_
                refine O.nil ?_
                exact X.back3 (o3A, o3c, o3, turn + 1) (by (try dsimp only); exact ⟨by omega, hs3, fun q => by rw [hm3 q]; exact (no_turn hb1 hb2 hb3 (by split <;> first | rfl | omega) rfl (by split <;> first | rfl | omega) rfl (fun h => c7 h.1)).symm, by omega⟩) (by first | omega | (dsimp only; omega)) (Ent.cons' rfl (by first | rfl | (simp only [tops_append]; done) | (simp only [tops_append]; rfl)) (Ent.cons rfl (Ent.nil _))) (Ent.cons (t := 1) rfl (Ent.cons (t := 2) rfl (Ent.cons (t := 6) rfl (Ent.cons (t := 7) rfl (Ent.cons (t := 8) rfl (Ent.cons (t := 9) rfl (Ent.cons (t := 10) rfl (Ent.cons (t := 11) rfl (Ent.nil _))))))))) (Sub.keep 0 rfl (Sub.keep 0 rfl (Sub.keep 0 rfl (Sub.keep 0 rfl (Sub.nil _)))))
            · skip
              refine V.skip ?_
              refine X.next ?_
              refine V.seq ?_
              refine V.region ?_
              refine O.p rfl rfl rfl (Pu.loadAgg rfl ag26 sz26 rfl rfl (Ld.whole 3 rfl)) ?_
              refine O.p rfl rfl rfl (Pu.move rfl rfl) ?_
              refine O.p rfl rfl rfl (Pu.move rfl rfl) ?_
              refine O.e rfl rfl rfl (Ef.callP call170 rfl rfl (fun w hw => l01Third_ok  v bs (oth1 (bs[((r1[i]'e1)).toNat]'e2) a) (oth2 (bs[((r1[j]'e3)).toNat]'e4) a) _ _ w ((Ld.old hx) w hw) (by first | omega | (simp only [tops_len, conts_len, bl, List.length_append, List.length_cons, List.length_nil] at *; omega)) hg (by omega) (by omega))) ?_
              rintro _ _ ⟨rfl, rfl⟩
              refine O.p rfl rfl rfl (Pu.move rfl rfl) ?_
              refine O.p rfl rfl rfl (Pu.eql rfl rfl rfl) ?_
              refine O.p rfl rfl rfl (Pu.move rfl rfl) ?_
              refine O.splitD 96 rfl (fun c9 => ?_) (fun c9 => ?_)
              · skip
                refine O.gp rfl rfl rfl rfl rfl (Pu.loadAgg rfl ag26 sz26 rfl rfl (Ld.whole 3 rfl)) ?_
                refine O.gp rfl rfl rfl rfl rfl (Pu.move rfl rfl) ?_
                refine O.gp rfl rfl rfl rfl rfl (Pu.move rfl rfl) ?_
                refine O.ge rfl rfl rfl rfl rfl (Ef.callP call170 rfl rfl (fun w hw => l01Third_ok  v bs (oth2 (bs[((r1[i]'e1)).toNat]'e2) a) (oth1 (bs[((r1[j]'e3)).toNat]'e4) a) _ _ w ((Ld.old hx) w hw) (by first | omega | (simp only [tops_len, conts_len, bl, List.length_append, List.length_cons, List.length_nil] at *; omega)) hg (by omega) (by omega))) ?_
                rintro _ _ ⟨rfl, rfl⟩
                refine O.gp rfl rfl rfl rfl rfl (Pu.move rfl rfl) ?_
                refine O.gp rfl rfl rfl rfl rfl (Pu.eql rfl rfl rfl) ?_
                refine O.p rfl rfl rfl (Pu.pickT rfl rfl rfl) ?_
                refine O.nil ?_
                refine X.next ?_
                refine V.condD rfl (fun c10 => ?_) (fun c10 => ?_)
                · skip
                  refine V.drawS mo (by kernel_rfl) (Sub.keep 2 rfl (Sub.keep 2 rfl (Sub.nil _))) (fun hwf => ?_)
                  refine D.p 0 rfl rfl rfl rfl rfl rfl (Pu.move rfl rfl) ?_
                  refine D.p 1 rfl rfl rfl rfl rfl rfl (Pu.move rfl rfl) ?_
                  refine D.p 2 rfl rfl rfl rfl rfl rfl (Pu.move rfl rfl) ?_
                  refine D.p 3 rfl rfl rfl rfl rfl rfl (Pu.indexAddrS (i) rfl Tryz.underlying34 sz2 rfl rfl (by omega) (by omega) (fun w hw => Own.some hw (i := 0) (by exact rfl) (by omega))) ?_
                  refine D.p 4 rfl rfl rfl rfl rfl rfl (Pu.load rfl pl2 rfl (Ld.rd (Ld.own 0 (by exact rfl)) (k := i) e1 rfl rfl)) ?_
                  refine D.p 5 rfl rfl rfl rfl rfl rfl (Pu.move rfl rfl) ?_
                  refine D.p 6 rfl rfl rfl rfl rfl rfl (Pu.move rfl rfl) ?_
                  refine D.p 7 rfl rfl rfl rfl rfl rfl (Pu.indexAddrS (j) rfl Tryz.underlying34 sz2 rfl rfl (by omega) (by omega) (fun w hw => Own.some hw (i := 0) (by exact rfl) (by omega))) ?_
                  refine D.p 8 rfl rfl rfl rfl rfl rfl (Pu.load rfl pl2 rfl (Ld.rd (Ld.own 0 (by exact rfl)) (k := j) e3 rfl rfl)) ?_
                  refine D.p 9 rfl rfl rfl rfl rfl rfl (Pu.move rfl rfl) ?_
                  refine D.p 10 rfl rfl rfl rfl rfl rfl (Pu.move rfl rfl) ?_
                  refine D.p 11 rfl rfl rfl rfl rfl rfl (Pu.indexAddrS (k) rfl Tryz.underlying34 sz2 rfl rfl (by omega) (by omega) (fun w hw => Own.some hw (i := 0) (by exact rfl) (by omega))) ?_
                  refine D.p 12 rfl rfl rfl rfl rfl rfl (Pu.load rfl pl2 rfl (Ld.rd (Ld.own 0 (by exact rfl)) (k := k) e5 rfl rfl)) ?_
                  refine D.p 13 rfl rfl rfl rfl rfl rfl (Pu.loadAgg rfl ag26 sz26 rfl rfl (Ld.whole 1 rfl)) ?_
                  refine D.p 14 rfl rfl rfl rfl rfl rfl (Pu.move rfl rfl) ?_
                  refine D.p 15 rfl rfl rfl rfl rfl rfl (Pu.move rfl rfl) ?_
                  refine D.p 17 rfl rfl rfl rfl rfl rfl (Pu.loadAgg rfl ag26 sz26 rfl rfl (Ld.whole 1 rfl)) ?_
                  refine D.p 18 rfl rfl rfl rfl rfl rfl (Pu.move rfl rfl) ?_
                  refine D.p 19 rfl rfl rfl rfl rfl rfl (Pu.move rfl rfl) ?_
                  refine D.eff hwf (e := 16) rfl rfl rfl rfl (Ef.callP call172 rfl rfl (fun w hw => l03Number_ok  v bs (oth1 (bs[((r1[i]'e1)).toNat]'e2) a) (oth2 (bs[((r1[j]'e3)).toNat]'e4) a) _ _ w ((Ld.old hx) w hw) (by first | omega | (simp only [tops_len, conts_len, bl, List.length_append, List.length_cons, List.length_nil] at *; omega)) )) rfl rfl rfl ?_
                  rintro _ _ ⟨rfl, rfl⟩ hs
                  refine ⟨fun w hw => hw.sub (Sub.keep 2 rfl (Sub.keep 2 rfl (Sub.nil _))), ?_⟩
                  refine D.eff hwf (e := 20) rfl rfl rfl rfl (Ef.callP call172 rfl rfl (fun w hw => l03Number_ok  v bs (oth2 (bs[((r1[i]'e1)).toNat]'e2) a) (oth1 (bs[((r1[j]'e3)).toNat]'e4) a) _ _ w ((Ld.old hx) w hw) (by first | omega | (simp only [tops_len, conts_len, bl, List.length_append, List.length_cons, List.length_nil] at *; omega)) )) rfl rfl rfl ?_
                  rintro _ _ ⟨rfl, rfl⟩ hs
                  refine ⟨fun w hw => hw.sub (Sub.keep 2 rfl (Sub.keep 2 rfl (Sub.nil _))), ?_⟩
                  refine D.eff hwf (e := 21) rfl rfl rfl rfl (Ef.build I64 ([(r1[i]'e1), (r1[j]'e3), (r1[k]'e5), (num bs (oth1 (bs[((r1[i]'e1)).toNat]'e2) a) (oth2 (bs[((r1[j]'e3)).toNat]'e4) a)), (num bs (oth2 (bs[((r1[i]'e1)).toNat]'e2) a) (oth1 (bs[((r1[j]'e3)).toNat]'e4) a))] : List Int) rfl Tryz.underlying34 inf2 rfl rfl rfl (by first | decide | (simp; done)) (by kernel_rfl)) rfl rfl rfl ?_
                  rintro _ _ ⟨A3, hA3, rfl, rfl⟩ hs
                  refine ⟨fun w hw => hw.sub (Sub.keep 3 rfl (Sub.keep 3 rfl (Sub.nil _))), ?_⟩
                  refine D.eff hwf (e := 22) rfl rfl rfl rfl (Ef.call1 call91 rfl rfl (fun w hw => l03Ascending_ok ([(r1[i]'e1), (r1[j]'e3), (r1[k]'e5), (num bs (oth1 (bs[((r1[i]'e1)).toNat]'e2) a) (oth2 (bs[((r1[j]'e3)).toNat]'e4) a)), (num bs (oth2 (bs[((r1[i]'e1)).toNat]'e2) a) (oth1 (bs[((r1[j]'e3)).toNat]'e4) a))] : List Int) _ _ w ((Ld.own 0 (by exact rfl)) w hw) (by first | omega | (simp only [List.length_cons, List.length_nil]; omega)))) rfl rfl rfl ?_
                  rintro _ _ rfl hs
                  refine ⟨fun w hw => hs w hw.tail, ?_⟩
                  refine D.exi (fun p3 => ?_)
                  refine D.sep ?_
                  refine D.pur1 ?_
                  rintro ⟨rfl, hp3⟩
                  refine D.eff hwf (e := 23) rfl rfl rfl rfl (Ef.call call171 rfl rfl (Does.pre (fun w hw => hw.sub (Sub.keep 2 rfl (Sub.keep 2 rfl (Sub.keep 0 rfl (Sub.keep 0 rfl (Sub.keep 0 rfl (Sub.keep 0 rfl (Sub.nil _)))))))) (l03Put_ok o3 _ _ _ _ _ _ _ hs3 (by omega)))) rfl rfl rfl ?_
                  rintro _ _ rfl hs
                  refine ⟨fun w hw => hw.tail.sub (Sub.keep 1 rfl (Sub.keep 1 rfl (Sub.nil _))), ?_⟩
                  refine D.exi (fun p4 => ?_)
                  refine D.sep ?_
                  refine D.pur1 ?_
                  rintro ⟨rfl, hp4_1, hp4_2, hp4_3⟩
                  refine D.sep ?_
                  refine D.last hwf (e := 24) rfl rfl rfl rfl rfl rfl (Pu.assign rfl rfl) ?_
                  refine X.blockNormal ?_
                  refine X.next ?_
                  refine V.region ?_
                  refine O.p rfl rfl rfl (Pu.move rfl rfl) ?_
                  refine O.p rfl rfl rfl (Pu.add64 (r := ((turn + 1 : Nat) : Int)) rfl (by omega) rfl rfl rfl) ?_
                  refine O.p rfl rfl rfl (Pu.assign rfl rfl) ?_
                  refine O.nil ?_
                  exact X.back3 (p4.1.1, p4.1.2, p4.2, turn + 1) (by (try dsimp only); exact ⟨by omega, hp4_1, fun q => by rw [hp4_2 q, hm3 q]; exact (put_turn hb1 hb2 hb3 (by split <;> first | rfl | omega) (by split <;> first | rfl | omega) (by split <;> first | rfl | omega) (by split <;> first | rfl | omega) c9 c10 (by rw [getD_at e1, getD_at e3, getD_at e5]; exact hp3.1) hp3.2).symm, by omega⟩) (by first | omega | (dsimp only; omega)) (Ent.cons' rfl (by first | rfl | (simp only [tops_append]; done) | (simp only [tops_append]; rfl)) (Ent.cons rfl (Ent.nil _))) (Ent.cons (t := 1) rfl (Ent.cons (t := 2) rfl (Ent.cons (t := 6) rfl (Ent.cons (t := 7) rfl (Ent.cons (t := 8) rfl (Ent.cons (t := 9) rfl (Ent.cons (t := 10) rfl (Ent.cons (t := 11) rfl (Ent.nil _))))))))) (Sub.keep 0 rfl (Sub.keep 0 rfl (Sub.keep 1 rfl (Sub.keep 1 rfl (Sub.nil _)))))
                · skip
                  refine V.skip ?_
                  refine X.blockNormal ?_
                  refine X.next ?_
                  refine V.region ?_
                  refine O.p rfl rfl rfl (Pu.move rfl rfl) ?_
                  refine O.p rfl rfl rfl (Pu.add64 (r := ((turn + 1 : Nat) : Int)) rfl (by omega) rfl rfl rfl) ?_
                  refine O.p rfl rfl rfl (Pu.assign rfl rfl) ?_
                  refine O.nil ?_
                  exact X.back3 (o3A, o3c, o3, turn + 1) (by (try dsimp only); exact ⟨by omega, hs3, fun q => by rw [hm3 q]; exact (no_turn hb1 hb2 hb3 rfl (by split <;> first | rfl | omega) rfl (by split <;> first | rfl | omega) (fun h => c10 h.2)).symm, by omega⟩) (by first | omega | (dsimp only; omega)) (Ent.cons' rfl (by first | rfl | (simp only [tops_append]; done) | (simp only [tops_append]; rfl)) (Ent.cons rfl (Ent.nil _))) (Ent.cons (t := 1) rfl (Ent.cons (t := 2) rfl (Ent.cons (t := 6) rfl (Ent.cons (t := 7) rfl (Ent.cons (t := 8) rfl (Ent.cons (t := 9) rfl (Ent.cons (t := 10) rfl (Ent.cons (t := 11) rfl (Ent.nil _))))))))) (Sub.keep 0 rfl (Sub.keep 0 rfl (Sub.keep 0 rfl (Sub.keep 0 rfl (Sub.nil _)))))
              · skip
                refine O.gs rfl rfl rfl rfl rfl rfl ?_
                refine O.gs rfl rfl rfl rfl rfl rfl ?_
                refine O.gs rfl rfl rfl rfl rfl rfl ?_
                refine O.gs rfl rfl rfl rfl rfl rfl ?_
                refine O.gs rfl rfl rfl rfl rfl rfl ?_
                refine O.gs rfl rfl rfl rfl rfl rfl ?_
                refine O.p rfl rfl rfl (Pu.pickF rfl rfl rfl) ?_
                refine O.nil ?_
                refine X.next ?_
                refine V.condF rfl ?_
                refine V.skip ?_
                refine X.blockNormal ?_
                refine X.next ?_
                refine V.region ?_
                refine O.p rfl rfl rfl (Pu.move rfl rfl) ?_
                refine O.p rfl rfl rfl (Pu.add64 (r := ((turn + 1 : Nat) : Int)) rfl (by omega) rfl rfl rfl) ?_
                refine O.p rfl rfl rfl (Pu.assign rfl rfl) ?_
                refine O.nil ?_
                exact X.back3 (o3A, o3c, o3, turn + 1) (by (try dsimp only); exact ⟨by omega, hs3, fun q => by rw [hm3 q]; exact (no_turn hb1 hb2 hb3 (by split <;> first | rfl | omega) rfl (by split <;> first | rfl | omega) rfl (fun h => c9 h.1)).symm, by omega⟩) (by first | omega | (dsimp only; omega)) (Ent.cons' rfl (by first | rfl | (simp only [tops_append]; done) | (simp only [tops_append]; rfl)) (Ent.cons rfl (Ent.nil _))) (Ent.cons (t := 1) rfl (Ent.cons (t := 2) rfl (Ent.cons (t := 6) rfl (Ent.cons (t := 7) rfl (Ent.cons (t := 8) rfl (Ent.cons (t := 9) rfl (Ent.cons (t := 10) rfl (Ent.cons (t := 11) rfl (Ent.nil _))))))))) (Sub.keep 0 rfl (Sub.keep 0 rfl (Sub.keep 0 rfl (Sub.keep 0 rfl (Sub.nil _)))))
          · skip
            refine V.skip ?_
            refine X.next ?_
            refine V.seq ?_
            refine V.seq ?_
            refine V.region ?_
            refine O.p rfl rfl rfl (Pu.move rfl rfl) ?_
            refine O.p rfl rfl rfl (Pu.quo64 (by omega) (by omega) (by omega) rfl rfl rfl) ?_
            refine O.p rfl rfl rfl (Pu.eql rfl rfl rfl) ?_
            refine O.nil ?_
            refine X.next ?_
            refine V.condD rfl (fun c11 => ?_) (fun c11 => ?_)
            · skip
              refine V.region ?_
              refine O.p rfl rfl rfl (Pu.move rfl rfl) ?_
              refine O.p rfl rfl rfl (Pu.move rfl rfl) ?_
              refine O.p rfl rfl rfl (Pu.assign rfl rfl) ?_
              refine O.p rfl rfl rfl (Pu.assign rfl rfl) ?_
              refine O.nil ?_
              refine X.next ?_
              refine V.seq ?_
              refine V.region ?_
              refine O.p rfl rfl rfl (Pu.loadAgg rfl ag26 sz26 rfl rfl (Ld.whole 3 rfl)) ?_
              refine O.p rfl rfl rfl (Pu.move rfl rfl) ?_
              refine O.p rfl rfl rfl (Pu.move rfl rfl) ?_
              refine O.e rfl rfl rfl (Ef.callP call170 rfl rfl (fun w hw => l01Third_ok  v bs (oth1 (bs[((r1[i]'e1)).toNat]'e2) a) (oth1 (bs[((r1[j]'e3)).toNat]'e4) a) _ _ w ((Ld.old hx) w hw) (by first | omega | (simp only [tops_len, conts_len, bl, List.length_append, List.length_cons, List.length_nil] at *; omega)) hg (by omega) (by omega))) ?_
              rintro _ _ ⟨rfl, rfl⟩
              refine O.p rfl rfl rfl (Pu.move rfl rfl) ?_
              refine O.p rfl rfl rfl (Pu.eql rfl rfl rfl) ?_
              refine O.p rfl rfl rfl (Pu.move rfl rfl) ?_
              refine O.splitD 96 rfl (fun c12 => ?_) (fun c12 => ?_)
              · skip
                refine O.gp rfl rfl rfl rfl rfl (Pu.loadAgg rfl ag26 sz26 rfl rfl (Ld.whole 3 rfl)) ?_
                refine O.gp rfl rfl rfl rfl rfl (Pu.move rfl rfl) ?_
                refine O.gp rfl rfl rfl rfl rfl (Pu.move rfl rfl) ?_
                refine O.ge rfl rfl rfl rfl rfl (Ef.callP call170 rfl rfl (fun w hw => l01Third_ok  v bs (oth2 (bs[((r1[i]'e1)).toNat]'e2) a) (oth2 (bs[((r1[j]'e3)).toNat]'e4) a) _ _ w ((Ld.old hx) w hw) (by first | omega | (simp only [tops_len, conts_len, bl, List.length_append, List.length_cons, List.length_nil] at *; omega)) hg (by omega) (by omega))) ?_
                rintro _ _ ⟨rfl, rfl⟩
                refine O.gp rfl rfl rfl rfl rfl (Pu.move rfl rfl) ?_
                refine O.gp rfl rfl rfl rfl rfl (Pu.eql rfl rfl rfl) ?_
                refine O.p rfl rfl rfl (Pu.pickT rfl rfl rfl) ?_
                refine O.nil ?_
                refine X.next ?_
                refine V.condD rfl (fun c13 => ?_) (fun c13 => ?_)
                · skip
                  refine V.drawS mo (by kernel_rfl) (Sub.keep 2 rfl (Sub.keep 2 rfl (Sub.nil _))) (fun hwf => ?_)
                  refine D.p 0 rfl rfl rfl rfl rfl rfl (Pu.move rfl rfl) ?_
                  refine D.p 1 rfl rfl rfl rfl rfl rfl (Pu.move rfl rfl) ?_
                  refine D.p 2 rfl rfl rfl rfl rfl rfl (Pu.move rfl rfl) ?_
                  refine D.p 3 rfl rfl rfl rfl rfl rfl (Pu.indexAddrS (i) rfl Tryz.underlying34 sz2 rfl rfl (by omega) (by omega) (fun w hw => Own.some hw (i := 0) (by exact rfl) (by omega))) ?_
                  refine D.p 4 rfl rfl rfl rfl rfl rfl (Pu.load rfl pl2 rfl (Ld.rd (Ld.own 0 (by exact rfl)) (k := i) e1 rfl rfl)) ?_
                  refine D.p 5 rfl rfl rfl rfl rfl rfl (Pu.move rfl rfl) ?_
                  refine D.p 6 rfl rfl rfl rfl rfl rfl (Pu.move rfl rfl) ?_
                  refine D.p 7 rfl rfl rfl rfl rfl rfl (Pu.indexAddrS (j) rfl Tryz.underlying34 sz2 rfl rfl (by omega) (by omega) (fun w hw => Own.some hw (i := 0) (by exact rfl) (by omega))) ?_
                  refine D.p 8 rfl rfl rfl rfl rfl rfl (Pu.load rfl pl2 rfl (Ld.rd (Ld.own 0 (by exact rfl)) (k := j) e3 rfl rfl)) ?_
                  refine D.p 9 rfl rfl rfl rfl rfl rfl (Pu.move rfl rfl) ?_
                  refine D.p 10 rfl rfl rfl rfl rfl rfl (Pu.move rfl rfl) ?_
                  refine D.p 11 rfl rfl rfl rfl rfl rfl (Pu.indexAddrS (k) rfl Tryz.underlying34 sz2 rfl rfl (by omega) (by omega) (fun w hw => Own.some hw (i := 0) (by exact rfl) (by omega))) ?_
                  refine D.p 12 rfl rfl rfl rfl rfl rfl (Pu.load rfl pl2 rfl (Ld.rd (Ld.own 0 (by exact rfl)) (k := k) e5 rfl rfl)) ?_
                  refine D.p 13 rfl rfl rfl rfl rfl rfl (Pu.loadAgg rfl ag26 sz26 rfl rfl (Ld.whole 1 rfl)) ?_
                  refine D.p 14 rfl rfl rfl rfl rfl rfl (Pu.move rfl rfl) ?_
                  refine D.p 15 rfl rfl rfl rfl rfl rfl (Pu.move rfl rfl) ?_
                  refine D.p 17 rfl rfl rfl rfl rfl rfl (Pu.loadAgg rfl ag26 sz26 rfl rfl (Ld.whole 1 rfl)) ?_
                  refine D.p 18 rfl rfl rfl rfl rfl rfl (Pu.move rfl rfl) ?_
                  refine D.p 19 rfl rfl rfl rfl rfl rfl (Pu.move rfl rfl) ?_
                  refine D.eff hwf (e := 16) rfl rfl rfl rfl (Ef.callP call172 rfl rfl (fun w hw => l03Number_ok  v bs (oth1 (bs[((r1[i]'e1)).toNat]'e2) a) (oth1 (bs[((r1[j]'e3)).toNat]'e4) a) _ _ w ((Ld.old hx) w hw) (by first | omega | (simp only [tops_len, conts_len, bl, List.length_append, List.length_cons, List.length_nil] at *; omega)) )) rfl rfl rfl ?_
                  rintro _ _ ⟨rfl, rfl⟩ hs
                  refine ⟨fun w hw => hw.sub (Sub.keep 2 rfl (Sub.keep 2 rfl (Sub.nil _))), ?_⟩
                  refine D.eff hwf (e := 20) rfl rfl rfl rfl (Ef.callP call172 rfl rfl (fun w hw => l03Number_ok  v bs (oth2 (bs[((r1[i]'e1)).toNat]'e2) a) (oth2 (bs[((r1[j]'e3)).toNat]'e4) a) _ _ w ((Ld.old hx) w hw) (by first | omega | (simp only [tops_len, conts_len, bl, List.length_append, List.length_cons, List.length_nil] at *; omega)) )) rfl rfl rfl ?_
                  rintro _ _ ⟨rfl, rfl⟩ hs
                  refine ⟨fun w hw => hw.sub (Sub.keep 2 rfl (Sub.keep 2 rfl (Sub.nil _))), ?_⟩
                  refine D.eff hwf (e := 21) rfl rfl rfl rfl (Ef.build I64 ([(r1[i]'e1), (r1[j]'e3), (r1[k]'e5), (num bs (oth1 (bs[((r1[i]'e1)).toNat]'e2) a) (oth1 (bs[((r1[j]'e3)).toNat]'e4) a)), (num bs (oth2 (bs[((r1[i]'e1)).toNat]'e2) a) (oth2 (bs[((r1[j]'e3)).toNat]'e4) a))] : List Int) rfl Tryz.underlying34 inf2 rfl rfl rfl (by first | decide | (simp; done)) (by kernel_rfl)) rfl rfl rfl ?_
                  rintro _ _ ⟨A4, hA4, rfl, rfl⟩ hs
                  refine ⟨fun w hw => hw.sub (Sub.keep 3 rfl (Sub.keep 3 rfl (Sub.nil _))), ?_⟩
                  refine D.eff hwf (e := 22) rfl rfl rfl rfl (Ef.call1 call91 rfl rfl (fun w hw => l03Ascending_ok ([(r1[i]'e1), (r1[j]'e3), (r1[k]'e5), (num bs (oth1 (bs[((r1[i]'e1)).toNat]'e2) a) (oth1 (bs[((r1[j]'e3)).toNat]'e4) a)), (num bs (oth2 (bs[((r1[i]'e1)).toNat]'e2) a) (oth2 (bs[((r1[j]'e3)).toNat]'e4) a))] : List Int) _ _ w ((Ld.own 0 (by exact rfl)) w hw) (by first | omega | (simp only [List.length_cons, List.length_nil]; omega)))) rfl rfl rfl ?_
                  rintro _ _ rfl hs
                  refine ⟨fun w hw => hs w hw.tail, ?_⟩
                  refine D.exi (fun p5 => ?_)
                  refine D.sep ?_
                  refine D.pur1 ?_
                  rintro ⟨rfl, hp5⟩
                  refine D.eff hwf (e := 23) rfl rfl rfl rfl (Ef.call call171 rfl rfl (Does.pre (fun w hw => hw.sub (Sub.keep 2 rfl (Sub.keep 2 rfl (Sub.keep 0 rfl (Sub.keep 0 rfl (Sub.keep 0 rfl (Sub.keep 0 rfl (Sub.nil _)))))))) (l03Put_ok o3 _ _ _ _ _ _ _ hs3 (by omega)))) rfl rfl rfl ?_
                  rintro _ _ rfl hs
                  refine ⟨fun w hw => hw.tail.sub (Sub.keep 1 rfl (Sub.keep 1 rfl (Sub.nil _))), ?_⟩
                  refine D.exi (fun p6 => ?_)
                  refine D.sep ?_
                  refine D.pur1 ?_
                  rintro ⟨rfl, hp6_1, hp6_2, hp6_3⟩
                  refine D.sep ?_
                  refine D.last hwf (e := 24) rfl rfl rfl rfl rfl rfl (Pu.assign rfl rfl) ?_
                  refine X.blockNormal ?_
                  refine X.next ?_
                  refine V.region ?_
                  refine O.p rfl rfl rfl (Pu.move rfl rfl) ?_
                  refine O.p rfl rfl rfl (Pu.add64 (r := ((turn + 1 : Nat) : Int)) rfl (by omega) rfl rfl rfl) ?_
                  refine O.p rfl rfl rfl (Pu.assign rfl rfl) ?_
                  refine O.nil ?_
                  exact X.back3 (p6.1.1, p6.1.2, p6.2, turn + 1) (by (try dsimp only); exact ⟨by omega, hp6_1, fun q => by rw [hp6_2 q, hm3 q]; exact (put_turn hb1 hb2 hb3 (by split <;> first | rfl | omega) (by split <;> first | rfl | omega) (by split <;> first | rfl | omega) (by split <;> first | rfl | omega) c12 c13 (by rw [getD_at e1, getD_at e3, getD_at e5]; exact hp5.1) hp5.2).symm, by omega⟩) (by first | omega | (dsimp only; omega)) (Ent.cons' rfl (by first | rfl | (simp only [tops_append]; done) | (simp only [tops_append]; rfl)) (Ent.cons rfl (Ent.nil _))) (Ent.cons (t := 1) rfl (Ent.cons (t := 2) rfl (Ent.cons (t := 6) rfl (Ent.cons (t := 7) rfl (Ent.cons (t := 8) rfl (Ent.cons (t := 9) rfl (Ent.cons (t := 10) rfl (Ent.cons (t := 11) rfl (Ent.nil _))))))))) (Sub.keep 0 rfl (Sub.keep 0 rfl (Sub.keep 1 rfl (Sub.keep 1 rfl (Sub.nil _)))))
                · skip
                  refine V.skip ?_
                  refine X.blockNormal ?_
                  refine X.next ?_
                  refine V.region ?_
                  refine O.p rfl rfl rfl (Pu.move rfl rfl) ?_
                  refine O.p rfl rfl rfl (Pu.add64 (r := ((turn + 1 : Nat) : Int)) rfl (by omega) rfl rfl rfl) ?_
                  refine O.p rfl rfl rfl (Pu.assign rfl rfl) ?_
                  refine O.nil ?_
                  exact X.back3 (o3A, o3c, o3, turn + 1) (by (try dsimp only); exact ⟨by omega, hs3, fun q => by rw [hm3 q]; exact (no_turn hb1 hb2 hb3 rfl (by split <;> first | rfl | omega) rfl (by split <;> first | rfl | omega) (fun h => c13 h.2)).symm, by omega⟩) (by first | omega | (dsimp only; omega)) (Ent.cons' rfl (by first | rfl | (simp only [tops_append]; done) | (simp only [tops_append]; rfl)) (Ent.cons rfl (Ent.nil _))) (Ent.cons (t := 1) rfl (Ent.cons (t := 2) rfl (Ent.cons (t := 6) rfl (Ent.cons (t := 7) rfl (Ent.cons (t := 8) rfl (Ent.cons (t := 9) rfl (Ent.cons (t := 10) rfl (Ent.cons (t := 11) rfl (Ent.nil _))))))))) (Sub.keep 0 rfl (Sub.keep 0 rfl (Sub.keep 0 rfl (Sub.keep 0 rfl (Sub.nil _)))))
              · skip
                refine O.gs rfl rfl rfl rfl rfl rfl ?_
                refine O.gs rfl rfl rfl rfl rfl rfl ?_
                refine O.gs rfl rfl rfl rfl rfl rfl ?_
                refine O.gs rfl rfl rfl rfl rfl rfl ?_
                refine O.gs rfl rfl rfl rfl rfl rfl ?_
                refine O.gs rfl rfl rfl rfl rfl rfl ?_
                refine O.p rfl rfl rfl (Pu.pickF rfl rfl rfl) ?_
                refine O.nil ?_
                refine X.next ?_
                refine V.condF rfl ?_
                refine V.skip ?_
                refine X.blockNormal ?_
                refine X.next ?_
                refine V.region ?_
                refine O.p rfl rfl rfl (Pu.move rfl rfl) ?_
                refine O.p rfl rfl rfl (Pu.add64 (r := ((turn + 1 : Nat) : Int)) rfl (by omega) rfl rfl rfl) ?_
                refine O.p rfl rfl rfl (Pu.assign rfl rfl) ?_
                refine O.nil ?_
                exact X.back3 (o3A, o3c, o3, turn + 1) (by (try dsimp only); exact ⟨by omega, hs3, fun q => by rw [hm3 q]; exact (no_turn hb1 hb2 hb3 (by split <;> first | rfl | omega) rfl (by split <;> first | rfl | omega) rfl (fun h => c12 h.1)).symm, by omega⟩) (by first | omega | (dsimp only; omega)) (Ent.cons' rfl (by first | rfl | (simp only [tops_append]; done) | (simp only [tops_append]; rfl)) (Ent.cons rfl (Ent.nil _))) (Ent.cons (t := 1) rfl (Ent.cons (t := 2) rfl (Ent.cons (t := 6) rfl (Ent.cons (t := 7) rfl (Ent.cons (t := 8) rfl (Ent.cons (t := 9) rfl (Ent.cons (t := 10) rfl (Ent.cons (t := 11) rfl (Ent.nil _))))))))) (Sub.keep 0 rfl (Sub.keep 0 rfl (Sub.keep 0 rfl (Sub.keep 0 rfl (Sub.nil _)))))
            · skip
              refine V.skip ?_
              refine X.next ?_
              refine V.seq ?_
              refine V.region ?_
              refine O.p rfl rfl rfl (Pu.loadAgg rfl ag26 sz26 rfl rfl (Ld.whole 3 rfl)) ?_
              refine O.p rfl rfl rfl (Pu.move rfl rfl) ?_
              refine O.p rfl rfl rfl (Pu.move rfl rfl) ?_
              refine O.e rfl rfl rfl (Ef.callP call170 rfl rfl (fun w hw => l01Third_ok  v bs (oth1 (bs[((r1[i]'e1)).toNat]'e2) a) (oth1 (bs[((r1[j]'e3)).toNat]'e4) a) _ _ w ((Ld.old hx) w hw) (by first | omega | (simp only [tops_len, conts_len, bl, List.length_append, List.length_cons, List.length_nil] at *; omega)) hg (by omega) (by omega))) ?_
              rintro _ _ ⟨rfl, rfl⟩
              refine O.p rfl rfl rfl (Pu.move rfl rfl) ?_
              refine O.p rfl rfl rfl (Pu.eql rfl rfl rfl) ?_
              refine O.p rfl rfl rfl (Pu.move rfl rfl) ?_
              refine O.splitD 96 rfl (fun c14 => ?_) (fun c14 => ?_)
              · skip
                refine O.gp rfl rfl rfl rfl rfl (Pu.loadAgg rfl ag26 sz26 rfl rfl (Ld.whole 3 rfl)) ?_
                refine O.gp rfl rfl rfl rfl rfl (Pu.move rfl rfl) ?_
                refine O.gp rfl rfl rfl rfl rfl (Pu.move rfl rfl) ?_
                refine O.ge rfl rfl rfl rfl rfl (Ef.callP call170 rfl rfl (fun w hw => l01Third_ok  v bs (oth2 (bs[((r1[i]'e1)).toNat]'e2) a) (oth2 (bs[((r1[j]'e3)).toNat]'e4) a) _ _ w ((Ld.old hx) w hw) (by first | omega | (simp only [tops_len, conts_len, bl, List.length_append, List.length_cons, List.length_nil] at *; omega)) hg (by omega) (by omega))) ?_
                rintro _ _ ⟨rfl, rfl⟩
                refine O.gp rfl rfl rfl rfl rfl (Pu.move rfl rfl) ?_
                refine O.gp rfl rfl rfl rfl rfl (Pu.eql rfl rfl rfl) ?_
                refine O.p rfl rfl rfl (Pu.pickT rfl rfl rfl) ?_
                refine O.nil ?_
                refine X.next ?_
                refine V.condD rfl (fun c15 => ?_) (fun c15 => ?_)
                · skip
                  refine V.drawS mo (by kernel_rfl) (Sub.keep 2 rfl (Sub.keep 2 rfl (Sub.nil _))) (fun hwf => ?_)
                  refine D.p 0 rfl rfl rfl rfl rfl rfl (Pu.move rfl rfl) ?_
                  refine D.p 1 rfl rfl rfl rfl rfl rfl (Pu.move rfl rfl) ?_
                  refine D.p 2 rfl rfl rfl rfl rfl rfl (Pu.move rfl rfl) ?_
                  refine D.p 3 rfl rfl rfl rfl rfl rfl (Pu.indexAddrS (i) rfl Tryz.underlying34 sz2 rfl rfl (by omega) (by omega) (fun w hw => Own.some hw (i := 0) (by exact rfl) (by omega))) ?_
                  refine D.p 4 rfl rfl rfl rfl rfl rfl (Pu.load rfl pl2 rfl (Ld.rd (Ld.own 0 (by exact rfl)) (k := i) e1 rfl rfl)) ?_
                  refine D.p 5 rfl rfl rfl rfl rfl rfl (Pu.move rfl rfl) ?_
                  refine D.p 6 rfl rfl rfl rfl rfl rfl (Pu.move rfl rfl) ?_
                  refine D.p 7 rfl rfl rfl rfl rfl rfl (Pu.indexAddrS (j) rfl Tryz.underlying34 sz2 rfl rfl (by omega) (by omega) (fun w hw => Own.some hw (i := 0) (by exact rfl) (by omega))) ?_
                  refine D.p 8 rfl rfl rfl rfl rfl rfl (Pu.load rfl pl2 rfl (Ld.rd (Ld.own 0 (by exact rfl)) (k := j) e3 rfl rfl)) ?_
                  refine D.p 9 rfl rfl rfl rfl rfl rfl (Pu.move rfl rfl) ?_
                  refine D.p 10 rfl rfl rfl rfl rfl rfl (Pu.move rfl rfl) ?_
                  refine D.p 11 rfl rfl rfl rfl rfl rfl (Pu.indexAddrS (k) rfl Tryz.underlying34 sz2 rfl rfl (by omega) (by omega) (fun w hw => Own.some hw (i := 0) (by exact rfl) (by omega))) ?_
                  refine D.p 12 rfl rfl rfl rfl rfl rfl (Pu.load rfl pl2 rfl (Ld.rd (Ld.own 0 (by exact rfl)) (k := k) e5 rfl rfl)) ?_
                  refine D.p 13 rfl rfl rfl rfl rfl rfl (Pu.loadAgg rfl ag26 sz26 rfl rfl (Ld.whole 1 rfl)) ?_
                  refine D.p 14 rfl rfl rfl rfl rfl rfl (Pu.move rfl rfl) ?_
                  refine D.p 15 rfl rfl rfl rfl rfl rfl (Pu.move rfl rfl) ?_
                  refine D.p 17 rfl rfl rfl rfl rfl rfl (Pu.loadAgg rfl ag26 sz26 rfl rfl (Ld.whole 1 rfl)) ?_
                  refine D.p 18 rfl rfl rfl rfl rfl rfl (Pu.move rfl rfl) ?_
                  refine D.p 19 rfl rfl rfl rfl rfl rfl (Pu.move rfl rfl) ?_
                  refine D.eff hwf (e := 16) rfl rfl rfl rfl (Ef.callP call172 rfl rfl (fun w hw => l03Number_ok  v bs (oth1 (bs[((r1[i]'e1)).toNat]'e2) a) (oth1 (bs[((r1[j]'e3)).toNat]'e4) a) _ _ w ((Ld.old hx) w hw) (by first | omega | (simp only [tops_len, conts_len, bl, List.length_append, List.length_cons, List.length_nil] at *; omega)) )) rfl rfl rfl ?_
                  rintro _ _ ⟨rfl, rfl⟩ hs
                  refine ⟨fun w hw => hw.sub (Sub.keep 2 rfl (Sub.keep 2 rfl (Sub.nil _))), ?_⟩
                  refine D.eff hwf (e := 20) rfl rfl rfl rfl (Ef.callP call172 rfl rfl (fun w hw => l03Number_ok  v bs (oth2 (bs[((r1[i]'e1)).toNat]'e2) a) (oth2 (bs[((r1[j]'e3)).toNat]'e4) a) _ _ w ((Ld.old hx) w hw) (by first | omega | (simp only [tops_len, conts_len, bl, List.length_append, List.length_cons, List.length_nil] at *; omega)) )) rfl rfl rfl ?_
                  rintro _ _ ⟨rfl, rfl⟩ hs
                  refine ⟨fun w hw => hw.sub (Sub.keep 2 rfl (Sub.keep 2 rfl (Sub.nil _))), ?_⟩
                  refine D.eff hwf (e := 21) rfl rfl rfl rfl (Ef.build I64 ([(r1[i]'e1), (r1[j]'e3), (r1[k]'e5), (num bs (oth1 (bs[((r1[i]'e1)).toNat]'e2) a) (oth1 (bs[((r1[j]'e3)).toNat]'e4) a)), (num bs (oth2 (bs[((r1[i]'e1)).toNat]'e2) a) (oth2 (bs[((r1[j]'e3)).toNat]'e4) a))] : List Int) rfl Tryz.underlying34 inf2 rfl rfl rfl (by first | decide | (simp; done)) (by kernel_rfl)) rfl rfl rfl ?_
                  rintro _ _ ⟨A5, hA5, rfl, rfl⟩ hs
                  refine ⟨fun w hw => hw.sub (Sub.keep 3 rfl (Sub.keep 3 rfl (Sub.nil _))), ?_⟩
                  refine D.eff hwf (e := 22) rfl rfl rfl rfl (Ef.call1 call91 rfl rfl (fun w hw => l03Ascending_ok ([(r1[i]'e1), (r1[j]'e3), (r1[k]'e5), (num bs (oth1 (bs[((r1[i]'e1)).toNat]'e2) a) (oth1 (bs[((r1[j]'e3)).toNat]'e4) a)), (num bs (oth2 (bs[((r1[i]'e1)).toNat]'e2) a) (oth2 (bs[((r1[j]'e3)).toNat]'e4) a))] : List Int) _ _ w ((Ld.own 0 (by exact rfl)) w hw) (by first | omega | (simp only [List.length_cons, List.length_nil]; omega)))) rfl rfl rfl ?_
                  rintro _ _ rfl hs
                  refine ⟨fun w hw => hs w hw.tail, ?_⟩
                  refine D.exi (fun p7 => ?_)
                  refine D.sep ?_
                  refine D.pur1 ?_
                  rintro ⟨rfl, hp7⟩
                  refine D.eff hwf (e := 23) rfl rfl rfl rfl (Ef.call call171 rfl rfl (Does.pre (fun w hw => hw.sub (Sub.keep 2 rfl (Sub.keep 2 rfl (Sub.keep 0 rfl (Sub.keep 0 rfl (Sub.keep 0 rfl (Sub.keep 0 rfl (Sub.nil _)))))))) (l03Put_ok o3 _ _ _ _ _ _ _ hs3 (by omega)))) rfl rfl rfl ?_
                  rintro _ _ rfl hs
                  refine ⟨fun w hw => hw.tail.sub (Sub.keep 1 rfl (Sub.keep 1 rfl (Sub.nil _))), ?_⟩
                  refine D.exi (fun p8 => ?_)
                  refine D.sep ?_
                  refine D.pur1 ?_
                  rintro ⟨rfl, hp8_1, hp8_2, hp8_3⟩
                  refine D.sep ?_
                  refine D.last hwf (e := 24) rfl rfl rfl rfl rfl rfl (Pu.assign rfl rfl) ?_
                  refine X.blockNormal ?_
                  refine X.next ?_
                  refine V.region ?_
                  refine O.p rfl rfl rfl (Pu.move rfl rfl) ?_
                  refine O.p rfl rfl rfl (Pu.add64 (r := ((turn + 1 : Nat) : Int)) rfl (by omega) rfl rfl rfl) ?_
                  refine O.p rfl rfl rfl (Pu.assign rfl rfl) ?_
                  refine O.nil ?_
                  exact X.back3 (p8.1.1, p8.1.2, p8.2, turn + 1) (by (try dsimp only); exact ⟨by omega, hp8_1, fun q => by rw [hp8_2 q, hm3 q]; exact (put_turn hb1 hb2 hb3 (by split <;> first | rfl | omega) (by split <;> first | rfl | omega) (by split <;> first | rfl | omega) (by split <;> first | rfl | omega) c14 c15 (by rw [getD_at e1, getD_at e3, getD_at e5]; exact hp7.1) hp7.2).symm, by omega⟩) (by first | omega | (dsimp only; omega)) (Ent.cons' rfl (by first | rfl | (simp only [tops_append]; done) | (simp only [tops_append]; rfl)) (Ent.cons rfl (Ent.nil _))) (Ent.cons (t := 1) rfl (Ent.cons (t := 2) rfl (Ent.cons (t := 6) rfl (Ent.cons (t := 7) rfl (Ent.cons (t := 8) rfl (Ent.cons (t := 9) rfl (Ent.cons (t := 10) rfl (Ent.cons (t := 11) rfl (Ent.nil _))))))))) (Sub.keep 0 rfl (Sub.keep 0 rfl (Sub.keep 1 rfl (Sub.keep 1 rfl (Sub.nil _)))))
                · skip
                  refine V.skip ?_
                  refine X.blockNormal ?_
                  refine X.next ?_
                  refine V.region ?_
                  refine O.p rfl rfl rfl (Pu.move rfl rfl) ?_
                  refine O.p rfl rfl rfl (Pu.add64 (r := ((turn + 1 : Nat) : Int)) rfl (by omega) rfl rfl rfl) ?_
                  refine O.p rfl rfl rfl (Pu.assign rfl rfl) ?_
                  refine O.nil ?_
                  exact X.back3 (o3A, o3c, o3, turn + 1) (by (try dsimp only); exact ⟨by omega, hs3, fun q => by rw [hm3 q]; exact (no_turn hb1 hb2 hb3 rfl (by split <;> first | rfl | omega) rfl (by split <;> first | rfl | omega) (fun h => c15 h.2)).symm, by omega⟩) (by first | omega | (dsimp only; omega)) (Ent.cons' rfl (by first | rfl | (simp only [tops_append]; done) | (simp only [tops_append]; rfl)) (Ent.cons rfl (Ent.nil _))) (Ent.cons (t := 1) rfl (Ent.cons (t := 2) rfl (Ent.cons (t := 6) rfl (Ent.cons (t := 7) rfl (Ent.cons (t := 8) rfl (Ent.cons (t := 9) rfl (Ent.cons (t := 10) rfl (Ent.cons (t := 11) rfl (Ent.nil _))))))))) (Sub.keep 0 rfl (Sub.keep 0 rfl (Sub.keep 0 rfl (Sub.keep 0 rfl (Sub.nil _)))))
              · skip
                refine O.gs rfl rfl rfl rfl rfl rfl ?_
                refine O.gs rfl rfl rfl rfl rfl rfl ?_
                refine O.gs rfl rfl rfl rfl rfl rfl ?_
                refine O.gs rfl rfl rfl rfl rfl rfl ?_
                refine O.gs rfl rfl rfl rfl rfl rfl ?_
                refine O.gs rfl rfl rfl rfl rfl rfl ?_
                refine O.p rfl rfl rfl (Pu.pickF rfl rfl rfl) ?_
                refine O.nil ?_
                refine X.next ?_
                refine V.condF rfl ?_
                refine V.skip ?_
                refine X.blockNormal ?_
                refine X.next ?_
                refine V.region ?_
                refine O.p rfl rfl rfl (Pu.move rfl rfl) ?_
                refine O.p rfl rfl rfl (Pu.add64 (r := ((turn + 1 : Nat) : Int)) rfl (by omega) rfl rfl rfl) ?_
                refine O.p rfl rfl rfl (Pu.assign rfl rfl) ?_
                refine O.nil ?_
                exact X.back3 (o3A, o3c, o3, turn + 1) (by (try dsimp only); exact ⟨by omega, hs3, fun q => by rw [hm3 q]; exact (no_turn hb1 hb2 hb3 (by split <;> first | rfl | omega) rfl (by split <;> first | rfl | omega) rfl (fun h => c14 h.1)).symm, by omega⟩) (by first | omega | (dsimp only; omega)) (Ent.cons' rfl (by first | rfl | (simp only [tops_append]; done) | (simp only [tops_append]; rfl)) (Ent.cons rfl (Ent.nil _))) (Ent.cons (t := 1) rfl (Ent.cons (t := 2) rfl (Ent.cons (t := 6) rfl (Ent.cons (t := 7) rfl (Ent.cons (t := 8) rfl (Ent.cons (t := 9) rfl (Ent.cons (t := 10) rfl (Ent.cons (t := 11) rfl (Ent.nil _))))))))) (Sub.keep 0 rfl (Sub.keep 0 rfl (Sub.keep 0 rfl (Sub.keep 0 rfl (Sub.nil _)))))
        · skip
          refine V.exit ?_
          refine X.thenExit ?_
          refine X.thenExit ?_
          refine X.blockHit ?_
          refine X.blockNormal ?_
          refine X.next ?_
          refine V.region ?_
          refine O.p rfl rfl rfl (Pu.move rfl rfl) ?_
          refine O.p rfl rfl rfl (Pu.add64 (r := ((k + 1 : Nat) : Int)) rfl (by omega) rfl rfl rfl) ?_
          refine O.p rfl rfl rfl (Pu.assign rfl rfl) ?_
          refine O.nil ?_
          exact X.back3 (o3A, o3c, o3, k + 1) (by (try dsimp only); exact ⟨by omega, hs3, fun q => by rw [hm3 q, hm2 q, fmR_succ (ms3 bs a r1 i j), List.mem_append, or_assoc, show turn = 4 by omega]; exact Iff.rfl, by omega⟩) (by first | omega | (dsimp only; omega)) (Ent.cons' rfl (by first | rfl | (simp only [tops_append]; done) | (simp only [tops_append]; rfl)) (Ent.cons rfl (Ent.nil _))) (Ent.cons (t := 1) rfl (Ent.cons (t := 2) rfl (Ent.cons (t := 6) rfl (Ent.cons (t := 7) rfl (Ent.cons (t := 8) rfl (Ent.nil _)))))) (Sub.keep 0 rfl (Sub.keep 0 rfl (Sub.keep 0 rfl (Sub.keep 0 rfl (Sub.nil _)))))
      · skip
        refine V.exit ?_
        refine X.thenExit ?_
        refine X.thenExit ?_
        refine X.blockHit ?_
        refine X.blockNormal ?_
        refine X.next ?_
        refine V.region ?_
        refine O.p rfl rfl rfl (Pu.move rfl rfl) ?_
        refine O.p rfl rfl rfl (Pu.add64 (r := ((j + 1 : Nat) : Int)) rfl (by omega) rfl rfl rfl) ?_
        refine O.p rfl rfl rfl (Pu.assign rfl rfl) ?_
        refine O.nil ?_
        exact X.back3 (o2A, o2c, o2, j + 1) (by (try dsimp only); exact ⟨by omega, hs2, fun q => by rw [hm2 q, hm1 q, show k = j by omega, fmR_succ, List.mem_append, or_assoc]; exact Iff.rfl, by omega⟩) (by first | omega | (dsimp only; omega)) (Ent.cons' rfl (by first | rfl | (simp only [tops_append]; done) | (simp only [tops_append]; rfl)) (Ent.cons rfl (Ent.nil _))) (Ent.cons (t := 1) rfl (Ent.cons (t := 2) rfl (Ent.cons (t := 6) rfl (Ent.cons (t := 7) rfl (Ent.nil _))))) (Sub.keep 0 rfl (Sub.keep 0 rfl (Sub.keep 0 rfl (Sub.keep 0 rfl (Sub.nil _)))))
    · skip
      refine V.exit ?_
      refine X.thenExit ?_
      refine X.thenExit ?_
      refine X.blockHit ?_
      refine X.blockNormal ?_
      refine X.next ?_
      refine V.region ?_
      refine O.p rfl rfl rfl (Pu.move rfl rfl) ?_
      refine O.p rfl rfl rfl (Pu.add64 (r := ((i + 1 : Nat) : Int)) rfl (by omega) rfl rfl rfl) ?_
      refine O.p rfl rfl rfl (Pu.assign rfl rfl) ?_
      refine O.nil ?_
      exact X.back3 (o1A, o1c, o1, i + 1) (by (try dsimp only); exact ⟨by omega, hs1, fun q => by rw [hm1 q, hm0 q, show j = i by omega, fmR_succ, List.mem_append]; exact Iff.rfl, by omega⟩) (by first | omega | (dsimp only; omega)) (Ent.cons' rfl (by first | rfl | (simp only [tops_append]; done) | (simp only [tops_append]; rfl)) (Ent.cons rfl (Ent.nil _))) (Ent.cons (t := 1) rfl (Ent.cons (t := 2) rfl (Ent.cons (t := 6) rfl (Ent.nil _)))) (Sub.keep 0 rfl (Sub.keep 0 rfl (Sub.keep 0 rfl (Sub.keep 0 rfl (Sub.nil _)))))
  · skip
    refine V.exit ?_
    refine X.thenExit ?_
    refine X.thenExit ?_
    refine X.blockHit ?_
    refine X.next ?_
    refine V.seq ?_
    refine V.region ?_
    refine O.p rfl rfl rfl (Pu.move rfl rfl) ?_
    refine O.p rfl rfl rfl (Pu.assign rfl rfl) ?_
    refine O.nil ?_
    refine X.next ?_
    refine V.ret ?_
    refine X.ret1 rfl rfl ?_
    exact fun w hw => St.mkExi outA (St.mkExi outc (St.mkExi out (St.unsep (St.addPur ⟨(by first | rfl | (simp only [tops_append]; done) | (simp only [tops_append]; rfl)), ⟨hs0, fun q => by rw [hm0 q, show i = r1.length by omega, hr1_1]; exact ms_mem hS⟩, by omega⟩ (St.unsep (hw.sub (Sub.keep 0 rfl (Sub.keep 0 rfl (Sub.nil _)))))))))
set_option maxRecDepth 100000 in
set_option maxHeartbeats 1000000 in
theorem mitresAt1_ok (b : B3) (v : Int) (bs : List B3) (b_0 : Nat) (A : Option Addr) (c : Nat) (w : World) (hx : Rd B3C w A bs) (hb_0 : RdB w b_0 [.int .i64 v, .slice A bs.length c]) (lx : bs.length ≤ 4611686018427387904) (lb : bs.length ≤ 1000000) : Does Tryz.prog 176 [B3.v b, .pointer (some ⟨b_0, 0, none⟩)] w [] (fun r => [.pur (r = .int .i64 (idxP (fun x => b = x) bs))]) := by
  refine Does.enter Tryz.func176 rfl rfl [(0, B3.v b), (1, .pointer (some ⟨b_0, 0, none⟩))] rfl ?_
  refine V.seq ?_
  refine V.region ?_
  refine O.e rfl rfl rfl (Ef.box rfl rfl rfl) ?_
  rintro _ _ ⟨b1, rfl, rfl⟩
  refine O.p rfl rfl rfl (Pu.assign rfl rfl) ?_
  refine O.nil ?_
  refine X.next ?_
  refine V.seq ?_
  refine V.region ?_
  refine O.p rfl rfl rfl (Pu.fieldAddr 1 rfl Tryz.underlying26 rfl sz24 rfl rfl) ?_
  refine O.p rfl rfl rfl (Pu.load rfl pl24 rfl (Ld.rdb hb_0 rfl)) ?_
  refine O.p rfl rfl rfl (Pu.loadAgg' (v := B3.v b) rfl rfl ag51 sz51 rfl rfl (Ld.whole 0 rfl)) ?_
  refine O.e rfl rfl rfl (Ef.callP call177 rfl rfl (fun w hw => indexBl_ok  bs b _ _ w ((Ld.old hx) w hw) (by first | omega | (simp only [tops_len, conts_len, bl, List.length_append, List.length_cons, List.length_nil] at *; omega)) )) ?_
  rintro _ _ ⟨rfl, rfl⟩
  refine O.p rfl rfl rfl (Pu.assign rfl rfl) ?_
  refine O.nil ?_
  refine X.next ?_
  refine V.ret ?_
  refine X.ret1 rfl rfl ?_
  exact fun w hw => St.retP (by first | rfl | exact iv (by first | rfl | omega)) hw
set_option maxRecDepth 100000 in
set_option maxHeartbeats 1000000 in
theorem mitresAt2_ok (b : B3) (a : Int) (b_0 : Nat) (w : World) (hb_0 : RdB w b_0 [.int .i64 a]) : Does Tryz.prog 179 [B3.v b, .pointer (some ⟨b_0, 0, none⟩)] w [] (fun r => [.pur (r = .bool (decide (has b a)))]) := by
  refine Does.enter Tryz.func179 rfl rfl [(0, B3.v b), (1, .pointer (some ⟨b_0, 0, none⟩))] rfl ?_
  refine V.seq ?_
  refine V.region ?_
  refine O.e rfl rfl rfl (Ef.box rfl rfl rfl) ?_
  rintro _ _ ⟨b1, rfl, rfl⟩
  refine O.p rfl rfl rfl (Pu.assign rfl rfl) ?_
  refine O.nil ?_
  refine X.next ?_
  refine V.seq ?_
  refine V.region ?_
  refine O.p rfl rfl rfl (Pu.loadAgg' (v := B3.v b) rfl rfl ag51 sz51 rfl rfl (Ld.whole 0 rfl)) ?_
  refine O.p rfl rfl rfl (Pu.load rfl pl2 rfl (Ld.rdb hb_0 rfl)) ?_
  refine O.e rfl rfl rfl (Ef.callP call85 rfl rfl (fun w hw => has_ok b _ w)) ?_
  rintro _ _ ⟨rfl, rfl⟩
  refine O.p rfl rfl rfl (Pu.assign rfl rfl) ?_
  refine O.nil ?_
  refine X.next ?_
  refine V.ret ?_
  refine X.ret1 rfl rfl ?_
  exact fun w hw => St.retP (boolD (Iff.rfl)) hw
set_option maxRecDepth 100000 in
set_option maxHeartbeats 1000000 in
theorem mitresAt_ok (v : Int) (bs : List B3) (out : List (Sl × List Int)) (a : Int) (A : Option Addr) (c : Nat) (outA : Option Addr) (outc : Nat) (w0 : World) (H : List Assn) (hx : ∀ w, St w0 H w → Rd B3C w A bs) (lx : bs.length ≤ 4611686018427387904) (hS : STS v bs) (ha : 0 ≤ a ∧ a < 15) (lo : out.length ≤ 100000000) : Does Tryz.prog 86 [.agg #[.int .i64 v, .slice A bs.length c], .slice outA (tops out).length outc, .int .i64 a] w0 (Own 34 SlC outA outc (tops out) :: RowsA 2 I64 out :: H) (fun rv_ => [.exi fun (rA : Option Addr) => .exi fun (rc : Nat) => .exi fun (r : List (Sl × List Int)) => .sep (.pur (rv_ = .slice rA (tops r).length rc ∧ conts r = conts out ++ mitI bs a ∧ r.length ≤ out.length + 200000)) (.sep (Own 34 SlC rA rc (tops r)) (RowsA 2 I64 r))] ++ H) := by
  refine Does.enter Tryz.func86 rfl rfl [(0, .agg #[.int .i64 v, .slice A bs.length c]), (1, .slice outA (tops out).length outc), (2, .int .i64 a)] rfl ?_
  have hfew := hS.few
  refine V.seq ?_
  refine V.region ?_
  refine O.e rfl rfl rfl (Ef.box rfl rfl rfl) ?_
  rintro _ _ ⟨b1, rfl, rfl⟩
  refine O.e rfl rfl rfl (Ef.box rfl rfl rfl) ?_
  rintro _ _ ⟨b2, rfl, rfl⟩
  refine O.p rfl rfl rfl (Pu.assign rfl rfl) ?_
  refine O.nil ?_
  refine X.next ?_
  refine V.seq ?_
  refine V.region ?_
  refine O.p rfl rfl rfl (Pu.makeFunc rfl rfl) ?_
  refine O.p rfl rfl rfl (Pu.assign rfl rfl) ?_
  refine O.nil ?_
  refine X.next ?_
  refine V.seq ?_
  refine V.region ?_
  refine O.p rfl rfl rfl (Pu.loadAgg rfl ag26 sz26 rfl rfl (Ld.whole 1 rfl)) ?_
  refine O.p rfl rfl rfl (Pu.makeFunc rfl rfl) ?_
  refine O.e rfl rfl rfl (Ef.call1 call178 rfl rfl (fun w hw => numbersOf_ok  v bs (fun c => has c a) (179) _ _ _ w ((fun w hw => hx w (hw.sub (Sub.drop (Sub.drop (Sub.drop (Sub.drop (Sub.refl _))))))) w hw) (by first | omega | (simp only [tops_len, conts_len, bl, List.length_append, List.length_cons, List.length_nil] at *; omega)) (call179) (by omega) (fun k hk w' hb => mitresAt2_ok _ a _ w' ((Blk.rdb hw (i := 0) rfl).below hb)))) ?_
  rintro _ _ rfl
  refine O.exi (fun r1A => ?_)
  refine O.exi (fun r1c => ?_)
  refine O.exi (fun r1 => ?_)
  refine O.sep ?_
  refine O.pur ?_
  rintro ⟨rfl, hr1_1⟩
  have hlat : r1.length ≤ 35 := by rw [hr1_1]; exact Nat.le_trans numsAt_len (by omega)
  have har : r1 = atL bs a := hr1_1
  refine O.p rfl rfl rfl (Pu.assign rfl rfl) ?_
  refine O.nil ?_
  refine X.next ?_
  refine V.seq ?_
  refine V.seq ?_
  refine V.region ?_
  refine O.p rfl rfl rfl (Pu.move rfl rfl) ?_
  refine O.p rfl rfl rfl (Pu.len rfl Tryz.underlying34 rfl) ?_
  refine O.p rfl rfl rfl (Pu.move rfl rfl) ?_
  refine O.nil ?_
  refine X.next ?_
  refine V.block ?_
  refine V.loop3 (β := (Option Addr) × Nat × (List (Sl × List Int)) × Nat) (fun x => [(1, .slice x.1 (tops x.2.2.1).length x.2.1), (32, .int .i64 (x.2.2.2 : Int))]) _ (fun x => [Own 34 SlC x.1 x.2.1 (tops x.2.2.1), RowsA 2 I64 x.2.2.1]) _ (fun x => x.2.2.2 ≤ r1.length ∧ conts x.2.2.1 = conts out ++ fmR (mt1 bs a r1) x.2.2.2 ∧ x.2.2.1.length ≤ out.length + x.2.2.2 * 4900) (fun x => r1.length - x.2.2.2) (outA, outc, out, 0) (by (try dsimp only); exact ⟨by omega, by simp [fmR_zero], by omega⟩) (Ent.cons rfl (Ent.cons rfl (Ent.nil _))) (Ent.cons (t := 3) rfl (Ent.cons (t := 5) rfl (Ent.cons (t := 7) rfl (Ent.cons (t := 8) rfl (Ent.cons (t := 30) rfl (Ent.cons (t := 31) rfl (Ent.nil _))))))) (Sub.keep 3 rfl (Sub.keep 3 rfl (Sub.keep 0 rfl (Sub.keep 0 rfl (Sub.keep 0 rfl (Sub.refl _)))))) ?_
  rintro ⟨o1A, o1c, o1, i⟩ ⟨hi, q1, b1⟩
  dsimp only at hi q1 b1 ⊢
  refine V.fact (RowsA.len 1 rfl) (fun hn_o1 => ?_)
  have htl_o1 := tops_len o1
  refine V.seq ?_
  refine V.region ?_
  refine O.p rfl rfl rfl (Pu.lss rfl rfl rfl) ?_
  refine O.nil ?_
  refine X.next ?_
  refine V.seq ?_
  refine V.condD rfl (fun c1 => ?_) (fun c1 => ?_)
  · skip
    refine V.skip ?_
    refine X.next ?_
    refine V.seq ?_
    refine V.block ?_
    refine V.seq ?_
    refine V.region ?_
    refine O.p rfl rfl rfl (Pu.move rfl rfl) ?_
    refine O.p rfl rfl rfl (Pu.indexAddrS (i) rfl Tryz.underlying34 sz2 rfl rfl (by omega) (by omega) (fun w hw => Own.some hw (i := 2) (by exact rfl) (by omega))) ?_
    have e1 : i < r1.length := by omega
    refine O.p rfl rfl rfl (Pu.load rfl pl2 rfl (Ld.rd (Ld.own 2 (by exact rfl)) (k := i) e1 rfl rfl)) ?_
    refine O.p rfl rfl rfl (Pu.assign rfl rfl) ?_
    refine O.p rfl rfl rfl (Pu.assign rfl rfl) ?_
    refine O.nil ?_
    refine X.next ?_
    refine V.seq ?_
    refine V.fact (fun w hw => Own.cap hw (i := 2) rfl) (fun hcap => ?_)
    refine V.region ?_
    refine O.p rfl rfl rfl (Pu.move rfl rfl) ?_
    refine O.p rfl rfl rfl (Pu.move rfl rfl) ?_
    refine O.p rfl rfl rfl (Pu.add64 (r := ((i + 1 : Nat) : Int)) rfl (by omega) rfl rfl rfl) ?_
    refine O.p rfl rfl rfl (Pu.sliceL (i + 1) rfl Tryz.underlying34 sz2 rfl rfl (by omega) (by omega)) ?_
    refine O.p rfl rfl rfl (Pu.len rfl Tryz.underlying34 rfl) ?_
    refine O.p rfl rfl rfl (Pu.move rfl rfl) ?_
    refine O.nil ?_
    refine X.next ?_
    refine V.block ?_
    refine V.loop3 (β := (Option Addr) × Nat × (List (Sl × List Int)) × Nat) (fun x => [(1, .slice x.1 (tops x.2.2.1).length x.2.1), (42, .int .i64 (x.2.2.2 : Int))]) _ (fun x => [Own 34 SlC x.1 x.2.1 (tops x.2.2.1), RowsA 2 I64 x.2.2.1]) _ (fun x => x.2.2.2 ≤ r1.length - (i + 1) ∧ conts x.2.2.1 = conts o1 ++ fmR (mt2 bs a r1 i) x.2.2.2 ∧ x.2.2.1.length ≤ out.length + i * 4900 + x.2.2.2 * 140) (fun x => r1.length - x.2.2.2) (o1A, o1c, o1, 0) (by (try dsimp only); exact ⟨by omega, by simp [fmR_zero], by omega⟩) (Ent.cons rfl (Ent.cons rfl (Ent.nil _))) (Ent.cons (t := 3) rfl (Ent.cons (t := 5) rfl (Ent.cons (t := 7) rfl (Ent.cons (t := 8) rfl (Ent.cons (t := 9) rfl (Ent.cons (t := 10) rfl (Ent.cons (t := 30) rfl (Ent.cons (t := 31) rfl (Ent.cons (t := 32) rfl (Ent.cons (t := 40) rfl (Ent.cons (t := 41) rfl (Ent.nil _)))))))))))) (Sub.keep 0 rfl (Sub.keep 0 rfl (Sub.keep 0 rfl (Sub.keep 0 rfl (Sub.keep 0 rfl (Sub.refl _)))))) ?_
    rintro ⟨o2A, o2c, o2, j⟩ ⟨hj, q2, b2⟩
    dsimp only at hj q2 b2 ⊢
    have hd1 : (r1.drop (i + 1)).length = r1.length - (i + 1) := List.length_drop
    refine V.fact (RowsA.len 1 rfl) (fun hn_o2 => ?_)
    have htl_o2 := tops_len o2
    refine V.seq ?_
    refine V.region ?_
    refine O.p rfl rfl rfl (Pu.lss rfl rfl rfl) ?_
    refine O.nil ?_
    refine X.next ?_
    refine V.seq ?_
    refine V.condD rfl (fun c2 => ?_) (fun c2 => ?_)
    · skip
      refine V.skip ?_
      refine X.next ?_
      refine V.seq ?_
      refine V.block ?_
      refine V.seq ?_
      refine V.region ?_
      refine O.p rfl rfl rfl (Pu.move rfl rfl) ?_
      refine O.p rfl rfl rfl (Pu.indexAddrS (j) rfl Tryz.underlying34 sz2 rfl rfl (by omega) (by omega) (fun w hw => ((Ld.dropK (C := I64) (s := 1) (k := i + 1) (Ld.own 2 (by exact rfl)) rfl hcap) w hw).some (by omega))) ?_
      have e2 : j < (r1.drop (i + 1)).length := by omega
      refine O.p rfl rfl rfl (Pu.load rfl pl2 rfl (Ld.rd (Ld.dropK (C := I64) (s := 1) (k := i + 1) (Ld.own 2 (by exact rfl)) rfl hcap) (k := j) e2 rfl rfl)) ?_
      refine O.p rfl rfl rfl (Pu.assign rfl rfl) ?_
      refine O.p rfl rfl rfl (Pu.assign rfl rfl) ?_
      refine O.nil ?_
      refine X.next ?_
      refine V.seq ?_
      refine V.region ?_
      refine O.p rfl rfl rfl (Pu.move rfl rfl) ?_
      refine O.p rfl rfl rfl (Pu.move rfl rfl) ?_
      refine O.p rfl rfl rfl (Pu.move rfl rfl) ?_
      refine O.p rfl rfl rfl (Pu.add64 (r := ((i + j : Nat) : Int)) (by omega) (by omega) rfl rfl rfl) ?_
      refine O.p rfl rfl rfl (Pu.add64 (r := ((i + j + 2 : Nat) : Int)) rfl (by omega) rfl rfl rfl) ?_
      refine O.p rfl rfl rfl (Pu.sliceL (i + j + 2) rfl Tryz.underlying34 sz2 rfl rfl (by omega) (by omega)) ?_
      refine O.p rfl rfl rfl (Pu.len rfl Tryz.underlying34 rfl) ?_
      refine O.p rfl rfl rfl (Pu.move rfl rfl) ?_
      refine O.nil ?_
      refine X.next ?_
      refine V.block ?_
      refine V.loop3 (β := (Option Addr) × Nat × (List (Sl × List Int)) × Nat) (fun x => [(1, .slice x.1 (tops x.2.2.1).length x.2.1), (54, .int .i64 (x.2.2.2 : Int))]) _ (fun x => [Own 34 SlC x.1 x.2.1 (tops x.2.2.1), RowsA 2 I64 x.2.2.1]) _ (fun x => x.2.2.2 ≤ r1.length - (i + j + 2) ∧ conts x.2.2.1 = conts o2 ++ fmR (mt3 bs a r1 i j) x.2.2.2 ∧ x.2.2.1.length ≤ out.length + i * 4900 + j * 140 + x.2.2.2 * 4) (fun x => r1.length - x.2.2.2) (o2A, o2c, o2, 0) (by (try dsimp only); exact ⟨by omega, by simp [fmR_zero], by omega⟩) (Ent.cons rfl (Ent.cons rfl (Ent.nil _))) (Ent.cons (t := 3) rfl (Ent.cons (t := 5) rfl (Ent.cons (t := 7) rfl (Ent.cons (t := 8) rfl (Ent.cons (t := 9) rfl (Ent.cons (t := 10) rfl (Ent.cons (t := 12) rfl (Ent.cons (t := 30) rfl (Ent.cons (t := 31) rfl (Ent.cons (t := 32) rfl (Ent.cons (t := 40) rfl (Ent.cons (t := 41) rfl (Ent.cons (t := 42) rfl (Ent.cons (t := 52) rfl (Ent.cons (t := 53) rfl (Ent.nil _)))))))))))))))) (Sub.keep 0 rfl (Sub.keep 0 rfl (Sub.keep 0 rfl (Sub.keep 0 rfl (Sub.keep 0 rfl (Sub.refl _)))))) ?_
      rintro ⟨o3A, o3c, o3, k⟩ ⟨hk, q3, b3⟩
      dsimp only at hk q3 b3 ⊢
      have hd2 : (r1.drop (i + j + 2)).length = r1.length - (i + j + 2) := List.length_drop
      refine V.fact (RowsA.len 1 rfl) (fun hn_o3 => ?_)
      have htl_o3 := tops_len o3
      refine V.seq ?_
      refine V.region ?_
      refine O.p rfl rfl rfl (Pu.lss rfl rfl rfl) ?_
      refine O.nil ?_
      refine X.next ?_
      refine V.seq ?_
      refine V.condD rfl (fun c3 => ?_) (fun c3 => ?_)
      · skip
        refine V.skip ?_
        refine X.next ?_
        refine V.seq ?_
        refine V.block ?_
        refine V.seq ?_
        refine V.region ?_
        refine O.p rfl rfl rfl (Pu.indexAddrS (k) rfl Tryz.underlying34 sz2 rfl rfl (by omega) (by omega) (fun w hw => ((Ld.dropK (C := I64) (s := 1) (k := i + j + 2) (Ld.own 2 (by exact rfl)) rfl hcap) w hw).some (by omega))) ?_
        have e3 : k < (r1.drop (i + j + 2)).length := by omega
        refine O.p rfl rfl rfl (Pu.load rfl pl2 rfl (Ld.rd (Ld.dropK (C := I64) (s := 1) (k := i + j + 2) (Ld.own 2 (by exact rfl)) rfl hcap) (k := k) e3 rfl rfl)) ?_
        refine O.p rfl rfl rfl (Pu.assign rfl rfl) ?_
        refine O.nil ?_
        refine X.next ?_
        refine V.seq ?_
        obtain ⟨x1, hx1, ex1, gx1⟩ := atL_get (bs := bs) (a := a) (i := i) (by rw [← har]; omega)
        rw [← har, getD_at (by omega)] at ex1
        obtain ⟨x2, hx2, ex2, gx2⟩ := atL_get (bs := bs) (a := a) (i := i + 1 + j) (by rw [← har]; omega)
        rw [← har] at ex2
        have d2 : (r1.drop (i + 1))[j]'e2 = r1.getD (i + 1 + j) 0 := by rw [getD_at (by omega), List.getElem_drop]
        rw [← d2] at ex2
        obtain ⟨x3, hx3, ex3, gx3⟩ := atL_get (bs := bs) (a := a) (i := i + j + 2 + k) (by rw [← har]; omega)
        rw [← har] at ex3
        have d3 : (r1.drop (i + j + 2))[k]'e3 = r1.getD (i + j + 2 + k) 0 := by rw [getD_at (by omega), List.getElem_drop]
        rw [← d3] at ex3
        refine V.draw mo (by kernel_rfl) (fun hwf => ?_)
        refine D.p 0 rfl rfl rfl rfl rfl rfl (Pu.fieldAddr 1 rfl Tryz.underlying26 rfl sz24 rfl rfl) ?_
        refine D.p 1 rfl rfl rfl rfl rfl rfl (Pu.load rfl pl24 rfl (Ld.blk 4 rfl rfl)) ?_
        refine D.p 2 rfl rfl rfl rfl rfl rfl (Pu.move rfl rfl) ?_
        refine D.p 3 rfl rfl rfl rfl rfl rfl (Pu.indexAddrS (((r1[i]'e1)).toNat) rfl Tryz.underlying24 sz51 rfl rfl (by omega) (by omega) (fun w hw => ((fun w hw => hx w (hw.sub (Sub.drop (Sub.drop (Sub.drop (Sub.drop (Sub.drop (Sub.refl _)))))))) w hw).some (by omega))) ?_
        have e4 : ((r1[i]'e1)).toNat < bs.length := by omega
        refine D.p 4 rfl rfl rfl rfl rfl rfl (Pu.loadAgg' (v := B3.v (bs[((r1[i]'e1)).toNat]'e4)) rfl rfl ag51 sz51 rfl rfl (Ld.rds (fun w hw => hx w (hw.sub (Sub.drop (Sub.drop (Sub.drop (Sub.drop (Sub.drop (Sub.refl _)))))))) (k := ((r1[i]'e1)).toNat) e4 rfl)) ?_
        refine D.p 5 rfl rfl rfl rfl rfl rfl (Pu.load rfl pl2 rfl (Ld.blk 3 rfl rfl)) ?_
        refine D.eff hwf (e := 6) rfl rfl rfl rfl (Ef.callP call180 rfl rfl (fun w hw => others_ok  (bs[((r1[i]'e1)).toNat]'e4) a w   )) rfl rfl rfl ?_
        rintro _ _ ⟨rfl, rfl⟩ hs
        refine ⟨fun w hw => hw, ?_⟩
        refine D.p 7 rfl rfl rfl rfl rfl rfl (Pu.move rfl rfl) ?_
        refine D.p 8 rfl rfl rfl rfl rfl rfl (Pu.extract rfl rfl rfl) ?_
        refine D.p 9 rfl rfl rfl rfl rfl rfl (Pu.extract rfl rfl rfl) ?_
        refine D.p 10 rfl rfl rfl rfl rfl rfl (Pu.assign rfl rfl) ?_
        refine D.p 11 rfl rfl rfl rfl rfl rfl (Pu.assign rfl rfl) ?_
        refine D.done hwf rfl ?_
        refine X.next ?_
        refine V.seq ?_
        refine V.draw mo (by kernel_rfl) (fun hwf => ?_)
        refine D.p 0 rfl rfl rfl rfl rfl rfl (Pu.fieldAddr 1 rfl Tryz.underlying26 rfl sz24 rfl rfl) ?_
        refine D.p 1 rfl rfl rfl rfl rfl rfl (Pu.load rfl pl24 rfl (Ld.blk 4 rfl rfl)) ?_
        refine D.p 2 rfl rfl rfl rfl rfl rfl (Pu.move rfl rfl) ?_
        refine D.p 3 rfl rfl rfl rfl rfl rfl (Pu.indexAddrS ((((r1.drop (i + 1))[j]'e2)).toNat) rfl Tryz.underlying24 sz51 rfl rfl (by omega) (by omega) (fun w hw => ((fun w hw => hx w (hw.sub (Sub.drop (Sub.drop (Sub.drop (Sub.drop (Sub.drop (Sub.refl _)))))))) w hw).some (by omega))) ?_
        have e5 : (((r1.drop (i + 1))[j]'e2)).toNat < bs.length := by omega
        refine D.p 4 rfl rfl rfl rfl rfl rfl (Pu.loadAgg' (v := B3.v (bs[(((r1.drop (i + 1))[j]'e2)).toNat]'e5)) rfl rfl ag51 sz51 rfl rfl (Ld.rds (fun w hw => hx w (hw.sub (Sub.drop (Sub.drop (Sub.drop (Sub.drop (Sub.drop (Sub.refl _)))))))) (k := (((r1.drop (i + 1))[j]'e2)).toNat) e5 rfl)) ?_
        refine D.p 5 rfl rfl rfl rfl rfl rfl (Pu.load rfl pl2 rfl (Ld.blk 3 rfl rfl)) ?_
        refine D.eff hwf (e := 6) rfl rfl rfl rfl (Ef.callP call180 rfl rfl (fun w hw => others_ok  (bs[(((r1.drop (i + 1))[j]'e2)).toNat]'e5) a w   )) rfl rfl rfl ?_
        rintro _ _ ⟨rfl, rfl⟩ hs
        refine ⟨fun w hw => hw, ?_⟩
        refine D.p 7 rfl rfl rfl rfl rfl rfl (Pu.move rfl rfl) ?_
        refine D.p 8 rfl rfl rfl rfl rfl rfl (Pu.extract rfl rfl rfl) ?_
        refine D.p 9 rfl rfl rfl rfl rfl rfl (Pu.extract rfl rfl rfl) ?_
        refine D.p 10 rfl rfl rfl rfl rfl rfl (Pu.assign rfl rfl) ?_
        refine D.p 11 rfl rfl rfl rfl rfl rfl (Pu.assign rfl rfl) ?_
        refine D.done hwf rfl ?_
        refine X.next ?_
        refine V.seq ?_
        refine V.draw mo (by kernel_rfl) (fun hwf => ?_)
        refine D.p 0 rfl rfl rfl rfl rfl rfl (Pu.fieldAddr 1 rfl Tryz.underlying26 rfl sz24 rfl rfl) ?_
        refine D.p 1 rfl rfl rfl rfl rfl rfl (Pu.load rfl pl24 rfl (Ld.blk 4 rfl rfl)) ?_
        refine D.p 2 rfl rfl rfl rfl rfl rfl (Pu.move rfl rfl) ?_
        refine D.p 3 rfl rfl rfl rfl rfl rfl (Pu.indexAddrS ((((r1.drop (i + j + 2))[k]'e3)).toNat) rfl Tryz.underlying24 sz51 rfl rfl (by omega) (by omega) (fun w hw => ((fun w hw => hx w (hw.sub (Sub.drop (Sub.drop (Sub.drop (Sub.drop (Sub.drop (Sub.refl _)))))))) w hw).some (by omega))) ?_
        have e6 : (((r1.drop (i + j + 2))[k]'e3)).toNat < bs.length := by omega
        refine D.p 4 rfl rfl rfl rfl rfl rfl (Pu.loadAgg' (v := B3.v (bs[(((r1.drop (i + j + 2))[k]'e3)).toNat]'e6)) rfl rfl ag51 sz51 rfl rfl (Ld.rds (fun w hw => hx w (hw.sub (Sub.drop (Sub.drop (Sub.drop (Sub.drop (Sub.drop (Sub.refl _)))))))) (k := (((r1.drop (i + j + 2))[k]'e3)).toNat) e6 rfl)) ?_
        refine D.p 5 rfl rfl rfl rfl rfl rfl (Pu.load rfl pl2 rfl (Ld.blk 3 rfl rfl)) ?_
        refine D.eff hwf (e := 6) rfl rfl rfl rfl (Ef.callP call180 rfl rfl (fun w hw => others_ok  (bs[(((r1.drop (i + j + 2))[k]'e3)).toNat]'e6) a w   )) rfl rfl rfl ?_
        rintro _ _ ⟨rfl, rfl⟩ hs
        refine ⟨fun w hw => hw, ?_⟩
        refine D.p 7 rfl rfl rfl rfl rfl rfl (Pu.move rfl rfl) ?_
        refine D.p 8 rfl rfl rfl rfl rfl rfl (Pu.extract rfl rfl rfl) ?_
        refine D.p 9 rfl rfl rfl rfl rfl rfl (Pu.extract rfl rfl rfl) ?_
        refine D.p 10 rfl rfl rfl rfl rfl rfl (Pu.assign rfl rfl) ?_
        refine D.p 11 rfl rfl rfl rfl rfl rfl (Pu.assign rfl rfl) ?_
        refine D.done hwf rfl ?_
        refine X.next ?_
        refine V.seq ?_
        dsimp only [List.getElem_toArray, List.getElem_cons_zero, List.getElem_cons_succ]
        refine V.region ?_
        refine O.p rfl rfl rfl (Pu.move rfl rfl) ?_
        refine O.p rfl rfl rfl (Pu.move rfl rfl) ?_
        refine O.p rfl rfl rfl (Pu.move rfl rfl) ?_
        refine O.p rfl rfl rfl (Pu.move rfl rfl) ?_
        refine O.p rfl rfl rfl (Pu.buildA (cs := [.int .i64 (oth1 (bs[(((r1.drop (i + 1))[j]'e2)).toNat]'e5) a), .int .i64 (oth2 (bs[(((r1.drop (i + 1))[j]'e2)).toNat]'e5) a), .int .i64 (oth1 (bs[(((r1.drop (i + j + 2))[k]'e3)).toNat]'e6) a), .int .i64 (oth2 (bs[(((r1.drop (i + j + 2))[k]'e3)).toNat]'e6) a)]) (v := P4v (((oth1 (bs[(((r1.drop (i + 1))[j]'e2)).toNat]'e5) a), (oth2 (bs[(((r1.drop (i + 1))[j]'e2)).toNat]'e5) a), (oth1 (bs[(((r1.drop (i + j + 2))[k]'e3)).toNat]'e6) a), (oth2 (bs[(((r1.drop (i + j + 2))[k]'e3)).toNat]'e6) a)) : W4)) rfl rfl Tryz.underlying149 zr149 sz2 rfl (by kernel_rfl)) ?_
        refine O.p rfl rfl rfl (Pu.move rfl rfl) ?_
        refine O.p rfl rfl rfl (Pu.move rfl rfl) ?_
        refine O.p rfl rfl rfl (Pu.move rfl rfl) ?_
        refine O.p rfl rfl rfl (Pu.move rfl rfl) ?_
        refine O.p rfl rfl rfl (Pu.buildA (cs := [.int .i64 (oth1 (bs[(((r1.drop (i + 1))[j]'e2)).toNat]'e5) a), .int .i64 (oth2 (bs[(((r1.drop (i + 1))[j]'e2)).toNat]'e5) a), .int .i64 (oth2 (bs[(((r1.drop (i + j + 2))[k]'e3)).toNat]'e6) a), .int .i64 (oth1 (bs[(((r1.drop (i + j + 2))[k]'e3)).toNat]'e6) a)]) (v := P4v (((oth1 (bs[(((r1.drop (i + 1))[j]'e2)).toNat]'e5) a), (oth2 (bs[(((r1.drop (i + 1))[j]'e2)).toNat]'e5) a), (oth2 (bs[(((r1.drop (i + j + 2))[k]'e3)).toNat]'e6) a), (oth1 (bs[(((r1.drop (i + j + 2))[k]'e3)).toNat]'e6) a)) : W4)) rfl rfl Tryz.underlying149 zr149 sz2 rfl (by kernel_rfl)) ?_
        refine O.p rfl rfl rfl (Pu.move rfl rfl) ?_
        refine O.p rfl rfl rfl (Pu.move rfl rfl) ?_
        refine O.p rfl rfl rfl (Pu.move rfl rfl) ?_
        refine O.p rfl rfl rfl (Pu.move rfl rfl) ?_
        refine O.p rfl rfl rfl (Pu.buildA (cs := [.int .i64 (oth2 (bs[(((r1.drop (i + 1))[j]'e2)).toNat]'e5) a), .int .i64 (oth1 (bs[(((r1.drop (i + 1))[j]'e2)).toNat]'e5) a), .int .i64 (oth1 (bs[(((r1.drop (i + j + 2))[k]'e3)).toNat]'e6) a), .int .i64 (oth2 (bs[(((r1.drop (i + j + 2))[k]'e3)).toNat]'e6) a)]) (v := P4v (((oth2 (bs[(((r1.drop (i + 1))[j]'e2)).toNat]'e5) a), (oth1 (bs[(((r1.drop (i + 1))[j]'e2)).toNat]'e5) a), (oth1 (bs[(((r1.drop (i + j + 2))[k]'e3)).toNat]'e6) a), (oth2 (bs[(((r1.drop (i + j + 2))[k]'e3)).toNat]'e6) a)) : W4)) rfl rfl Tryz.underlying149 zr149 sz2 rfl (by kernel_rfl)) ?_
        refine O.p rfl rfl rfl (Pu.move rfl rfl) ?_
        refine O.p rfl rfl rfl (Pu.move rfl rfl) ?_
        refine O.p rfl rfl rfl (Pu.move rfl rfl) ?_
        refine O.p rfl rfl rfl (Pu.move rfl rfl) ?_
        refine O.p rfl rfl rfl (Pu.buildA (cs := [.int .i64 (oth2 (bs[(((r1.drop (i + 1))[j]'e2)).toNat]'e5) a), .int .i64 (oth1 (bs[(((r1.drop (i + 1))[j]'e2)).toNat]'e5) a), .int .i64 (oth2 (bs[(((r1.drop (i + j + 2))[k]'e3)).toNat]'e6) a), .int .i64 (oth1 (bs[(((r1.drop (i + j + 2))[k]'e3)).toNat]'e6) a)]) (v := P4v (((oth2 (bs[(((r1.drop (i + 1))[j]'e2)).toNat]'e5) a), (oth1 (bs[(((r1.drop (i + 1))[j]'e2)).toNat]'e5) a), (oth2 (bs[(((r1.drop (i + j + 2))[k]'e3)).toNat]'e6) a), (oth1 (bs[(((r1.drop (i + j + 2))[k]'e3)).toNat]'e6) a)) : W4)) rfl rfl Tryz.underlying149 zr149 sz2 rfl (by kernel_rfl)) ?_
        refine O.e rfl rfl rfl (Ef.build P4C ([(((oth1 (bs[(((r1.drop (i + 1))[j]'e2)).toNat]'e5) a), (oth2 (bs[(((r1.drop (i + 1))[j]'e2)).toNat]'e5) a), (oth1 (bs[(((r1.drop (i + j + 2))[k]'e3)).toNat]'e6) a), (oth2 (bs[(((r1.drop (i + j + 2))[k]'e3)).toNat]'e6) a)) : W4), (((oth1 (bs[(((r1.drop (i + 1))[j]'e2)).toNat]'e5) a), (oth2 (bs[(((r1.drop (i + 1))[j]'e2)).toNat]'e5) a), (oth2 (bs[(((r1.drop (i + j + 2))[k]'e3)).toNat]'e6) a), (oth1 (bs[(((r1.drop (i + j + 2))[k]'e3)).toNat]'e6) a)) : W4), (((oth2 (bs[(((r1.drop (i + 1))[j]'e2)).toNat]'e5) a), (oth1 (bs[(((r1.drop (i + 1))[j]'e2)).toNat]'e5) a), (oth1 (bs[(((r1.drop (i + j + 2))[k]'e3)).toNat]'e6) a), (oth2 (bs[(((r1.drop (i + j + 2))[k]'e3)).toNat]'e6) a)) : W4), (((oth2 (bs[(((r1.drop (i + 1))[j]'e2)).toNat]'e5) a), (oth1 (bs[(((r1.drop (i + 1))[j]'e2)).toNat]'e5) a), (oth2 (bs[(((r1.drop (i + j + 2))[k]'e3)).toNat]'e6) a), (oth1 (bs[(((r1.drop (i + j + 2))[k]'e3)).toNat]'e6) a)) : W4)] : List W4) rfl Tryz.underlying150 inf149 rfl rfl rfl (by first | decide | (simp; done)) (by kernel_rfl)) ?_
        rintro _ _ ⟨A1, hA1, rfl, rfl⟩
        have hb1 : blk bs (r1.getD i 0) = bs[((r1[i]'e1)).toNat]'e4 := by rw [getD_at e1]; exact blk_at e4
        have hb2 : blk bs (r1.getD (i + 1 + j) 0) = bs[(((r1.drop (i + 1))[j]'e2)).toNat]'e5 := by rw [← d2]; exact blk_at e5
        have hb3 : blk bs (r1.getD (i + j + 2 + k) 0) = bs[(((r1.drop (i + j + 2))[k]'e3)).toNat]'e6 := by rw [← d3]; exact blk_at e6
        generalize hws : ([(((oth1 (bs[(((r1.drop (i + 1))[j]'e2)).toNat]'e5) a), (oth2 (bs[(((r1.drop (i + 1))[j]'e2)).toNat]'e5) a), (oth1 (bs[(((r1.drop (i + j + 2))[k]'e3)).toNat]'e6) a), (oth2 (bs[(((r1.drop (i + j + 2))[k]'e3)).toNat]'e6) a)) : W4), (((oth1 (bs[(((r1.drop (i + 1))[j]'e2)).toNat]'e5) a), (oth2 (bs[(((r1.drop (i + 1))[j]'e2)).toNat]'e5) a), (oth2 (bs[(((r1.drop (i + j + 2))[k]'e3)).toNat]'e6) a), (oth1 (bs[(((r1.drop (i + j + 2))[k]'e3)).toNat]'e6) a)) : W4), (((oth2 (bs[(((r1.drop (i + 1))[j]'e2)).toNat]'e5) a), (oth1 (bs[(((r1.drop (i + 1))[j]'e2)).toNat]'e5) a), (oth1 (bs[(((r1.drop (i + j + 2))[k]'e3)).toNat]'e6) a), (oth2 (bs[(((r1.drop (i + j + 2))[k]'e3)).toNat]'e6) a)) : W4), (((oth2 (bs[(((r1.drop (i + 1))[j]'e2)).toNat]'e5) a), (oth1 (bs[(((r1.drop (i + 1))[j]'e2)).toNat]'e5) a), (oth2 (bs[(((r1.drop (i + j + 2))[k]'e3)).toNat]'e6) a), (oth1 (bs[(((r1.drop (i + j + 2))[k]'e3)).toNat]'e6) a)) : W4)] : List W4) = ws
        have hwl : ws.length = 4 := by rw [← hws]; rfl
        have hww : ws = wayL (oth1 (blk bs (r1.getD (i + 1 + j) 0)) a) (oth2 (blk bs (r1.getD (i + 1 + j) 0)) a) (oth1 (blk bs (r1.getD (i + j + 2 + k) 0)) a) (oth2 (blk bs (r1.getD (i + j + 2 + k) 0)) a) := by rw [← hws, hb2, hb3]; rfl
        refine O.p rfl rfl rfl (Pu.len rfl Tryz.underlying150 rfl) ?_
        refine O.p rfl rfl rfl (Pu.move rfl rfl) ?_
        refine O.nil ?_
        refine X.next ?_
        refine V.block ?_
        refine V.loop3 (β := (Option Addr) × Nat × (List (Sl × List Int)) × Nat) (fun x => [(1, .slice x.1 (tops x.2.2.1).length x.2.1), (110, .int .i64 (x.2.2.2 : Int))]) _ (fun x => [Own 34 SlC x.1 x.2.1 (tops x.2.2.1), RowsA 2 I64 x.2.2.1]) _ (fun x => x.2.2.2 ≤ 4 ∧ conts x.2.2.1 = conts o3 ++ (ws.take x.2.2.2).flatMap (ent bs (r1.getD i 0) (r1.getD (i + 1 + j) 0) (r1.getD (i + j + 2 + k) 0) (oth1 (blk bs (r1.getD i 0)) a) (oth2 (blk bs (r1.getD i 0)) a)) ∧ x.2.2.1.length ≤ out.length + i * 4900 + j * 140 + k * 4 + x.2.2.2) (fun x => 4 - x.2.2.2) (o3A, o3c, o3, 0) (by (try dsimp only); exact ⟨by omega, by simp, by omega⟩) (Ent.cons rfl (Ent.cons rfl (Ent.nil _))) (Ent.cons (t := 3) rfl (Ent.cons (t := 5) rfl (Ent.cons (t := 7) rfl (Ent.cons (t := 8) rfl (Ent.cons (t := 9) rfl (Ent.cons (t := 10) rfl (Ent.cons (t := 12) rfl (Ent.cons (t := 14) rfl (Ent.cons (t := 15) rfl (Ent.cons (t := 16) rfl (Ent.cons (t := 30) rfl (Ent.cons (t := 31) rfl (Ent.cons (t := 32) rfl (Ent.cons (t := 40) rfl (Ent.cons (t := 41) rfl (Ent.cons (t := 42) rfl (Ent.cons (t := 52) rfl (Ent.cons (t := 53) rfl (Ent.cons (t := 54) rfl (Ent.cons (t := 108) rfl (Ent.cons (t := 109) rfl (Ent.nil _)))))))))))))))))))))) (Sub.keep 1 rfl (Sub.keep 1 rfl (Sub.keep 0 rfl (Sub.keep 0 rfl (Sub.keep 0 rfl (Sub.keep 0 rfl (Sub.refl _))))))) ?_
        rintro ⟨o4A, o4c, o4, u⟩ ⟨hu, q4, b4⟩
        dsimp only at hu q4 b4 ⊢
        refine V.fact (RowsA.len 1 rfl) (fun hn_o4 => ?_)
        have htl_o4 := tops_len o4
        refine V.seq ?_
        refine V.region ?_
        refine O.p rfl rfl rfl (Pu.lss rfl rfl rfl) ?_
        refine O.nil ?_
        refine X.next ?_
        refine V.seq ?_
        refine V.condD rfl (fun c4 => ?_) (fun c4 => ?_)
        · skip
          refine V.skip ?_
          refine X.next ?_
          refine V.seq ?_
          refine V.block ?_
          refine V.seq ?_
          refine V.region ?_
          refine O.p rfl rfl rfl (Pu.indexAddr (u) rfl Tryz.underlying150 sz149 rfl rfl (by omega) (by omega) hA1) ?_
          have e7 : u < ws.length := by omega
          refine O.p rfl rfl rfl (Pu.loadAgg' (v := P4v (ws[u]'e7)) rfl rfl ag149 sz149 rfl rfl (Ld.rds (C := P4C) (Ld.own 2 (by exact rfl)) (k := u) e7 rfl)) ?_
          refine O.e rfl rfl rfl (Ef.alloc rfl zr149 rfl) ?_
          rintro _ _ ⟨b3, rfl, rfl⟩
          refine O.s rfl rfl (Ef.storeAll 0 rfl sz149 rfl rfl rfl rfl (by simp [Value.oneCell']) rfl) ?_
          rintro _ _ rfl
          refine O.nil ?_
          refine X.next ?_
          refine V.seq ?_
          refine V.draw mo (by kernel_rfl) (fun hwf => ?_)
          refine D.p 0 rfl rfl rfl rfl rfl rfl (Pu.move rfl rfl) ?_
          refine D.p 1 rfl rfl rfl rfl rfl rfl (Pu.move rfl rfl) ?_
          refine D.p 2 rfl rfl rfl rfl rfl rfl (Pu.indexArr 0 0 rfl Tryz.underlying149 sz2 rfl rfl (by decide) (by decide) (by decide)) ?_
          refine D.p 3 rfl rfl rfl rfl rfl rfl (Pu.load rfl pl2 rfl (Ld.blk 0 rfl rfl)) ?_
          refine D.p 4 rfl rfl rfl rfl rfl rfl (Pu.indexArr 2 2 rfl Tryz.underlying149 sz2 rfl rfl (by decide) (by decide) (by decide)) ?_
          refine D.p 5 rfl rfl rfl rfl rfl rfl (Pu.load rfl pl2 rfl (Ld.blk 0 rfl rfl)) ?_
          refine D.p 8 rfl rfl rfl rfl rfl rfl (Pu.move rfl rfl) ?_
          refine D.p 9 rfl rfl rfl rfl rfl rfl (Pu.move rfl rfl) ?_
          refine D.p 10 rfl rfl rfl rfl rfl rfl (Pu.indexArr 1 1 rfl Tryz.underlying149 sz2 rfl rfl (by decide) (by decide) (by decide)) ?_
          refine D.p 11 rfl rfl rfl rfl rfl rfl (Pu.load rfl pl2 rfl (Ld.blk 0 rfl rfl)) ?_
          refine D.p 12 rfl rfl rfl rfl rfl rfl (Pu.indexArr 3 3 rfl Tryz.underlying149 sz2 rfl rfl (by decide) (by decide) (by decide)) ?_
          refine D.p 13 rfl rfl rfl rfl rfl rfl (Pu.load rfl pl2 rfl (Ld.blk 0 rfl rfl)) ?_
          refine D.eff hwf (e := 6) rfl rfl rfl rfl (Ef.callP call181 rfl rfl (fun w hw => blockOf_ok  (oth1 (bs[((r1[i]'e1)).toNat]'e4) a) ((ws[u]'e7).1) ((ws[u]'e7).2.2.1) w   )) rfl rfl rfl ?_
          rintro _ _ ⟨rfl, rfl⟩ hs
          refine ⟨fun w hw => hw, ?_⟩
          refine D.eff hwf (e := 7) rfl rfl rfl rfl (Ef.callPV (r := .int .i64 (idxP (fun x => (bk3 (oth1 (bs[((r1[i]'e1)).toNat]'e4) a) ((ws[u]'e7).1) ((ws[u]'e7).2.2.1)) = x) bs)) call176 rfl rfl rfl (fun w' hw => mitresAt1_ok (bk3 (oth1 (bs[((r1[i]'e1)).toNat]'e4) a) ((ws[u]'e7).1) ((ws[u]'e7).2.2.1)) v bs _ _ _ w' (hx w' (hw.sub (Sub.drop (Sub.drop (Sub.drop (Sub.drop (Sub.drop (Sub.drop (Sub.drop (Sub.refl _)))))))))) (Blk.rdb hw (i := 6) rfl) (by omega) (by omega))) rfl rfl rfl ?_
          rintro _ _ ⟨rfl, rfl⟩ hs
          refine ⟨fun w hw => hw, ?_⟩
          refine D.eff hwf (e := 14) rfl rfl rfl rfl (Ef.callP call181 rfl rfl (fun w hw => blockOf_ok  (oth2 (bs[((r1[i]'e1)).toNat]'e4) a) ((ws[u]'e7).2.1) ((ws[u]'e7).2.2.2) w   )) rfl rfl rfl ?_
          rintro _ _ ⟨rfl, rfl⟩ hs
          refine ⟨fun w hw => hw, ?_⟩
          refine D.eff hwf (e := 15) rfl rfl rfl rfl (Ef.callPV (r := .int .i64 (idxP (fun x => (bk3 (oth2 (bs[((r1[i]'e1)).toNat]'e4) a) ((ws[u]'e7).2.1) ((ws[u]'e7).2.2.2)) = x) bs)) call176 rfl rfl rfl (fun w' hw => mitresAt1_ok (bk3 (oth2 (bs[((r1[i]'e1)).toNat]'e4) a) ((ws[u]'e7).2.1) ((ws[u]'e7).2.2.2)) v bs _ _ _ w' (hx w' (hw.sub (Sub.drop (Sub.drop (Sub.drop (Sub.drop (Sub.drop (Sub.drop (Sub.drop (Sub.refl _)))))))))) (Blk.rdb hw (i := 6) rfl) (by omega) (by omega))) rfl rfl rfl ?_
          rintro _ _ ⟨rfl, rfl⟩ hs
          refine ⟨fun w hw => hw, ?_⟩
          refine D.p 16 rfl rfl rfl rfl rfl rfl (Pu.assign rfl rfl) ?_
          refine D.p 17 rfl rfl rfl rfl rfl rfl (Pu.assign rfl rfl) ?_
          refine D.done hwf rfl ?_
          refine X.next ?_
          refine V.seq ?_
          refine V.seq ?_
          refine V.region ?_
          refine O.p rfl rfl rfl (Pu.move rfl rfl) ?_
          refine O.p rfl rfl rfl (Pu.lss rfl rfl rfl) ?_
          refine O.p rfl rfl rfl (Pu.move rfl rfl) ?_
          refine O.splitD 132 rfl (fun c5 => ?_) (fun c5 => ?_)
          · skip
            refine O.gs rfl rfl rfl rfl rfl rfl ?_
            refine O.gs rfl rfl rfl rfl rfl rfl ?_
            refine O.p rfl rfl rfl (Pu.pickT rfl rfl rfl) ?_
            refine O.nil ?_
            refine X.next ?_
            refine V.condT rfl ?_
            refine V.exit ?_
            refine X.thenExit ?_
            refine X.blockHit ?_
            refine X.next ?_
            refine V.region ?_
            refine O.p rfl rfl rfl (Pu.add64 (r := ((u + 1 : Nat) : Int)) rfl (by omega) rfl rfl rfl) ?_
            refine O.p rfl rfl rfl (Pu.move rfl rfl) ?_
            refine O.nil ?_
            exact X.back3 (o4A, o4c, o4, u + 1) (by (try dsimp only); exact ⟨by omega, by rw [way_snoc e7, ent_no (.inl (by rw [hb1]; exact c5)), List.append_nil]; exact q4, by omega⟩) (by first | omega | (dsimp only; omega)) (Ent.cons' rfl (by first | rfl | (simp only [tops_append]; done) | (simp only [tops_append]; rfl)) (Ent.cons rfl (Ent.nil _))) (Ent.cons (t := 3) rfl (Ent.cons (t := 5) rfl (Ent.cons (t := 7) rfl (Ent.cons (t := 8) rfl (Ent.cons (t := 9) rfl (Ent.cons (t := 10) rfl (Ent.cons (t := 12) rfl (Ent.cons (t := 14) rfl (Ent.cons (t := 15) rfl (Ent.cons (t := 16) rfl (Ent.cons (t := 30) rfl (Ent.cons (t := 31) rfl (Ent.cons (t := 32) rfl (Ent.cons (t := 40) rfl (Ent.cons (t := 41) rfl (Ent.cons (t := 42) rfl (Ent.cons (t := 52) rfl (Ent.cons (t := 53) rfl (Ent.cons (t := 54) rfl (Ent.cons (t := 108) rfl (Ent.cons (t := 109) rfl (Ent.nil _)))))))))))))))))))))) (Sub.keep 1 rfl (Sub.keep 1 rfl (Sub.keep 1 rfl (Sub.keep 1 rfl (Sub.keep 1 rfl (Sub.keep 1 rfl (Sub.drop (Sub.refl _))))))))
          · skip
            refine O.gp rfl rfl rfl rfl rfl (Pu.move rfl rfl) ?_
            refine O.gp rfl rfl rfl rfl rfl (Pu.lss rfl rfl rfl) ?_
            refine O.p rfl rfl rfl (Pu.pickF rfl rfl rfl) ?_
            refine O.nil ?_
            refine X.next ?_
            refine V.condD rfl (fun c6 => ?_) (fun c6 => ?_)
            · skip
              refine V.exit ?_
              refine X.thenExit ?_
              refine X.blockHit ?_
              refine X.next ?_
              refine V.region ?_
              refine O.p rfl rfl rfl (Pu.add64 (r := ((u + 1 : Nat) : Int)) rfl (by omega) rfl rfl rfl) ?_
              refine O.p rfl rfl rfl (Pu.move rfl rfl) ?_
              refine O.nil ?_
              exact X.back3 (o4A, o4c, o4, u + 1) (by (try dsimp only); exact ⟨by omega, by rw [way_snoc e7, ent_no (.inr (by rw [hb1]; exact c6)), List.append_nil]; exact q4, by omega⟩) (by first | omega | (dsimp only; omega)) (Ent.cons' rfl (by first | rfl | (simp only [tops_append]; done) | (simp only [tops_append]; rfl)) (Ent.cons rfl (Ent.nil _))) (Ent.cons (t := 3) rfl (Ent.cons (t := 5) rfl (Ent.cons (t := 7) rfl (Ent.cons (t := 8) rfl (Ent.cons (t := 9) rfl (Ent.cons (t := 10) rfl (Ent.cons (t := 12) rfl (Ent.cons (t := 14) rfl (Ent.cons (t := 15) rfl (Ent.cons (t := 16) rfl (Ent.cons (t := 30) rfl (Ent.cons (t := 31) rfl (Ent.cons (t := 32) rfl (Ent.cons (t := 40) rfl (Ent.cons (t := 41) rfl (Ent.cons (t := 42) rfl (Ent.cons (t := 52) rfl (Ent.cons (t := 53) rfl (Ent.cons (t := 54) rfl (Ent.cons (t := 108) rfl (Ent.cons (t := 109) rfl (Ent.nil _)))))))))))))))))))))) (Sub.keep 1 rfl (Sub.keep 1 rfl (Sub.keep 1 rfl (Sub.keep 1 rfl (Sub.keep 1 rfl (Sub.keep 1 rfl (Sub.drop (Sub.refl _))))))))
            · skip
              refine V.skip ?_
              refine X.next ?_
              refine V.seq ?_
              refine V.region ?_
              refine O.p rfl rfl rfl (Pu.move rfl rfl) ?_
              refine O.p rfl rfl rfl (Pu.move rfl rfl) ?_
              refine O.p rfl rfl rfl (Pu.move rfl rfl) ?_
              refine O.p rfl rfl rfl (Pu.move rfl rfl) ?_
              refine O.p rfl rfl rfl (Pu.move rfl rfl) ?_
              refine O.e rfl rfl rfl (Ef.build I64 ([(r1[i]'e1), ((r1.drop (i + 1))[j]'e2), ((r1.drop (i + j + 2))[k]'e3), (idxP (fun x => (bk3 (oth1 (bs[((r1[i]'e1)).toNat]'e4) a) ((ws[u]'e7).1) ((ws[u]'e7).2.2.1)) = x) bs), (idxP (fun x => (bk3 (oth2 (bs[((r1[i]'e1)).toNat]'e4) a) ((ws[u]'e7).2.1) ((ws[u]'e7).2.2.2)) = x) bs)] : List Int) rfl Tryz.underlying34 inf2 rfl rfl rfl (by first | decide | (simp; done)) (by kernel_rfl)) ?_
              rintro _ _ ⟨A2, hA2, rfl, rfl⟩
              refine O.p rfl rfl rfl (Pu.assign rfl rfl) ?_
              refine O.nil ?_
              refine X.next ?_
              refine V.seq ?_
              refine V.region ?_
              refine O.p rfl rfl rfl (Pu.move rfl rfl) ?_
              refine O.e rfl rfl rfl (Ef.call call182 rfl rfl (Does.pre (fun w hw => hw.sub (Sub.keep 0 rfl (Sub.keep 0 rfl (Sub.keep 0 rfl (Sub.keep 0 rfl (Sub.keep 0 rfl (Sub.keep 0 rfl (Sub.keep 0 rfl (Sub.keep 0 rfl (Sub.refl _)))))))))) (sortInt_ok  ([(r1[i]'e1), ((r1.drop (i + 1))[j]'e2), ((r1.drop (i + j + 2))[k]'e3), (idxP (fun x => (bk3 (oth1 (bs[((r1[i]'e1)).toNat]'e4) a) ((ws[u]'e7).1) ((ws[u]'e7).2.2.1)) = x) bs), (idxP (fun x => (bk3 (oth2 (bs[((r1[i]'e1)).toNat]'e4) a) ((ws[u]'e7).2.1) ((ws[u]'e7).2.2.2)) = x) bs)] : List Int) _ _ w0 _   (by simp)))) ?_
              rintro _ _ rfl
              refine O.sep ?_
              refine O.pur ?_
              rintro rfl
              refine O.nil ?_
              refine X.next ?_
              refine V.region ?_
              refine O.p rfl rfl rfl (Pu.move rfl rfl) ?_
              refine O.p rfl rfl rfl (Pu.move rfl rfl) ?_
              refine O.e rfl rfl rfl (Ef.build SlC ([⟨A2, 5, 5⟩] : List Sl) rfl Tryz.underlying28 inf34 rfl rfl rfl (by first | decide | (simp; done)) (by kernel_rfl)) ?_
              rintro _ _ ⟨A3, hA3, rfl, rfl⟩
              refine O.e rfl rfl rfl (Ef.append (xs := (tops o4)) (ys := ([⟨A2, 5, 5⟩] : List Sl)) 3 rfl Tryz.underlying28 inf34 rfl rfl rfl rfl rfl rfl hA3 (Ld.own 0 (by exact rfl)) (by simp only [List.length_append, List.length_cons, List.length_nil] at *; omega) (by decide)) ?_
              rintro _ _ ⟨A4, k1, rfl, rfl, hA4⟩
              replace hA4 := hA4 (.inr (by simp))
              refine O.map (fun w hw => snoc_heapN (ps := o4) (xs := (sortI ([(r1[i]'e1), ((r1.drop (i + 1))[j]'e2), ((r1.drop (i + j + 2))[k]'e3), (idxP (fun x => (bk3 (oth1 (bs[((r1[i]'e1)).toNat]'e4) a) ((ws[u]'e7).1) ((ws[u]'e7).2.2.1)) = x) bs), (idxP (fun x => (bk3 (oth2 (bs[((r1[i]'e1)).toNat]'e4) a) ((ws[u]'e7).2.1) ((ws[u]'e7).2.2.2)) = x) bs)] : List Int))) (by rw [sortI_len]; rfl) (hw.sub (Sub.keep 3 rfl (Sub.keep 3 rfl (Sub.keep 1 rfl (Sub.keep 0 rfl (Sub.keep 0 rfl (Sub.keep 0 rfl (Sub.keep 0 rfl (Sub.keep 0 rfl (Sub.keep 0 rfl (Sub.refl _)))))))))))) ?_
              refine O.p rfl rfl rfl (Pu.assign rfl rfl) ?_
              refine O.nil ?_
              refine X.blockNormal ?_
              refine X.next ?_
              refine V.region ?_
              refine O.p rfl rfl rfl (Pu.add64 (r := ((u + 1 : Nat) : Int)) rfl (by omega) rfl rfl rfl) ?_
              refine O.p rfl rfl rfl (Pu.move rfl rfl) ?_
              refine O.nil ?_
              exact X.back3 (A4, k1, (o4 ++ [((⟨A2, 5, 5⟩ : Sl), (sortI ([(r1[i]'e1), ((r1.drop (i + 1))[j]'e2), ((r1.drop (i + j + 2))[k]'e3), (idxP (fun x => (bk3 (oth1 (bs[((r1[i]'e1)).toNat]'e4) a) ((ws[u]'e7).1) ((ws[u]'e7).2.2.1)) = x) bs), (idxP (fun x => (bk3 (oth2 (bs[((r1[i]'e1)).toNat]'e4) a) ((ws[u]'e7).2.1) ((ws[u]'e7).2.2.2)) = x) bs)] : List Int)))]), u + 1) (by (try dsimp only); exact ⟨by omega, by rw [conts_append, q4, way_snoc e7, ent_yes (by rw [hb1]; exact c5) (by rw [hb1]; exact c6), List.append_assoc, hb1, getD_at e1, ← d2, ← d3]; rfl, by simp only [List.length_append, List.length_singleton]; omega⟩) (by first | omega | (dsimp only; omega)) (Ent.cons' rfl (by first | rfl | (simp only [tops_append]; done) | (simp only [tops_append]; rfl)) (Ent.cons rfl (Ent.nil _))) (Ent.cons (t := 3) rfl (Ent.cons (t := 5) rfl (Ent.cons (t := 7) rfl (Ent.cons (t := 8) rfl (Ent.cons (t := 9) rfl (Ent.cons (t := 10) rfl (Ent.cons (t := 12) rfl (Ent.cons (t := 14) rfl (Ent.cons (t := 15) rfl (Ent.cons (t := 16) rfl (Ent.cons (t := 30) rfl (Ent.cons (t := 31) rfl (Ent.cons (t := 32) rfl (Ent.cons (t := 40) rfl (Ent.cons (t := 41) rfl (Ent.cons (t := 42) rfl (Ent.cons (t := 52) rfl (Ent.cons (t := 53) rfl (Ent.cons (t := 54) rfl (Ent.cons (t := 108) rfl (Ent.cons (t := 109) rfl (Ent.nil _)))))))))))))))))))))) (Sub.keep 0 rfl (Sub.keep 0 rfl (Sub.keep 2 rfl (Sub.keep 2 rfl (Sub.keep 2 rfl (Sub.keep 2 rfl (Sub.drop (Sub.drop (Sub.refl _)))))))))
        · skip
          refine V.exit ?_
          refine X.thenExit ?_
          refine X.thenExit ?_
          refine X.blockHit ?_
          refine X.blockNormal ?_
          refine X.next ?_
          refine V.region ?_
          refine O.p rfl rfl rfl (Pu.add64 (r := ((k + 1 : Nat) : Int)) rfl (by omega) rfl rfl rfl) ?_
          refine O.p rfl rfl rfl (Pu.move rfl rfl) ?_
          refine O.nil ?_
          exact X.back3 (o4A, o4c, o4, k + 1) (by (try dsimp only); exact ⟨by omega, by rw [q4, q3, List.take_of_length_le (by omega), fmR_succ, List.append_assoc, hww]; rfl, by omega⟩) (by first | omega | (dsimp only; omega)) (Ent.cons' rfl (by first | rfl | (simp only [tops_append]; done) | (simp only [tops_append]; rfl)) (Ent.cons rfl (Ent.nil _))) (Ent.cons (t := 3) rfl (Ent.cons (t := 5) rfl (Ent.cons (t := 7) rfl (Ent.cons (t := 8) rfl (Ent.cons (t := 9) rfl (Ent.cons (t := 10) rfl (Ent.cons (t := 12) rfl (Ent.cons (t := 30) rfl (Ent.cons (t := 31) rfl (Ent.cons (t := 32) rfl (Ent.cons (t := 40) rfl (Ent.cons (t := 41) rfl (Ent.cons (t := 42) rfl (Ent.cons (t := 52) rfl (Ent.cons (t := 53) rfl (Ent.nil _)))))))))))))))) (Sub.keep 0 rfl (Sub.keep 0 rfl (Sub.keep 1 rfl (Sub.keep 1 rfl (Sub.keep 1 rfl (Sub.drop (Sub.refl _)))))))
      · skip
        refine V.exit ?_
        refine X.thenExit ?_
        refine X.thenExit ?_
        refine X.blockHit ?_
        refine X.blockNormal ?_
        refine X.next ?_
        refine V.region ?_
        refine O.p rfl rfl rfl (Pu.add64 (r := ((j + 1 : Nat) : Int)) rfl (by omega) rfl rfl rfl) ?_
        refine O.p rfl rfl rfl (Pu.move rfl rfl) ?_
        refine O.nil ?_
        exact X.back3 (o3A, o3c, o3, j + 1) (by (try dsimp only); exact ⟨by omega, by rw [q3, q2, fmR_succ, List.append_assoc, show k = r1.length - (i + j + 2) by omega]; rfl, by omega⟩) (by first | omega | (dsimp only; omega)) (Ent.cons' rfl (by first | rfl | (simp only [tops_append]; done) | (simp only [tops_append]; rfl)) (Ent.cons rfl (Ent.nil _))) (Ent.cons (t := 3) rfl (Ent.cons (t := 5) rfl (Ent.cons (t := 7) rfl (Ent.cons (t := 8) rfl (Ent.cons (t := 9) rfl (Ent.cons (t := 10) rfl (Ent.cons (t := 30) rfl (Ent.cons (t := 31) rfl (Ent.cons (t := 32) rfl (Ent.cons (t := 40) rfl (Ent.cons (t := 41) rfl (Ent.nil _)))))))))))) (Sub.keep 0 rfl (Sub.keep 0 rfl (Sub.keep 0 rfl (Sub.keep 0 rfl (Sub.keep 0 rfl (Sub.refl _))))))
    · skip
      refine V.exit ?_
      refine X.thenExit ?_
      refine X.thenExit ?_
      refine X.blockHit ?_
      refine X.blockNormal ?_
      refine X.next ?_
      refine V.region ?_
      refine O.p rfl rfl rfl (Pu.add64 (r := ((i + 1 : Nat) : Int)) rfl (by omega) rfl rfl rfl) ?_
      refine O.p rfl rfl rfl (Pu.move rfl rfl) ?_
      refine O.nil ?_
      exact X.back3 (o2A, o2c, o2, i + 1) (by (try dsimp only); exact ⟨by omega, by rw [q2, q1, fmR_succ, List.append_assoc, show j = r1.length - (i + 1) by omega]; rfl, by omega⟩) (by first | omega | (dsimp only; omega)) (Ent.cons' rfl (by first | rfl | (simp only [tops_append]; done) | (simp only [tops_append]; rfl)) (Ent.cons rfl (Ent.nil _))) (Ent.cons (t := 3) rfl (Ent.cons (t := 5) rfl (Ent.cons (t := 7) rfl (Ent.cons (t := 8) rfl (Ent.cons (t := 30) rfl (Ent.cons (t := 31) rfl (Ent.nil _))))))) (Sub.keep 0 rfl (Sub.keep 0 rfl (Sub.keep 0 rfl (Sub.keep 0 rfl (Sub.keep 0 rfl (Sub.refl _))))))
  · skip
    refine V.exit ?_
    refine X.thenExit ?_
    refine X.thenExit ?_
    refine X.blockHit ?_
    refine X.next ?_
    refine V.seq ?_
    refine V.region ?_
    refine O.p rfl rfl rfl (Pu.move rfl rfl) ?_
    refine O.p rfl rfl rfl (Pu.assign rfl rfl) ?_
    refine O.nil ?_
    refine X.next ?_
    refine V.ret ?_
    refine X.ret1 rfl rfl ?_
    exact fun w hw => St.mkExi o1A (St.mkExi o1c (St.mkExi o1 (St.unsep (St.addPur ⟨(by first | rfl | (simp only [tops_append]; done) | (simp only [tops_append]; rfl)), by rw [q1, show i = r1.length by omega, har]; rfl, by omega⟩ (St.unsep (hw.sub (Sub.keep 0 rfl (Sub.keep 0 rfl (Sub.drop (Sub.drop (Sub.drop (Sub.refl _))))))))))))
end Go.Proofs.YtgjfcepnkllklaaGreat
