/-
  Contracts, part 8.
-/
import Derived.Test.YthlmfgmmbfbhhaaGreatKb7
set_option linter.unusedVariables false
set_option linter.unusedSimpArgs false
namespace Go.Proofs.YthlmfgmmbfbhhaaGreat
open Go Go.RowKit Go.Vc Go.Proofs
set_option maxRecDepth 100000 in
set_option maxHeartbeats 1000000 in
theorem implAreApart_ok (v : Int) (bs : List B3) (v2 : Int) (bs2 : List B3) (A : Option Addr) (c : Nat) (A2 : Option Addr) (c2 : Nat) (w : World) (hx : Rd B3C w A bs) (hx2 : Rd B3C w A2 bs2) (lx : bs.length ≤ 4611686018427387904) (lx2 : bs2.length ≤ 4611686018427387904) : Does Tryz.prog 23 [.agg #[.int .i64 v, .slice A bs.length c], .agg #[.int .i64 v2, .slice A2 bs2.length c2]] w [] (fun r => [.pur (r = .tuple #[.bool (decide (aaC v bs v2 bs2 = 0 ∧ ApartB bs bs2)), .int .i64 (aaC v bs v2 bs2)])]) := by
 refine Does.enter Tryz.func23 rfl rfl [(0, .agg #[.int .i64 v, .slice A bs.length c]), (1, .agg #[.int .i64 v2, .slice A2 bs2.length c2])] rfl (V.seq (V.region (O.f rfl (Ef.box rfl rfl rfl) ?_)))
 rintro _ _ ⟨b1, rfl, rfl⟩
 refine O.f rfl (Ef.box rfl rfl rfl) ?_
 rintro _ _ ⟨b2, rfl, rfl⟩
 refine O.m rfl (O.m rfl (O.nil (X.next (V.seq (V.block (V.seq (V.region (O.q rfl (Pu.loadAgg rfl ag26 sz26 rfl rfl (Ld.whole 1 rfl)) (O.f rfl (Ef.callP call50 rfl rfl (fun w hw => IsSystem_ok _ bs _ _ w ((Ld.old hx) w hw) (by omega))) ?_)))))))))
 rintro _ _ ⟨rfl, rfl⟩
 refine O.q rfl (Pu.not rfl rfl) (O.m rfl (O.splitN 10 rfl (fun c1 => ?_) (fun c1 => ?_)))
 ·refine O.g rfl (O.g rfl (O.g rfl (O.m rfl (O.m rfl (O.nil (X.next (V.condT rfl (V.seq (V.region (O.m rfl (O.m rfl ?_)))))))))))
  exact O.nil (X.next (V.ret (X.blockRet (X.thenRet (X.ret2 rfl rfl rfl (fun w hw => St.addPur (by rw [aaC_1 (fun h => c1 h.1)]; simp) (hw.sub (Sub.nil _))))))))
 ·have hl1 := c1.few
  refine O.gq rfl (Pu.loadAgg rfl ag26 sz26 rfl rfl (Ld.whole 0 rfl)) (O.gf rfl (Ef.callP call50 rfl rfl (fun w hw => IsSystem_ok _ bs2 _ _ w ((Ld.old hx2) w hw) (by omega))) ?_)
  rintro _ _ ⟨rfl, rfl⟩
  refine O.gq rfl (Pu.not rfl rfl) (O.m rfl (O.m rfl (O.nil (X.next (V.condNot rfl (fun c2 => ?_) (fun c2 => ?_))))))
  ·exact V.seq (V.region (O.m rfl (O.m rfl (O.nil (X.next (V.ret (X.blockRet (X.thenRet (X.ret2 rfl rfl rfl (fun w hw => St.addPur (by rw [aaC_1 (fun h => c2 h.2)]; simp) (hw.sub (Sub.nil _))))))))))))
  ·have hl2 := c2.few
   refine V.seq (V.region (O.q rfl (Pu.fieldAddr 0 rfl Tryz.underlying26 rfl sz2 rfl rfl) (O.q rfl (Pu.load rfl pl2 rfl (Ld.blk 1 rfl rfl)) (O.q rfl (Pu.fieldAddr 0 rfl Tryz.underlying26 rfl sz2 rfl rfl) (O.q rfl (Pu.load rfl pl2 rfl (Ld.blk 0 rfl rfl)) (O.q rfl (Pu.neq rfl rfl rfl) (O.m rfl (O.nil (X.next (V.condNot rfl (fun c3 => ?_) (fun c3 => ?_)))))))))))
   ·exact V.seq (V.region (O.m rfl (O.m rfl (O.nil (X.next (V.ret (X.blockRet (X.thenRet (X.ret2 rfl rfl rfl (fun w hw => St.addPur (by rw [aaC_5 c1 c2 c3]; simp) (hw.sub (Sub.nil _))))))))))))
   ·refine V.skip (X.blockNormal (X.next (V.seq (V.region (O.q rfl (Pu.fieldAddr 1 rfl Tryz.underlying26 rfl sz24 rfl rfl) (O.q rfl (Pu.load rfl pl24 rfl (Ld.blk 1 rfl rfl)) (O.q rfl (Pu.fieldAddr 1 rfl Tryz.underlying26 rfl sz24 rfl rfl) (O.q rfl (Pu.load rfl pl24 rfl (Ld.blk 0 rfl rfl)) (O.f rfl (Ef.call1 call57 rfl rfl (fun w hw => implCommon_ok  bs bs2 _ _ _ _ w ((Ld.old hx) w hw) ((Ld.old hx2) w hw) (by first | omega | (simp only [tops_len, conts_len, bl, List.length_append, List.length_cons, List.length_nil] at *; omega)) (by first | omega | (simp only [tops_len, conts_len, bl, List.length_append, List.length_cons, List.length_nil] at *; omega)) )) ?_)))))))))
    rintro _ _ rfl
    refine O.exi (fun r1A => O.exi (fun r1c => O.exi (fun r1 => O.sep (O.pur ?_))))
    rintro ⟨rfl, hr1_1⟩
    exact O.q rfl (Pu.len rfl Tryz.underlying24 rfl) (O.q rfl (Pu.eql rfl rfl rfl) (O.m rfl (O.m rfl (O.nil (X.next (V.ret (X.ret2 rfl rfl rfl (fun w hw => St.addPur (by rw [aaC_0 c1 c2 c3, hr1_1]; simp [← apart_I]) (hw.sub (Sub.nil _))))))))))
set_option maxRecDepth 100000 in
set_option maxHeartbeats 1000000 in
theorem numberOfTriple_ok (b : B3) (w : World) (hg : good 9 b) : Does Tryz.prog 117 [B3.v b] w [] (fun r => [.pur (r = .int .i64 ((tix b : Nat) : Int))]) := by
 refine Does.enter Tryz.func117 rfl rfl [(0, B3.v b)] rfl ?_
 unfold good at hg
 refine V.seq (V.region (O.f rfl (Ef.box rfl rfl rfl) ?_))
 rintro _ _ ⟨b1, rfl, rfl⟩
 refine O.m rfl (O.nil (X.next (V.seq (V.region (O.m rfl (O.nil (X.next (V.seq (V.seq (V.region (O.q rfl (Pu.indexArr 0 0 rfl Tryz.underlying65 sz2 rfl rfl (by decide) (by decide) (by decide)) ?_)))))))))))
 refine O.q rfl (Pu.load rfl pl2 rfl (Ld.blk 0 rfl rfl)) (O.m rfl (O.nil (X.next (V.block (V.loop3 (β := Int × Nat) (fun x => [(3, .int .i64 (x.1 : Int)), (8, .int .i64 (x.2 : Int))]) _ (fun x => []) _ (fun x => x.2 ≤ b.1.toNat ∧ x.1 = cF x.2) (fun x => b.1.toNat - x.2) ((0 : Int), 0) (by (try dsimp only); exact ⟨by omega, rfl⟩) (Ent.cons rfl (Ent.cons rfl (Ent.nil _))) (Ent.cons (t := 1) rfl (Ent.cons (t := 7) rfl (Ent.nil _))) (Sub.k (Sub.nil _)) ?_)))))
 rintro ⟨n, a⟩ ⟨ha, hn⟩
 dsimp only at ha hn ⊢
 have hc9 := cF_le a
 refine V.seq (V.region (O.q rfl (Pu.lss rfl rfl rfl) (O.nil (X.next (V.seq (V.condD rfl (fun c1 => ?_) (fun c1 => ?_)))))))
 ·refine V.skip (X.next (V.seq (V.block (V.seq (V.region (O.m rfl (O.m rfl (O.nil (X.next ?_)))))))))
  have hmu := cM_bd a (by omega)
  refine V.region (O.m rfl (O.m rfl (O.q rfl (Pu.sub64 rfl (by omega) rfl rfl rfl) (O.m rfl (O.q rfl (Pu.sub64 rfl (by omega) rfl rfl rfl) (O.q rfl (Pu.mul64 rfl (by omega) rfl rfl rfl) (O.q rfl (Pu.quo64 (by omega) (by omega) (by omega) rfl rfl rfl) (O.q rfl (Pu.add64 rfl (by omega) rfl rfl rfl) (O.m rfl (O.nil (X.blockNormal ?_)))))))))))
  exact X.next (V.region (O.q rfl (Pu.add64 (r := ((a + 1 : Nat) : Int)) rfl (by omega) rfl rfl rfl) (O.m rfl (O.nil (X.back3 ((n + ((((8 : Int) - (↑a : Int)) * ((7 : Int) - (↑a : Int))) / (2 : Int))), a + 1) (by (try dsimp only); exact ⟨by omega, by have := cF_step a (by omega); omega⟩) (by first | omega | (dsimp only; omega)) (Ent.cons rfl (Ent.cons rfl (Ent.nil _))) (Ent.cons (t := 1) rfl (Ent.cons (t := 7) rfl (Ent.nil _))) (Sub.k (Sub.nil _)))))))
 ·refine V.exit (X.thenExit (X.thenExit (X.blockHit (X.next (V.seq (V.seq (V.region (O.q rfl (Pu.indexArr 0 0 rfl Tryz.underlying65 sz2 rfl rfl (by decide) (by decide) (by decide)) (O.q rfl (Pu.load rfl pl2 rfl (Ld.blk 0 rfl rfl)) (O.q rfl (Pu.add64 rfl (by omega) rfl rfl rfl) (O.m rfl ?_)))))))))))
  refine O.nil (X.next (V.block (V.loop3 (β := Int × Int) (fun x => [(3, .int .i64 (x.1 : Int)), (5, .int .i64 (x.2 : Int))]) _ (fun x => []) _ (fun x => b.1 < x.2 ∧ x.2 ≤ b.2.1 ∧ x.1 = ((cF b.1.toNat + cG b.1.toNat x.2.toNat : Nat) : Int)) (fun x => (b.2.1 - x.2).toNat) (n, (b.1 + (1 : Int))) (by (try dsimp only); exact ⟨by omega, by omega, by rw [show (b.1 + 1).toNat = b.1.toNat + 1 by omega, cG_zero, hn, show a = b.1.toNat by omega]; rfl⟩) (Ent.cons rfl (Ent.cons rfl (Ent.nil _))) (Ent.cons (t := 1) rfl (Ent.nil _)) (Sub.k (Sub.nil _)) ?_)))
  rintro ⟨n, k⟩ ⟨hk1, hk2, hn⟩
  dsimp only at hk1 hk2 hn ⊢
  have hc9 := cF_le b.1.toNat
  have hc8 := cG_le b.1.toNat k.toNat
  refine V.seq (V.seq (V.region (O.m rfl (O.q rfl (Pu.indexArr 1 1 rfl Tryz.underlying65 sz2 rfl rfl (by decide) (by decide) (by decide)) (O.q rfl (Pu.load rfl pl2 rfl (Ld.blk 0 rfl rfl)) (O.q rfl (Pu.lss rfl rfl rfl) (O.nil (X.next (V.condD rfl (fun c2 => ?_) (fun c2 => ?_))))))))))
  ·refine V.skip (X.next (V.seq (V.block (V.region (O.m rfl (O.m rfl (O.q rfl (Pu.sub64 rfl (by omega) rfl rfl rfl) (O.q rfl (Pu.add64 rfl (by omega) rfl rfl rfl) (O.m rfl (O.nil (X.blockNormal ?_)))))))))))
   exact X.next (V.region (O.m rfl (O.q rfl (Pu.add64 rfl (by omega) rfl rfl rfl) (O.m rfl (O.nil (X.back3 ((n + ((8 : Int) - k)), (k + (1 : Int))) (by (try dsimp only); exact ⟨by omega, by omega, by have := cG_step b.1.toNat k.toNat (by omega) (by omega); rw [show (k + 1).toNat = k.toNat + 1 by omega]; omega⟩) (by first | omega | (dsimp only; omega)) (Ent.cons rfl (Ent.cons rfl (Ent.nil _))) (Ent.cons (t := 1) rfl (Ent.nil _)) (Sub.k (Sub.nil _))))))))
  ·refine V.exit (X.thenExit (X.thenExit (X.blockHit (X.next (V.seq (V.region (O.m rfl (O.q rfl (Pu.indexArr 2 2 rfl Tryz.underlying65 sz2 rfl rfl (by decide) (by decide) (by decide)) (O.q rfl (Pu.load rfl pl2 rfl (Ld.blk 0 rfl rfl)) (O.q rfl (Pu.add64 rfl (by omega) rfl rfl rfl) (O.q rfl (Pu.indexArr 1 1 rfl Tryz.underlying65 sz2 rfl rfl (by decide) (by decide) (by decide)) ?_)))))))))))
   exact O.q rfl (Pu.load rfl pl2 rfl (Ld.blk 0 rfl rfl)) (O.q rfl (Pu.sub64 rfl (by omega) rfl rfl rfl) (O.q rfl (Pu.sub64 rfl (by omega) rfl rfl rfl) (O.m rfl (O.nil (X.next (V.ret (X.ret1 rfl rfl (fun w hw => St.retP (iv (by rw [hn, show k = b.2.1 by omega]; unfold tix tixN; omega)) hw))))))))
set_option maxRecDepth 100000 in
set_option maxHeartbeats 1000000 in
theorem picHas_ok (p : Nat) (n : Nat) (w : World) (hn : n < 7) : Does Tryz.prog 121 [Pv p, .int .i64 (n : Int)] w [] (fun r => [.pur (r = .bool (decide (p.testBit n = true)))]) := by
 refine Does.enter Tryz.func121 rfl rfl [(0, Pv p), (1, .int .i64 (n : Int))] rfl (V.seq (V.region (O.f rfl (Ef.box rfl rfl rfl) ?_)))
 rintro _ _ ⟨b1, rfl, rfl⟩
 refine O.m rfl (O.nil (X.next (V.seq (V.region (O.m rfl (O.q rfl (Pu.quoN 0 (by omega) (by omega) (by omega) (by omega) rfl rfl rfl) (O.q rfl (Pu.indexArr 0 0 rfl Tryz.underlying104 sz99 rfl rfl (by decide) (by decide) (by decide)) (O.q rfl (Pu.load rfl pl99 rfl (Ld.blk 0 rfl rfl)) (O.m rfl (O.q rfl (Pu.rem64' (r := (n : Int)) (by omega) (by omega) (by omega) rfl rfl rfl) (O.q rfl (Pu.shr (m := (p % 2 ^ 64)) (p := n) K64.u (by omega) rfl rfl rfl) ?_)))))))))))
 exact O.q rfl (Pu.andW (m := ((p % 2 ^ 64) >>> n)) (n := 1) (shr64_lt (mod64_lt _)) (by first | omega | assumption) rfl rfl rfl) (O.q rfl (Pu.eql rfl rfl rfl) (O.m rfl (O.nil (X.next (V.ret (X.ret1 rfl rfl (fun w hw => St.retP (boolD (by rw [← word_bit (k := 64) (by omega)]; omega)) hw)))))))
set_option maxRecDepth 100000 in
set_option maxHeartbeats 1000000 in
theorem picFirst_ok (p : Nat) (w : World) (hp : pivD p < 7) (h1 : p.testBit (pivD p) = false) (h2 : ∀ j, j < pivD p → p.testBit j = true) : Does Tryz.prog 120 [Pv p] w [] (fun r => [.pur (r = .int .i64 ((pivD p : Nat) : Int))]) := by
 refine Does.enter Tryz.func120 rfl rfl [(0, Pv p)] rfl (V.seq (V.region (O.f rfl (Ef.box rfl rfl rfl) ?_)))
 rintro _ _ ⟨b1, rfl, rfl⟩
 refine O.m rfl (O.nil (X.next (V.seq (V.region (O.m rfl (O.nil (X.next (V.seq (V.block (V.loop3 (β := Nat) (fun n => [(3, .int .i64 (n : Int))]) _ (fun n => []) _ (fun n => n ≤ pivD p) (fun n => pivD p - n) 0 (by omega) (Ent.cons rfl (Ent.nil _)) (Ent.cons (t := 1) rfl (Ent.nil _)) (Sub.k (Sub.nil _)) ?_))))))))))
 rintro n hn
 refine V.seq (V.seq (V.region (O.m rfl (O.q rfl (Pu.quoN 0 (by omega) (by omega) (by omega) (by omega) rfl rfl rfl) (O.q rfl (Pu.indexArr 0 0 rfl Tryz.underlying104 sz99 rfl rfl (by decide) (by decide) (by decide)) (O.q rfl (Pu.load rfl pl99 rfl (Ld.blk 0 rfl rfl)) (O.m rfl (O.q rfl (Pu.rem64' (r := (n : Int)) (by omega) (by omega) (by omega) rfl rfl rfl) (O.q rfl (Pu.shr (m := (p % 2 ^ 64)) (p := n) K64.u (by omega) rfl rfl rfl) (O.q rfl (Pu.andW (m := ((p % 2 ^ 64) >>> n)) (n := 1) (shr64_lt (mod64_lt _)) (by first | omega | assumption) rfl rfl rfl) (O.q rfl (Pu.eql rfl rfl rfl) ?_)))))))))))
 refine O.nil (X.next (V.condD rfl (fun c1 => ?_) (fun c1 => ?_)))
 ·have hb : p.testBit n = true := (word_bit (k := 64) (by omega)).1 (by omega)
  have hne : n ≠ pivD p := by rintro rfl; rw [h1] at hb; cases hb
  exact V.skip (X.next (V.block (V.region (O.m rfl (O.q rfl (Pu.add64 (r := ((n + 1 : Nat) : Int)) rfl (by omega) rfl rfl rfl) (O.m rfl (O.nil (X.blockNormal (X.back3 (n + 1) (by omega) (by first | omega | (dsimp only; omega)) (Ent.cons rfl (Ent.nil _)) (Ent.cons (t := 1) rfl (Ent.nil _)) (Sub.k (Sub.nil _)))))))))))
 ·have hb : ¬ p.testBit n = true := fun h => c1 (by have := (word_bit (k := 64) (by omega)).2 h; omega)
  have hne : n = pivD p := by apply Decidable.byContradiction; intro h; exact hb (h2 n (by omega))
  refine V.exit (X.thenExit (X.thenExit (X.blockHit (X.next (V.seq (V.region (O.m rfl (O.m rfl (O.nil (X.next (V.ret ?_)))))))))))
  exact X.ret1 rfl rfl (fun w hw => St.retP (iv (by rw [hne])) hw)
set_option maxRecDepth 100000 in
set_option maxHeartbeats 1000000 in
theorem picApart_ok (p : Nat) (q : Nat) (w : World) (hp : p < 2 ^ 84) (hq : q < 2 ^ 84) : Does Tryz.prog 122 [Pv p, Pv q] w [] (fun r => [.pur (r = .bool (decide (p &&& q = 0)))]) := by
 refine Does.enter Tryz.func122 rfl rfl [(0, Pv p), (1, Pv q)] rfl (V.seq (V.region (O.f rfl (Ef.box rfl rfl rfl) ?_)))
 rintro _ _ ⟨b1, rfl, rfl⟩
 refine O.f rfl (Ef.box rfl rfl rfl) ?_
 rintro _ _ ⟨b2, rfl, rfl⟩
 refine O.m rfl (O.nil (X.next (V.seq (V.region (O.q rfl (Pu.indexArr 0 0 rfl Tryz.underlying104 sz99 rfl rfl (by decide) (by decide) (by decide)) (O.q rfl (Pu.load rfl pl99 rfl (Ld.blk 1 rfl rfl)) (O.q rfl (Pu.indexArr 0 0 rfl Tryz.underlying104 sz99 rfl rfl (by decide) (by decide) (by decide)) (O.q rfl (Pu.load rfl pl99 rfl (Ld.blk 0 rfl rfl)) (O.q rfl (Pu.andW (m := (p % 2 ^ 64)) (n := (q % 2 ^ 64)) (mod64_lt _) (mod64_lt _) rfl rfl rfl) (O.q rfl (Pu.eql rfl rfl rfl) (O.m rfl (O.splitD 11 rfl (fun c1 => ?_) (fun c1 => ?_)))))))))))))
 ·have hw0 : p % 2 ^ 64 &&& q % 2 ^ 64 = 0 := by omega
  exact O.gq rfl (Pu.indexArr 1 1 rfl Tryz.underlying104 sz99 rfl rfl (by decide) (by decide) (by decide)) (O.gq rfl (Pu.load rfl pl99 rfl (Ld.blk 1 rfl rfl)) (O.gq rfl (Pu.indexArr 1 1 rfl Tryz.underlying104 sz99 rfl rfl (by decide) (by decide) (by decide)) (O.gq rfl (Pu.load rfl pl99 rfl (Ld.blk 0 rfl rfl)) (O.gq rfl (Pu.andW (m := (p / 2 ^ 64)) (n := (q / 2 ^ 64)) (div64_lt (by first | assumption | omega)) (div64_lt (by first | assumption | omega)) rfl rfl rfl) (O.gq rfl (Pu.eql rfl rfl rfl) (O.m rfl (O.m rfl (O.nil (X.next (V.ret (X.ret1 rfl rfl (fun w hw => St.retP (boolD ((by rw [land_words (k := 64)]; exact ⟨fun h => ⟨hw0, by omega⟩, fun h => by have := h.2; omega⟩))) hw))))))))))))
 ·have hw0 : ¬ p % 2 ^ 64 &&& q % 2 ^ 64 = 0 := by omega
  exact O.g rfl (O.g rfl (O.g rfl (O.g rfl (O.g rfl (O.g rfl (O.m rfl (O.m rfl (O.nil (X.next (V.ret (X.ret1 rfl rfl (fun w hw => St.retP (boolF ((fun h => hw0 (land_words.1 h).1))) hw))))))))))))
set_option maxRecDepth 100000 in
set_option maxHeartbeats 1000000 in
theorem picWith_ok (p : Nat) (q : Nat) (w : World) (hp : p < 2 ^ 84) (hq : q < 2 ^ 84) : Does Tryz.prog 123 [Pv p, Pv q] w [] (fun r => [.pur (r = Pv (p ||| q))]) := by
 refine Does.enter Tryz.func123 rfl rfl [(0, Pv p), (1, Pv q)] rfl (V.seq (V.region (O.f rfl (Ef.box rfl rfl rfl) ?_)))
 rintro _ _ ⟨b1, rfl, rfl⟩
 refine O.f rfl (Ef.box rfl rfl rfl) ?_
 rintro _ _ ⟨b2, rfl, rfl⟩
 refine O.f rfl (Ef.alloc rfl zr104 rfl) ?_
 rintro _ _ ⟨b3, rfl, rfl⟩
 refine O.nil (X.next (V.seq (V.region (O.q rfl (Pu.indexArr 0 0 rfl Tryz.underlying104 sz99 rfl rfl (by decide) (by decide) (by decide)) (O.q rfl (Pu.load rfl pl99 rfl (Ld.blk 2 rfl rfl)) (O.q rfl (Pu.indexArr 0 0 rfl Tryz.underlying104 sz99 rfl rfl (by decide) (by decide) (by decide)) (O.q rfl (Pu.load rfl pl99 rfl (Ld.blk 1 rfl rfl)) (O.q rfl (Pu.orW (m := (p % 2 ^ 64)) (n := (q % 2 ^ 64)) (mod64_lt _) (mod64_lt _) rfl rfl rfl) (O.q rfl (Pu.indexArr 1 1 rfl Tryz.underlying104 sz99 rfl rfl (by decide) (by decide) (by decide)) (O.q rfl (Pu.load rfl pl99 rfl (Ld.blk 2 rfl rfl)) (O.q rfl (Pu.indexArr 1 1 rfl Tryz.underlying104 sz99 rfl rfl (by decide) (by decide) (by decide)) ?_)))))))))))
 refine O.q rfl (Pu.load rfl pl99 rfl (Ld.blk 1 rfl rfl)) (O.q rfl (Pu.orW (m := (p / 2 ^ 64)) (n := (q / 2 ^ 64)) (div64_lt (by first | assumption | omega)) (div64_lt (by first | assumption | omega)) rfl rfl rfl) (O.q rfl (Pu.buildA (cs := [.int .u64 ((((p % 2 ^ 64) ||| (q % 2 ^ 64)) : Nat) : Int), .int .u64 ((((p / 2 ^ 64) ||| (q / 2 ^ 64)) : Nat) : Int)]) rfl rfl Tryz.underlying104 zr104 sz99 rfl (by kernel_rfl)) (O.s rfl rfl (Ef.storeAll 0 rfl sz104 rfl rfl rfl rfl (by simp [Value.oneCell']) rfl) ?_)))
 rintro _ _ rfl
 exact O.nil (X.next (V.ret (X.retCell rfl ag104 sz104 rfl rfl (Ld.whole 0 rfl) (fun w hw => St.retP (by unfold Pv; rw [lor_mod, lor_div]) hw))))
set_option maxRecDepth 100000 in
set_option maxHeartbeats 1000000 in
theorem pictureOf_ok (blocks : List B3) (blocksA : Option Addr) (blocksc : Nat) (w : World) (hblocks : Rd B3C w blocksA blocks) (lblocks : blocks.length ≤ 1099511627776) (hg : ∀ b ∈ blocks, good 9 b) : Does Tryz.prog 82 [.slice blocksA blocks.length blocksc] w [] (fun r => [.pur (r = Pv (mkF blocks))]) := by
 refine Does.enter Tryz.func82 rfl rfl [(0, .slice blocksA blocks.length blocksc)] rfl (V.seq (V.region (O.f rfl (Ef.alloc rfl zr104 rfl) ?_)))
 rintro _ _ ⟨b1, rfl, rfl⟩
 refine O.nil (X.next (V.seq (V.region (O.f rfl (Ef.alloc rfl zr104 rfl) ?_))))
 rintro _ _ ⟨b2, rfl, rfl⟩
 refine O.nil (X.next (V.seq (V.seq (V.region (O.m rfl (O.q rfl (Pu.len rfl Tryz.underlying24 rfl) (O.m rfl (O.nil (X.next (V.block (V.loop3 (β := Nat × (List Nat)) (fun x => [(9, .int .i64 (x.1 : Int))]) _ (fun x => [Blk b2 ((x.2).map fun q_ : Nat => Value.int .u64 (q_ : Int)) 104]) _ (fun x => x.1 ≤ blocks.length ∧ x.2 = wdL (mkF (blocks.take x.1)) ∧ mkF (blocks.take x.1) < 2 ^ 84) (fun x => blocks.length - x.1) (0, (wdL 0)) (by (try dsimp only); exact ⟨by omega, rfl, by show 0 < _; decide⟩) (Ent.cons rfl (Ent.nil _)) (Ent.cons (t := 2) rfl (Ent.cons (t := 3) rfl (Ent.cons (t := 7) rfl (Ent.cons (t := 8) rfl (Ent.nil _))))) (Sub.k (Sub.k (Sub.nil _))) ?_)))))))))))
 rintro ⟨i, W⟩ ⟨hi, hW, hlt⟩
 dsimp only at hi hW hlt ⊢
 refine V.seq (V.region (O.q rfl (Pu.lss rfl rfl rfl) (O.nil (X.next (V.seq (V.condD rfl (fun c1 => ?_) (fun c1 => ?_)))))))
 ·refine V.skip (X.next (V.seq (V.block (V.seq (V.region (O.q rfl (Pu.indexAddr (i) rfl Tryz.underlying24 sz65 rfl rfl (by omega) (by omega) (hblocks.some (by omega))) ?_))))))
  have e1 : i < blocks.length := by omega
  refine O.q rfl (Pu.loadAgg' (v := B3.v (blocks[i]'e1)) rfl rfl ag65 sz65 rfl rfl (Ld.rds (Ld.old hblocks) (k := i) e1 rfl)) (O.f rfl (Ef.alloc rfl zr65 rfl) ?_)
  rintro _ _ ⟨b3, rfl, rfl⟩
  refine O.s rfl rfl (Ef.storeAll 0 rfl sz65 rfl rfl rfl rfl (by simp [Value.oneCell']) rfl) ?_
  rintro _ _ rfl
  refine O.nil (X.next (V.seq ?_))
  have hgb := hg _ (List.getElem_mem e1)
  have htx := tix_lt hgb
  refine V.region (O.q rfl (Pu.loadAgg' (v := B3.v (blocks[i]'e1)) rfl rfl ag65 sz65 rfl rfl (Ld.whole 0 rfl)) (O.f rfl (Ef.callP call117 rfl rfl (fun w hw => numberOfTriple_ok  (blocks[i]'e1) w   hgb)) ?_))
  rintro _ _ ⟨rfl, rfl⟩
  refine O.m rfl (O.nil (X.next ?_))
  have hWl : W.length = 2 := by rw [hW]; rfl
  refine V.draw mo (by kernel_rfl) (fun hwf => D.m 0 rfl (D.q 1 rfl (Pu.quoN (tix (blocks[i]'e1) / 64) (by omega) (by omega) (by omega) (by omega) rfl rfl rfl) (D.q 2 rfl (Pu.indexArr (tix (blocks[i]'e1) / 64) (0 + tix (blocks[i]'e1) / 64 * 1) rfl Tryz.underlying104 sz99 rfl rfl (by omega) (by omega) rfl) (D.q 3 rfl (Pu.load rfl pl99 rfl (Ld.arrU (n := 2) (k := tix (blocks[i]'e1) / 64) 1 rfl rfl (by omega) (by exact hWl))) (D.m 4 rfl (D.q 5 rfl (Pu.rem64' (r := ((tix (blocks[i]'e1) % 64 : Nat) : Int)) (by omega) (by omega) (by omega) rfl rfl rfl) (D.q 6 rfl (Pu.shl1W (p := (tix (blocks[i]'e1) % 64)) (by omega) rfl rfl rfl) (D.q 7 rfl (Pu.orW (m := (W.getD (tix (blocks[i]'e1) / 64) 0)) (n := (2 ^ (tix (blocks[i]'e1) % 64))) (wd_lt hW hlt) (pow64_lt (by omega)) rfl rfl rfl) (D.q 8 rfl (Pu.indexArr (tix (blocks[i]'e1) / 64) (0 + tix (blocks[i]'e1) / 64 * 1) rfl Tryz.underlying104 sz99 rfl rfl (by omega) (by omega) rfl) (D.effX (Hs' := []) hwf (e := 9) rfl rfl rfl rfl (Ef.storeArrU (n := 2) (xs := W) 1 (tix (blocks[i]'e1) / 64) rfl sz99 rfl rfl rfl rfl (by omega) (by exact hWl)) rfl [] rfl (List.forall_mem_nil _) ?_))))))))))
  rintro _ _ rfl
  exact ⟨fun w hw => hw.sub (Sub.nil _), (D.done hwf rfl (X.blockNormal (X.next (V.region (O.q rfl (Pu.add64 (r := ((i + 1 : Nat) : Int)) rfl (by omega) rfl rfl rfl) (O.m rfl (O.nil (X.back3 (i + 1, (W.set (tix (blocks[i]'e1) / 64) ((W.getD (tix (blocks[i]'e1) / 64) 0) ||| (2 ^ (tix (blocks[i]'e1) % 64))))) (by (try dsimp only); exact ⟨by omega, by rw [hW, wd_set (by omega), take_snoc e1, mk_snoc], by rw [take_snoc e1, mk_snoc]; exact Nat.or_lt_two_pow hlt (Nat.pow_lt_pow_right (by decide) htx)⟩) (by first | omega | (dsimp only; omega)) (Ent.cons rfl (Ent.nil _)) (Ent.cons (t := 2) rfl (Ent.cons (t := 3) rfl (Ent.cons (t := 7) rfl (Ent.cons (t := 8) rfl (Ent.nil _))))) (Sub.keep 1 rfl (Sub.keep 1 rfl (Sub.nil _)))))))))))⟩
 ·refine V.exit (X.thenExit (X.thenExit (X.blockHit (X.next (V.seq ?_)))))
  subst hW
  have hend : blocks.take i = blocks := List.take_of_length_le (by omega)
  rw [hend] at hlt ⊢
  refine V.region (O.q rfl (Pu.loadAgg rfl ag104 sz104 rfl rfl (Ld.whole 0 rfl)) (O.s rfl rfl (Ef.storeAll 1 rfl sz104 rfl rfl rfl rfl (by simp [Value.oneCell']) rfl) ?_))
  rintro _ _ rfl
  exact O.nil (X.next (V.ret (X.retCell rfl ag104 sz104 rfl rfl (Ld.whole 1 rfl) (fun w hw => St.retP (by rfl) hw))))
def L_largeSets (n : Nat) : Prop := ∀ (out : List (Sl × List Int)) (ms : List Nat) (now : List Int) (dn : Nat) (outA : Option Addr) (outc : Nat) (msA : Option Addr) (msc : Nat) (nowA : Option Addr) (nowc : Nat) (w0 : World) (H : List Assn) (hms : ∀ w, St w0 H w → Rd PicC w msA ms) (hnow : ∀ w, St w0 H w → Rd I64 w nowA now) (lms : ms.length ≤ 1099511627776) (lnow : now.length ≤ 1099511627776) (hM : Nines ms) (hF : Fam n dn) (hN : NowOk n now dn) (hl6 : now.length + n = 6) (hB : out.length + (famT ms n now dn).length ≤ 100000000), Does Tryz.prog 83 [.slice outA (tops out).length outc, .slice msA ms.length msc, .slice nowA now.length nowc, Pv dn] w0 (Own 53 SlC outA outc (tops out) :: RowsA 2 I64 out :: H) (fun rv_ => [.exi fun (rA : Option Addr) => .exi fun (rc : Nat) => .exi fun (r : List (Sl × List Int)) => .sep (.pur (rv_ = .slice rA (tops r).length rc ∧ conts r = conts out ++ famT ms n now dn)) (.sep (Own 53 SlC rA rc (tops r)) (RowsA 2 I64 r))] ++ H)
set_option maxRecDepth 100000 in
set_option maxHeartbeats 1000000 in
theorem largeSets_step (n : Nat) (ih : ∀ n', n' < n → L_largeSets n') (out : List (Sl × List Int)) (ms : List Nat) (now : List Int) (dn : Nat) (outA : Option Addr) (outc : Nat) (msA : Option Addr) (msc : Nat) (nowA : Option Addr) (nowc : Nat) (w0 : World) (H : List Assn) (hms : ∀ w, St w0 H w → Rd PicC w msA ms) (hnow : ∀ w, St w0 H w → Rd I64 w nowA now) (lms : ms.length ≤ 1099511627776) (lnow : now.length ≤ 1099511627776) (hM : Nines ms) (hF : Fam n dn) (hN : NowOk n now dn) (hl6 : now.length + n = 6) (hB : out.length + (famT ms n now dn).length ≤ 100000000) : Does Tryz.prog 83 [.slice outA (tops out).length outc, .slice msA ms.length msc, .slice nowA now.length nowc, Pv dn] w0 (Own 53 SlC outA outc (tops out) :: RowsA 2 I64 out :: H) (fun rv_ => [.exi fun (rA : Option Addr) => .exi fun (rc : Nat) => .exi fun (r : List (Sl × List Int)) => .sep (.pur (rv_ = .slice rA (tops r).length rc ∧ conts r = conts out ++ famT ms n now dn)) (.sep (Own 53 SlC rA rc (tops r)) (RowsA 2 I64 r))] ++ H) := by
 refine Does.enter Tryz.func83 rfl rfl [(0, .slice outA (tops out).length outc), (1, .slice msA ms.length msc), (2, .slice nowA now.length nowc), (3, Pv dn)] rfl (V.fact (RowsA.len 1 rfl) (fun hn_out => ?_))
 have htl_out := tops_len out
 have hco := conts_len out
 have hml := hM.len
 refine V.seq (V.region (O.f rfl (Ef.box rfl rfl rfl) ?_))
 rintro _ _ ⟨b1, rfl, rfl⟩
 refine O.m rfl (O.nil (X.next (V.seq (V.seq (V.region (O.m rfl (O.q rfl (Pu.len rfl Tryz.underlying53 rfl) (O.q rfl (Pu.eql rfl rfl rfl) (O.nil (X.next (V.condD rfl (fun c1 => ?_) (fun c1 => ?_))))))))))))
 ·have hn0 : n = 0 := by omega
  refine V.seq (V.region (O.m rfl (O.f rfl (Ef.call1 call118 rfl rfl (fun w hw => cloneI_ok now _ _ w ((fun w hw => hnow w (hw.sub (Sub.drop (Sub.drop (Sub.drop (Sub.refl _)))))) w hw) (by omega))) ?_)))
  rintro _ _ rfl
  refine O.exi (fun p1 => O.sep (O.pur ?_))
  rintro ⟨rfl, hp1⟩
  refine O.m rfl (O.nil (X.next (V.seq (V.region (O.m rfl (O.f rfl (Ef.call call119 rfl rfl (Does.pre (fun w hw => hw.sub (Sub.k (Sub.k (Sub.k (Sub.k (Sub.refl _)))))) (sortInt_ok  (p1.2) _ _ w0 _   (by rw [hp1]; omega)))) ?_))))))
  rintro _ _ rfl
  refine O.sep (O.pur ?_)
  rintro rfl
  refine O.nil (X.next (V.seq ?_))
  have hso : sortI p1.2 = p1.2 := (sortI_unique (List.Perm.refl _) (by rw [hp1]; exact hN.1.imp fun h => Int.le_of_lt h)).symm
  rw [hso]
  refine V.region (O.m rfl (O.m rfl (O.f rfl (Ef.build SlC ([⟨p1.1.1, p1.2.length, p1.1.2⟩] : List Sl) rfl Tryz.underlying60 inf53 rfl rfl rfl (by first | decide | (simp; done)) (by kernel_rfl)) ?_)))
  rintro _ _ ⟨A1, hA1, rfl, rfl⟩
  refine O.f rfl (Ef.append (xs := (tops out)) (ys := ([⟨p1.1.1, p1.2.length, p1.1.2⟩] : List Sl)) 3 rfl Tryz.underlying60 inf53 rfl rfl rfl rfl rfl rfl hA1 (Ld.own 0 (by exact rfl)) (by simp only [List.length_append, List.length_cons, List.length_nil] at *; omega) (by decide)) ?_
  rintro _ _ ⟨A2, k1, rfl, rfl, hA2⟩
  replace hA2 := hA2 (.inr (by simp))
  exact O.map (fun w hw => snoc_heap (ps := out) (xs := p1.2) (hw.sub (Sub.keep 3 rfl (Sub.keep 3 rfl (Sub.keep 1 rfl (Sub.k (Sub.k (Sub.refl _)))))))) (O.m rfl (O.nil (X.next (V.ret (X.thenRet (X.ret1 rfl rfl (fun w hw => St.mkExi A2 (St.mkExi k1 (St.mkExi (out ++ [((⟨p1.1.1, p1.2.length, p1.1.2⟩ : Sl), p1.2)]) (St.unsep (St.addPur ⟨(by first | rfl | (simp only [tops_append]; done) | (simp only [tops_append]; rfl)), by rw [conts_append, famT_zero hn0, hp1]; rfl⟩ (St.unsep (hw.sub (Sub.k (Sub.k (Sub.drop (Sub.drop (Sub.refl _))))))))))))))))))
 ·have hn0 : 0 < n := by omega
  have hF1 : Fam (n - 1 + 1) dn := by rw [show n - 1 + 1 = n by omega]; exact hF
  have hN1 : NowOk (n - 1 + 1) now dn := by rw [show n - 1 + 1 = n by omega]; exact hN
  have hpv := hF.piv hn0
  rw [famT_pos hn0] at hB
  refine V.skip (X.next (V.seq (V.region (O.q rfl (Pu.loadAgg rfl ag104 sz104 rfl rfl (Ld.whole 0 rfl)) (O.f rfl (Ef.callP (r := .int .i64 ((pivD dn : Nat) : Int)) call120 rfl rfl (fun w hw => picFirst_ok  dn w   hpv.1 hpv.2.1 hpv.2.2)) ?_)))))
  rintro _ _ ⟨rfl, rfl⟩
  refine O.m rfl (O.nil (X.next (V.seq (V.seq (V.region (O.m rfl (O.q rfl (Pu.len rfl Tryz.underlying102 rfl) (O.m rfl (O.nil (X.next (V.block ?_)))))))))))
  refine V.loop3 (β := (Option Addr) × Nat × (List (Sl × List Int)) × Nat) (fun x => [(0, .slice x.1 (tops x.2.2.1).length x.2.1), (28, .int .i64 (x.2.2.2 : Int))]) _ (fun x => [Own 53 SlC x.1 x.2.1 (tops x.2.2.1), RowsA 2 I64 x.2.2.1]) _ (fun x => x.2.2.2 ≤ ms.length ∧ conts x.2.2.1 = conts out ++ famP ms (n - 1) now dn x.2.2.2) (fun x => ms.length - x.2.2.2) (outA, outc, out, 0) (by (try dsimp only); exact ⟨by omega, by simp [famP]⟩) (Ent.cons rfl (Ent.cons rfl (Ent.nil _))) (Ent.cons (t := 1) rfl (Ent.cons (t := 2) rfl (Ent.cons (t := 7) rfl (Ent.cons (t := 10) rfl (Ent.cons (t := 26) rfl (Ent.cons (t := 27) rfl (Ent.nil _))))))) (Sub.keep 1 rfl (Sub.keep 1 rfl (Sub.k (Sub.refl _)))) ?_
  rintro ⟨oA, oc, o, i⟩ ⟨hi, ho⟩
  dsimp only at hi ho ⊢
  have hclo := conts_len o
  have hclo2 := congrArg List.length ho
  rw [List.length_append] at hclo2
  refine V.fact (RowsA.len 1 rfl) (fun hn_o => ?_)
  have htl_o := tops_len o
  refine V.seq (V.region (O.q rfl (Pu.lss rfl rfl rfl) (O.nil (X.next (V.seq (V.condD rfl (fun c2 => ?_) (fun c2 => ?_)))))))
  ·refine V.skip (X.next (V.seq (V.block (V.seq (V.region (O.m rfl (O.q rfl (Pu.indexAddrS (i) rfl Tryz.underlying102 sz104 rfl rfl (by omega) (by omega) (fun w hw => ((fun w hw => hms w (hw.sub (Sub.drop (Sub.drop (Sub.drop (Sub.refl _)))))) w hw).some (by omega))) ?_)))))))
   have e1 : i < ms.length := by omega
   refine O.q rfl (Pu.loadAgg' (v := Pv (ms[i]'e1)) rfl rfl ag104 sz104 rfl rfl (Ld.rds (C := PicC) (fun w hw => hms w (hw.sub (Sub.drop (Sub.drop (Sub.drop (Sub.refl _)))))) (k := i) e1 rfl)) (O.f rfl (Ef.alloc rfl zr104 rfl) ?_)
   rintro _ _ ⟨b2, rfl, rfl⟩
   refine O.m rfl (O.s rfl rfl (Ef.storeAll 0 rfl sz104 rfl rfl rfl rfl (by simp [Value.oneCell']) rfl) ?_)
   rintro _ _ rfl
   refine O.nil (X.next (V.seq (V.region (O.q rfl (Pu.loadAgg rfl ag104 sz104 rfl rfl (Ld.whole 0 rfl)) (O.m rfl (O.f rfl (Ef.callP (r := .bool (decide ((ms[i]'e1).testBit (pivD dn) = true))) call121 rfl rfl (fun w hw => picHas_ok  (ms[i]'e1) (pivD dn) w   hpv.1)) ?_))))))
   rintro _ _ ⟨rfl, rfl⟩
   refine O.m rfl (O.splitD 36 rfl (fun c3 => ?_) (fun c3 => ?_))
   ·refine O.gq rfl (Pu.loadAgg rfl ag104 sz104 rfl rfl (Ld.whole 0 rfl)) (O.gq rfl (Pu.loadAgg rfl ag104 sz104 rfl rfl (Ld.whole 3 rfl)) (O.gf rfl (Ef.callP (r := .bool (decide ((ms[i]'e1) &&& dn = 0))) call122 rfl rfl (fun w hw => picApart_ok  (ms[i]'e1) dn w   (hM.lt _ e1) hF.lt)) ?_))
    rintro _ _ ⟨rfl, rfl⟩
    refine O.m rfl (O.nil (X.next (V.condD rfl (fun c4 => ?_) (fun c4 => ?_))))
    ·have hx : nextF dn (ms[i]'e1) := ⟨c3, c4⟩
     have hst := Fam.step hM hF1 e1 hx
     have hfy := famP_yes (k := n - 1) (now := now) e1 hx
     have hfl := congrArg List.length hfy
     rw [List.length_append] at hfl
     have hfm := famP_len (ms := ms) (k := n - 1) (now := now) (D := dn) (i := i + 1) (c := ms.length) e1
     refine V.drawS mo (by kernel_rfl) (Sub.keep 3 rfl (Sub.k (Sub.drop (Sub.drop (Sub.refl _))))) (fun hwf => D.m 0 rfl (D.m 1 rfl (D.m 2 rfl (D.m 4 rfl (D.q 7 rfl (Pu.loadAgg rfl ag104 sz104 rfl rfl (Ld.whole 0 rfl)) (D.q 8 rfl (Pu.loadAgg rfl ag104 sz104 rfl rfl (Ld.whole 1 rfl)) (D.twoBC hwf (e1 := 5) (e2 := 3) rfl rfl rfl rfl rfl rfl rfl rfl rfl rfl rfl rfl rfl rfl rfl rfl rfl (fun H hs => Ef.build I64 ([(↑i : Int)] : List Int) rfl Tryz.underlying53 inf2 rfl rfl rfl (by first | decide | (simp; done)) (by kernel_rfl)) (fun H hs => Ef.call1 call118 rfl rfl (fun w hw => cloneI_ok now _ _ w ((fun w hw => hnow w (hw.sub (Sub.drop (Sub.drop (Sub.refl _))))) w (hs w hw)) (by omega))) ?_)))))))
     rintro A3 _ hA3
     refine D.exi (fun p2 => D.sep (D.pur1 ?_))
     rintro ⟨rfl, hp2⟩
     have hp2l := congrArg List.length hp2
     refine D.f hwf 6 rfl (Ef.append (xs := p2.2) (ys := ([(↑i : Int)] : List Int)) 0 rfl Tryz.underlying53 inf2 rfl rfl rfl rfl rfl rfl hA3 (Ld.own 1 (by exact rfl)) (by simp only [List.length_append, List.length_cons, List.length_nil] at *; omega) (by decide)) ?_
     rintro _ _ ⟨A4, k2, rfl, rfl, hA4⟩ hs
     replace hA4 := hA4 (.inr (by simp))
     refine ⟨fun w hw => hw.sub (Sub.keep 5 rfl (Sub.keep 2 rfl (Sub.drop (Sub.drop (Sub.drop (Sub.drop (Sub.refl _))))))), (D.f hwf 9 rfl (Ef.callP (r := Pv (dn ||| (ms[i]'e1))) call123 rfl rfl (fun w hw => picWith_ok  dn (ms[i]'e1) w   hF.lt (hM.lt _ e1))) ?_)⟩
     rintro _ _ ⟨rfl, rfl⟩ hs
     refine ⟨fun w hw => hw.sub (Sub.keep 5 rfl (Sub.keep 2 rfl (Sub.drop (Sub.drop (Sub.drop (Sub.drop (Sub.refl _))))))), (D.f hwf 10 rfl (Ef.call call83 rfl rfl (Does.pre (fun w hw => hw.sub (Sub.keep 3 rfl (Sub.keep 3 rfl (Sub.k (Sub.k (Sub.k (Sub.k (Sub.refl _)))))))) (ih (n - 1) (by omega)  o ms (p2.2 ++ ([(↑i : Int)] : List Int)) (dn ||| (ms[i]'e1)) _ _ _ _ _ _ w0 _ (fun w hw => hms w (hw.sub (Sub.drop (Sub.drop (Sub.drop (Sub.drop (Sub.refl _))))))) (Ld.own 0 (by exact rfl)) (by first | omega | (simp only [tops_len, conts_len, bl, List.length_append, List.length_cons, List.length_nil] at *; omega)) (by first | omega | (simp only [tops_len, conts_len, bl, List.length_append, List.length_cons, List.length_nil] at *; omega)) hM hst (by rw [hp2]; exact now_step hM hF1 e1 hx hN1) (by simp only [List.length_append, List.length_singleton]; rw [hp2]; omega) (by rw [hp2]; omega)))) ?_)⟩
     rintro _ _ rfl hs
     refine ⟨fun w hw => hw.tail.sub (Sub.keep 3 rfl (Sub.keep 2 rfl (Sub.drop (Sub.drop (Sub.refl _))))), (D.exi (fun r1A => D.exi (fun r1c => D.exi (fun r1 => D.sep (D.pur1 ?_)))))⟩
     rintro ⟨rfl, hr1_1⟩
     refine D.sep (D.pur (RowsA.len 1 rfl) (fun hn_r1 => ?_))
     have htl_r1 := tops_len r1
     exact D.last hwf (e := 11) rfl rfl rfl rfl rfl rfl (Pu.assign rfl rfl) (X.blockNormal (X.next (V.region (O.q rfl (Pu.add64 (r := ((i + 1 : Nat) : Int)) rfl (by omega) rfl rfl rfl) (O.m rfl (O.nil (X.back3 (r1A, r1c, r1, i + 1) (by (try dsimp only); exact ⟨by omega, by rw [hr1_1, ho, hfy, hp2, List.append_assoc]⟩) (by first | omega | (dsimp only; omega)) (Ent.cons' rfl (by first | rfl | (simp only [tops_append]; done) | (simp only [tops_append]; rfl)) (Ent.cons rfl (Ent.nil _))) (Ent.cons (t := 1) rfl (Ent.cons (t := 2) rfl (Ent.cons (t := 7) rfl (Ent.cons (t := 10) rfl (Ent.cons (t := 26) rfl (Ent.cons (t := 27) rfl (Ent.nil _))))))) (Sub.k (Sub.k (Sub.keep 3 rfl (Sub.drop (Sub.drop (Sub.drop (Sub.refl _))))))))))))))
    ·have hnx : ¬ nextF dn (ms[i]'e1) := fun h => c4 h.2
     exact V.skip (X.blockNormal (X.next (V.region (O.q rfl (Pu.add64 (r := ((i + 1 : Nat) : Int)) rfl (by omega) rfl rfl rfl) (O.m rfl (O.nil (X.back3 (oA, oc, o, i + 1) (by (try dsimp only); exact ⟨by omega, by rw [famP_no e1 hnx]; exact ho⟩) (by first | omega | (dsimp only; omega)) (Ent.cons' rfl (by first | rfl | (simp only [tops_append]; done) | (simp only [tops_append]; rfl)) (Ent.cons rfl (Ent.nil _))) (Ent.cons (t := 1) rfl (Ent.cons (t := 2) rfl (Ent.cons (t := 7) rfl (Ent.cons (t := 10) rfl (Ent.cons (t := 26) rfl (Ent.cons (t := 27) rfl (Ent.nil _))))))) (Sub.keep 1 rfl (Sub.keep 1 rfl (Sub.keep 1 rfl (Sub.drop (Sub.refl _))))))))))))
   ·have hnx : ¬ nextF dn (ms[i]'e1) := fun h => c3 h.1
    refine O.g rfl (O.g rfl (O.g rfl (O.m rfl (O.nil (X.next (V.condF rfl (V.skip (X.blockNormal (X.next (V.region (O.q rfl (Pu.add64 (r := ((i + 1 : Nat) : Int)) rfl (by omega) rfl rfl rfl) ?_)))))))))))
    exact O.m rfl (O.nil (X.back3 (oA, oc, o, i + 1) (by (try dsimp only); exact ⟨by omega, by rw [famP_no e1 hnx]; exact ho⟩) (by first | omega | (dsimp only; omega)) (Ent.cons' rfl (by first | rfl | (simp only [tops_append]; done) | (simp only [tops_append]; rfl)) (Ent.cons rfl (Ent.nil _))) (Ent.cons (t := 1) rfl (Ent.cons (t := 2) rfl (Ent.cons (t := 7) rfl (Ent.cons (t := 10) rfl (Ent.cons (t := 26) rfl (Ent.cons (t := 27) rfl (Ent.nil _))))))) (Sub.keep 1 rfl (Sub.keep 1 rfl (Sub.keep 1 rfl (Sub.drop (Sub.refl _)))))))
  ·refine V.exit (X.thenExit (X.thenExit (X.blockHit (X.next (V.seq (V.region (O.m rfl (O.m rfl (O.nil (X.next (V.ret ?_)))))))))))
   exact X.ret1 rfl rfl (fun w hw => St.mkExi oA (St.mkExi oc (St.mkExi o (St.unsep (St.addPur ⟨(by first | rfl | (simp only [tops_append]; done) | (simp only [tops_append]; rfl)), by rw [famT_pos hn0, ← show i = ms.length by omega]; exact ho⟩ (St.unsep (hw.sub (Sub.k (Sub.k (Sub.drop (Sub.refl _)))))))))))
theorem largeSets_ok (n : Nat) : L_largeSets n := by
 induction n using Nat.strongRecOn with
 | _ n ih => exact fun out ms now dn outA outc msA msc nowA nowc w0 H hms hnow lms lnow hM hF hN hl6 hB => largeSets_step n ih out ms now dn outA outc msA msc nowA nowc w0 H hms hnow lms lnow hM hF hN hl6 hB
set_option maxRecDepth 100000 in
set_option maxHeartbeats 1000000 in
theorem largeSetsWith_ok (v : Int) (bs : List B3) (A : Option Addr) (c : Nat) (w : World) (hx : Rd B3C w A bs) (lx : bs.length ≤ 4611686018427387904) : Does Tryz.prog 40 [.agg #[.int .i64 v, .slice A bs.length c]] w [] (fun rv_ => [.exi fun (sA : Option Addr) => .exi fun (sc : Nat) => .exi fun (s : List (Sl × List B3)) => .exi fun (rA : Option Addr) => .exi fun (rc : Nat) => .exi fun (r : List (Sl × List Int)) => .sep (.pur (rv_ = .tuple #[.slice sA (tops s).length sc, .slice rA (tops r).length rc, .int .i64 (lfC v bs)] ∧ (lfC v bs = 0 → conts s = compM 40 9 0 ∧ conts r = famL bs) ∧ (¬ lfC v bs = 0 → conts r = []))) (.sep (.sep (.sep (Own 26 (SyC 9) sA sc (tops s)) (RowsA 65 B3C s)) (Own 53 SlC rA rc (tops r))) (RowsA 2 I64 r))]) := by
 refine Does.enter Tryz.func40 rfl rfl [(0, .agg #[.int .i64 v, .slice A bs.length c])] rfl (V.seq (V.region (O.f rfl (Ef.box rfl rfl rfl) ?_)))
 rintro _ _ ⟨b1, rfl, rfl⟩
 refine O.m rfl (O.m rfl (O.m rfl (O.nil (X.next (V.seq (V.block (V.seq (V.region (O.q rfl (Pu.loadAgg rfl ag26 sz26 rfl rfl (Ld.whole 0 rfl)) (O.f rfl (Ef.callP call50 rfl rfl (fun w hw => IsSystem_ok _ bs _ _ w ((Ld.old hx) w hw) (by omega))) ?_))))))))))
 rintro _ _ ⟨rfl, rfl⟩
 refine O.q rfl (Pu.not rfl rfl) (O.m rfl (O.nil (X.next (V.condNot rfl (fun c1 => ?_) (fun c1 => ?_)))))
 ·exact V.seq (V.region (O.m rfl (O.m rfl (O.m rfl (O.nil (X.next (V.ret (X.blockRet (X.thenRet (X.ret3 rfl rfl rfl rfl (fun w hw => St.mkExi none (St.mkExi 0 (St.mkExi [] (St.mkExi none (St.mkExi 0 (St.mkExi [] (St.unsep (St.addPur ⟨(by rw [lf_1 c1]; try rfl), (fun h => by rw [lf_1 c1] at h; exact absurd h (by decide)), (fun _ => rfl)⟩ (St.unsep (St.unsep (St.unsep (St.addNil (T := 26) (C := (SyC 9)) (RowsA.nil (T := 65) (C := B3C) (St.addNil (T := 53) (C := SlC) (RowsA.nil (T := 2) (C := I64) (hw.sub (Sub.nil _)))))))))))))))))))))))))))
 ·have hS := c1
  have hfw := c1.few
  have hlo := c1.lo
  have hhi := c1.hi
  have hmul := sts_mul c1
  refine V.seq (V.region (O.q rfl (Pu.fieldAddr 0 rfl Tryz.underlying26 rfl sz2 rfl rfl) (O.q rfl (Pu.load rfl pl2 rfl (Ld.blk 0 rfl rfl)) (O.q rfl (Pu.neq rfl rfl rfl) (O.m rfl (O.splitN 17 rfl (fun c2 => ?_) (fun c2 => ?_)))))))
  ·refine O.g rfl (O.g rfl (O.g rfl (O.m rfl (O.m rfl (O.nil (X.next (V.condT rfl (V.seq (V.region (O.m rfl (O.m rfl ?_)))))))))))
   exact O.m rfl (O.nil (X.next (V.ret (X.blockRet (X.thenRet (X.ret3 rfl rfl rfl rfl (fun w hw => St.mkExi none (St.mkExi 0 (St.mkExi [] (St.mkExi none (St.mkExi 0 (St.mkExi [] (St.unsep (St.addPur ⟨(by rw [lf_5 hS (fun h => c2 h.1)]; try rfl), (fun h => by rw [lf_5 hS (fun h => c2 h.1)] at h; exact absurd h (by decide)), (fun _ => rfl)⟩ (St.unsep (St.unsep (St.unsep (St.addNil (T := 26) (C := (SyC 9)) (RowsA.nil (T := 65) (C := B3C) (St.addNil (T := 53) (C := SlC) (RowsA.nil (T := 2) (C := I64) (hw.sub (Sub.nil _)))))))))))))))))))))))
  ·refine O.gq rfl (Pu.loadAgg rfl ag26 sz26 rfl rfl (Ld.whole 0 rfl)) (O.gf rfl (Ef.callP call64 rfl rfl (fun w hw => isFullI_ok  v bs _ _ w ((Ld.old hx) w hw) (by first | omega | (simp only [tops_len, conts_len, bl, List.length_append, List.length_cons, List.length_nil] at *; omega)) (by first | assumption | omega | (try dsimp only at *; omega)) (by first | assumption | omega | (try dsimp only at *; omega)) (by first | assumption | omega | (try dsimp only at *; omega)))) ?_)
   rintro _ _ ⟨rfl, rfl⟩
   refine O.gq rfl (Pu.not rfl rfl) (O.m rfl (O.m rfl (O.nil (X.next (V.condNot rfl (fun c3 => ?_) (fun c3 => ?_))))))
   ·exact V.seq (V.region (O.m rfl (O.m rfl (O.m rfl (O.nil (X.next (V.ret (X.blockRet (X.thenRet (X.ret3 rfl rfl rfl rfl (fun w hw => St.mkExi none (St.mkExi 0 (St.mkExi [] (St.mkExi none (St.mkExi 0 (St.mkExi [] (St.unsep (St.addPur ⟨(by rw [lf_5 hS (fun h => c3 h.2)]; try rfl), (fun h => by rw [lf_5 hS (fun h => c3 h.2)] at h; exact absurd h (by decide)), (fun _ => rfl)⟩ (St.unsep (St.unsep (St.unsep (St.addNil (T := 26) (C := (SyC 9)) (RowsA.nil (T := 65) (C := B3C) (St.addNil (T := 53) (C := SlC) (RowsA.nil (T := 2) (C := I64) (hw.sub (Sub.nil _)))))))))))))))))))))))))))
   ·have hv9 : v = 9 := by omega
    have hfull := c3
    have hmem := nine_mem hS hv9 hfull
    have hfl := few_len (v := 9) (.inr (.inr rfl))
    have hbg := nine_good hmem
    refine V.skip (X.blockNormal (X.next (V.seq (V.region (O.f rfl (Ef.call1 call81 rfl rfl (fun w hw => systemsOfI_ok 40 (9 : Int) w   (by decide) hfl.2.2.1 hfl.2.1 hfl.1 (by decide))) ?_)))))
    rintro _ _ rfl
    refine O.exi (fun r1A => O.exi (fun r1c => O.exi (fun r1 => O.sep (O.pur ?_))))
    rintro ⟨rfl, hr1_1⟩
    refine O.sep (O.fact (RowsA.len 1 rfl) (fun hn_r1 => ?_))
    have htl_r1 := tops_len r1
    replace hr1_1 : conts r1 = compM 40 9 0 := hr1_1
    have hclr1 := conts_len r1
    have hrn : r1.length = 840 := by rw [← hclr1, hr1_1]; exact nine_count
    refine O.m rfl (O.nil (X.next (V.seq (V.region (O.m rfl (O.nil (X.next (V.seq (V.seq (V.region (O.m rfl ?_)))))))))))
    refine O.q rfl (Pu.len rfl Tryz.underlying28 rfl) (O.m rfl (O.nil (X.next (V.block (V.map (fun w hw => St.addNil (T := 104) (C := PicC) hw) (V.loop3 (β := (Option Addr) × Nat × (List Nat) × Nat) (fun x => [(6, .slice x.1 x.2.2.1.length x.2.1), (25, .int .i64 (x.2.2.2 : Int))]) _ (fun x => [Own 104 PicC x.1 x.2.1 x.2.2.1]) _ (fun x => x.2.2.2 ≤ r1.length ∧ x.2.2.1 = ms9.take x.2.2.2) (fun x => r1.length - x.2.2.2) (none, 0, [], 0) (by (try dsimp only); exact ⟨by omega, rfl⟩) (Ent.cons rfl (Ent.cons rfl (Ent.nil _))) (Ent.cons (t := 1) rfl (Ent.cons (t := 5) rfl (Ent.cons (t := 23) rfl (Ent.cons (t := 24) rfl (Ent.nil _))))) (Sub.k (Sub.k (Sub.k (Sub.k (Sub.nil _))))) ?_))))))
    rintro ⟨allA, allc, all, i⟩ ⟨hi, ha⟩
    dsimp only at hi ha ⊢
    have hal : all.length ≤ i := by rw [ha, List.length_take]; omega
    refine V.seq (V.region (O.q rfl (Pu.lss rfl rfl rfl) (O.nil (X.next (V.seq (V.condD rfl (fun c4 => ?_) (fun c4 => ?_)))))))
    ·refine V.skip (X.next (V.seq (V.block (V.seq (V.region (O.q rfl (Pu.indexAddrS (i) rfl Tryz.underlying28 sz26 rfl rfl (by omega) (by omega) (fun w hw => Own.some hw (i := 1) (by exact rfl) (by omega))) ?_))))))
     have e1 : i < r1.length := by have := tops_len r1; omega
     refine O.q rfl (Pu.loadAgg' (v := .agg #[.int .i64 (9 : Int), .slice (r1[i]'e1).1.A (r1[i]'e1).2.length (r1[i]'e1).1.c]) rfl rfl ag26 sz26 rfl rfl (Ld.rowY (Ld.own 1 (by exact rfl)) hn_r1 e1 rfl)) (O.f rfl (Ef.alloc rfl zr26 rfl) ?_)
     rintro _ _ ⟨b2, rfl, rfl⟩
     refine O.s rfl rfl (Ef.storeAll 0 rfl sz26 rfl rfl rfl rfl (by simp [Value.oneCell']) rfl) ?_
     rintro _ _ rfl
     refine O.nil (X.next ?_)
     have hqm : (r1[i]'e1).2 ∈ compM 40 9 0 := by rw [← hr1_1]; exact List.mem_map_of_mem (List.getElem_mem e1)
     have hqg := nine_good hqm
     have hql : (r1[i]'e1).2.length ≤ 40 := compM_len 40 9 0 _ hqm
     refine V.region (O.m rfl (O.q rfl (Pu.fieldAddr 1 rfl Tryz.underlying26 rfl sz24 rfl rfl) (O.q rfl (Pu.load rfl pl24 rfl (Ld.blk 0 rfl rfl)) (O.f rfl (Ef.callP call82 rfl rfl (fun w hw => pictureOf_ok  ((r1[i]'e1).2) _ _ w ((Ld.rows 3 (by exact rfl) e1) w hw) (by omega) hqg)) ?_))))
     rintro _ _ ⟨rfl, rfl⟩
     refine O.f rfl (Ef.build PicC ([(mkF ((r1[i]'e1).2))] : List Nat) rfl Tryz.underlying102 inf104 rfl rfl rfl (by first | decide | (simp; done)) (by kernel_rfl)) ?_
     rintro _ _ ⟨A1, hA1, rfl, rfl⟩
     refine O.f rfl (Ef.append (xs := all) (ys := ([(mkF ((r1[i]'e1).2))] : List Nat)) 2 rfl Tryz.underlying102 inf104 rfl rfl rfl rfl rfl rfl hA1 (Ld.own 0 (by exact rfl)) (by simp only [List.length_append, List.length_cons, List.length_nil] at *; omega) (by decide)) ?_
     rintro _ _ ⟨A2, k1, rfl, rfl, hA2⟩
     replace hA2 := hA2 (.inr (by simp))
     exact O.m rfl (O.nil (X.blockNormal (X.next (V.region (O.q rfl (Pu.add64 (r := ((i + 1 : Nat) : Int)) rfl (by omega) rfl rfl rfl) (O.m rfl (O.nil (X.back3 (A2, k1, (all ++ ([(mkF ((r1[i]'e1).2))] : List Nat)), i + 1) (by (try dsimp only); exact ⟨by omega, by rw [ha, ms9_take hr1_1 e1]⟩) (by first | omega | (dsimp only; omega)) (Ent.cons rfl (Ent.cons rfl (Ent.nil _))) (Ent.cons (t := 1) rfl (Ent.cons (t := 5) rfl (Ent.cons (t := 23) rfl (Ent.cons (t := 24) rfl (Ent.nil _))))) (Sub.keep 2 rfl (Sub.keep 2 rfl (Sub.keep 2 rfl (Sub.keep 2 rfl (Sub.nil _)))))))))))))
    ·refine V.exit (X.thenExit (X.thenExit (X.blockHit (X.next (V.seq ?_)))))
     have hms : all = ms9 := by rw [ha, ms9_all (by omega)]
     refine V.region (O.m rfl (O.m rfl (O.q rfl (Pu.fieldAddr 1 rfl Tryz.underlying26 rfl sz24 rfl rfl) (O.q rfl (Pu.load rfl pl24 rfl (Ld.blk 3 rfl rfl)) (O.f rfl (Ef.callP call82 rfl rfl (fun w hw => pictureOf_ok  bs _ _ w ((Ld.old hx) w hw) (by omega) hbg)) ?_)))))
     rintro _ _ ⟨rfl, rfl⟩
     refine O.map (fun w hw => St.addNil (T := 53) (C := SlC) (RowsA.nil (T := 2) (C := I64) hw)) (O.f rfl (Ef.call call83 rfl rfl (Does.pre (fun w hw => hw.sub (Sub.k (Sub.k (Sub.k (Sub.k (Sub.k (Sub.k (Sub.nil _)))))))) (largeSets_ok 6  ([]) all ([]) (mkF bs) _ _ _ _ _ _ w _ (Ld.own 0 (by exact rfl)) (fun w hw => Rd.nil _ _ _) (by first | omega | (simp only [tops_len, conts_len, bl, List.length_append, List.length_cons, List.length_nil] at *; omega)) (by first | omega | (simp only [tops_len, conts_len, bl, List.length_append, List.length_cons, List.length_nil] at *; omega)) (by rw [hms]; exact nines_ms) (fam_of (mk_mem hmem)) ⟨List.Pairwise.nil, fun _ x hx => by simp at hx⟩ rfl (by rw [hms]; have := famL_len hmem; unfold famL at this; simp only [List.length_nil]; omega)))) ?_)
     rintro _ _ rfl
     refine O.exi (fun r2A => O.exi (fun r2c => O.exi (fun r2 => O.sep (O.pur ?_))))
     rintro ⟨rfl, hr2_1⟩
     refine O.sep (O.fact (RowsA.len 1 rfl) (fun hn_r2 => ?_))
     have htl_r2 := tops_len r2
     exact O.m rfl (O.m rfl (O.m rfl (O.nil (X.next (V.ret (X.ret3 rfl rfl rfl rfl (fun w hw => St.mkExi r1A (St.mkExi r1c (St.mkExi r1 (St.mkExi r2A (St.mkExi r2c (St.mkExi r2 (St.unsep (St.addPur ⟨(by rw [lf_0 hS hv9 hfull]), (fun _ => ⟨hr1_1, by rw [hr2_1, hms]; unfold famL conts; rw [List.map_nil, List.nil_append]⟩), (fun h => absurd (lf_0 hS hv9 hfull) h)⟩ (St.unsep (St.unsep (St.unsep (hw.sub (Sub.keep 3 rfl (Sub.keep 3 rfl (Sub.k (Sub.k (Sub.nil _)))))))))))))))))))))))
set_option maxRecDepth 100000 in
set_option maxHeartbeats 1000000 in
theorem implCountFamilies_ok (v : Int) (bs : List B3) (A : Option Addr) (c : Nat) (w : World) (hx : Rd B3C w A bs) (lx : bs.length ≤ 4611686018427387904) : Does Tryz.prog 21 [.agg #[.int .i64 v, .slice A bs.length c]] w [] (fun r => [.pur (r = .tuple #[.int .i64 (if lfC v bs = 0 then ((famL bs).length : Int) else 0), .int .i64 (lfC v bs)])]) := by
 refine Does.enter Tryz.func21 rfl rfl [(0, .agg #[.int .i64 v, .slice A bs.length c])] rfl (V.seq (V.region (O.f rfl (Ef.box rfl rfl rfl) ?_)))
 rintro _ _ ⟨b1, rfl, rfl⟩
 refine O.m rfl (O.m rfl (O.nil (X.next (V.seq (V.region (O.q rfl (Pu.loadAgg rfl ag26 sz26 rfl rfl (Ld.whole 0 rfl)) (O.f rfl (Ef.call1 call40 rfl rfl (fun w hw => largeSetsWith_ok  v bs _ _ w ((Ld.old hx) w hw) (by first | omega | (simp only [tops_len, conts_len, bl, List.length_append, List.length_cons, List.length_nil] at *; omega)) )) ?_)))))))
 rintro _ _ rfl
 refine O.exi (fun s1A => O.exi (fun s1c => O.exi (fun s1 => O.exi (fun r1A => O.exi (fun r1c => O.exi (fun r1 => O.sep (O.pur ?_)))))))
 rintro ⟨rfl, hs1_1, hs1_2⟩
 refine O.sep (O.sep (O.sep (O.fact (RowsA.len 1 rfl) (fun hn_s1 => ?_))))
 have htl_s1 := tops_len s1
 refine O.fact (RowsA.len 3 rfl) (fun hn_r1 => ?_)
 have htl_r1 := tops_len r1
 refine O.m rfl (O.m rfl (O.m rfl (O.m rfl (O.m rfl (O.m rfl (O.m rfl (O.nil (X.next (V.seq (V.region (O.m rfl ?_)))))))))))
 exact O.q rfl (Pu.len rfl Tryz.underlying60 rfl) (O.m rfl (O.m rfl (O.m rfl (O.nil (X.next (V.ret (X.ret2 rfl rfl rfl (fun w hw => St.addPur (by have hcl := conts_len r1; by_cases h : lfC v bs = 0; (· rw [if_pos h, tops_len, ← hcl, (hs1_1 h).2]; try rfl); (· rw [if_neg h, tops_len, ← hcl, hs1_2 h]; try rfl)) (hw.sub (Sub.nil _))))))))))
set_option maxRecDepth 100000 in
set_option maxHeartbeats 1000000 in
theorem l10Nine_ok (v : Int) (bs : List B3) (A : Option Addr) (c : Nat) (w : World) (hx : Rd B3C w A bs) (lx : bs.length ≤ 4611686018427387904) : Does Tryz.prog 44 [.agg #[.int .i64 v, .slice A bs.length c]] w [] (fun r => [.pur (r = .int .i64 (lfC v bs))]) := by
 refine Does.enter Tryz.func44 rfl rfl [(0, .agg #[.int .i64 v, .slice A bs.length c])] rfl (V.seq (V.region (O.f rfl (Ef.box rfl rfl rfl) ?_)))
 rintro _ _ ⟨b1, rfl, rfl⟩
 refine O.m rfl (O.nil (X.next (V.seq (V.region (O.q rfl (Pu.loadAgg rfl ag26 sz26 rfl rfl (Ld.whole 0 rfl)) (O.f rfl (Ef.callP call85 rfl rfl (fun w hw => l10Code_ok  v bs _ _ w ((Ld.old hx) w hw) (by first | omega | (simp only [tops_len, conts_len, bl, List.length_append, List.length_cons, List.length_nil] at *; omega)) )) ?_))))))
 rintro _ _ ⟨rfl, rfl⟩
 refine O.m rfl (O.nil (X.next (V.seq (V.seq (V.region (O.m rfl (O.q rfl (Pu.eql rfl rfl rfl) (O.m rfl (O.splitD 8 rfl (fun c1 => ?_) (fun c1 => ?_))))))))))
 ·refine O.gq rfl (Pu.fieldAddr 0 rfl Tryz.underlying26 rfl sz2 rfl rfl) (O.gq rfl (Pu.load rfl pl2 rfl (Ld.blk 0 rfl rfl)) (O.gq rfl (Pu.neq rfl rfl rfl) (O.m rfl (O.nil (X.next (V.condNot rfl (fun c2 => ?_) (fun c2 => ?_)))))))
  ·exact V.region (O.m rfl (O.nil (X.next (V.seq (V.region (O.m rfl (O.m rfl (O.nil (X.next (V.ret (X.ret1 rfl rfl (fun w hw => St.retP (iv (by first | exact lf_some c1 c2 | exact lf_else (fun _ => by omega) | exact lf_else (fun h => absurd h c1))) hw))))))))))))
  ·exact V.skip (X.next (V.seq (V.region (O.m rfl (O.m rfl (O.nil (X.next (V.ret (X.ret1 rfl rfl (fun w hw => St.retP (iv (by first | exact lf_some c1 c2 | exact lf_else (fun _ => by omega) | exact lf_else (fun h => absurd h c1))) hw))))))))))
 ·refine O.g rfl (O.g rfl (O.g rfl (O.m rfl (O.nil (X.next (V.condF rfl (V.skip (X.next (V.seq (V.region (O.m rfl ?_)))))))))))
  exact O.m rfl (O.nil (X.next (V.ret (X.ret1 rfl rfl (fun w hw => St.retP (iv (by first | exact lf_some c1 c2 | exact lf_else (fun _ => by omega) | exact lf_else (fun h => absurd h c1))) hw)))))
set_option maxRecDepth 100000 in
set_option maxHeartbeats 1000000 in
theorem l10Bits_ok (v : Int) (bs : List B3) (A : Option Addr) (c : Nat) (w : World) (hx : Rd B3C w A bs) (lx : bs.length ≤ 4611686018427387904) (hg : ∀ b ∈ bs, good 9 b) : Does Tryz.prog 87 [.agg #[.int .i64 v, .slice A bs.length c]] w [] (fun r => [.pur (r = .tuple #[.int .i64 ((mkF bs % 2 ^ 42 : Nat) : Int), .int .i64 ((mkF bs / 2 ^ 42 : Nat) : Int)])]) := by
 refine Does.enter Tryz.func87 rfl rfl [(0, .agg #[.int .i64 v, .slice A bs.length c])] rfl (V.seq (V.region (O.f rfl (Ef.box rfl rfl rfl) ?_)))
 rintro _ _ ⟨b1, rfl, rfl⟩
 refine O.m rfl (O.m rfl (O.nil (X.next (V.seq (V.region (O.m rfl (O.m rfl (O.nil (X.next (V.seq (V.seq ?_)))))))))))
 refine V.region (O.m rfl (O.nil (X.next (V.block (V.loop3 (β := Nat × Nat × Nat) (fun x => [(4, .int .i64 (x.1 : Int)), (5, .int .i64 (x.2.1 : Int)), (6, .int .i64 (x.2.2 : Int))]) _ (fun x => []) _ (fun x => x.2.2 ≤ bs.length ∧ x.1 = mkF (bs.take x.2.2) % 2 ^ 42 ∧ x.2.1 = mkF (bs.take x.2.2) / 2 ^ 42 ∧ mkF (bs.take x.2.2) < 2 ^ 84) (fun x => bs.length - x.2.2) (0, 0, 0) (by (try dsimp only); exact ⟨by omega, by rw [List.take_zero]; decide, by rw [List.take_zero]; decide, by rw [List.take_zero]; decide⟩) (Ent.cons rfl (Ent.cons rfl (Ent.cons rfl (Ent.nil _)))) (Ent.cons (t := 1) rfl (Ent.nil _)) (Sub.k (Sub.nil _)) ?_)))))
 rintro ⟨low, high, i⟩ ⟨hi, hlo, hhi, hlt⟩
 dsimp only at hi hlo hhi hlt ⊢
 refine V.seq (V.seq (V.region (O.m rfl (O.q rfl (Pu.fieldAddr 1 rfl Tryz.underlying26 rfl sz24 rfl rfl) (O.q rfl (Pu.load rfl pl24 rfl (Ld.blk 0 rfl rfl)) (O.q rfl (Pu.len rfl Tryz.underlying24 rfl) (O.q rfl (Pu.lss rfl rfl rfl) (O.nil (X.next (V.condD rfl (fun c1 => ?_) (fun c1 => ?_)))))))))))
 ·refine V.skip (X.next (V.seq (V.block (V.seq ?_))))
  have ei : i < bs.length := by omega
  have hgb := hg _ (List.getElem_mem ei)
  obtain ⟨Xb, hX⟩ : ∃ Xb, Xb = mkF (bs.take i) := ⟨_, rfl⟩
  obtain ⟨t, ht⟩ : ∃ t, t = tix (bs[i]'ei) := ⟨_, rfl⟩
  have htx : t < 84 := by rw [ht]; exact tix_lt hgb
  rw [← hX] at hlo hhi hlt
  refine V.draw mo (by kernel_rfl) (fun hwf => D.q 0 rfl (Pu.fieldAddr 1 rfl Tryz.underlying26 rfl sz24 rfl rfl) (D.q 1 rfl (Pu.load rfl pl24 rfl (Ld.blk 0 rfl rfl)) (D.m 2 rfl (D.q 3 rfl (Pu.indexAddr (i) rfl Tryz.underlying24 sz65 rfl rfl (by omega) (by omega) (hx.some (by omega))) (D.q 4 rfl (Pu.loadAgg' (v := B3.v (bs[i]'ei)) rfl rfl ag65 sz65 rfl rfl (Ld.rds (Ld.old hx) (k := i) ei rfl)) (D.f hwf 5 rfl (Ef.alloc rfl zr65 rfl) ?_))))))
  rintro _ _ ⟨b2, rfl, rfl⟩ hs
  refine ⟨fun w hw => hw.sub (Sub.keep 1 rfl (Sub.nil _)), (D.m 6 rfl (D.f hwf 7 rfl (Ef.storeAll 0 rfl sz65 rfl rfl rfl rfl (by simp [Value.oneCell']) rfl) ?_))⟩
  rintro _ _ rfl hs
  refine ⟨fun w hw => hw.sub (Sub.keep 1 rfl (Sub.nil _)), (D.done hwf rfl (X.next (V.seq (V.region (O.m rfl (O.nil (X.next (V.block (V.loop3 (β := Nat × Nat × Nat × Nat) (fun x => [(4, .int .i64 (x.1 : Int)), (5, .int .i64 (x.2.1 : Int)), (7, .int .i64 (x.2.2.1 : Int)), (9, .int .i64 (x.2.2.2 : Int))]) _ (fun x => []) _ (fun x => x.2.2.2 ≤ 9 ∧ x.2.2.1 = cF x.2.2.2 ∧ x.1 = bitA Xb t x.2.2.1 % 2 ^ 42 ∧ x.2.1 = bitA Xb t x.2.2.1 / 2 ^ 42) (fun x => 9 - x.2.2.2) (low, high, 0, 0) (by (try dsimp only); exact ⟨by omega, cF_zero.symm, by rw [bitA_zero]; exact hlo, by rw [bitA_zero]; exact hhi⟩) (Ent.cons rfl (Ent.cons rfl (Ent.cons rfl (Ent.cons rfl (Ent.nil _))))) (Ent.cons (t := 1) rfl (Ent.cons (t := 6) rfl (Ent.cons (t := 8) rfl (Ent.nil _)))) (Sub.k (Sub.k (Sub.nil _))) ?_)))))))))⟩
  rintro ⟨l1, h1, n1, p⟩ ⟨hp, hn1, hl1, hh1⟩
  dsimp only at hp hn1 hl1 hh1 ⊢
  have hc9 := cF_le p
  have hbl1 : bitA Xb t n1 < 2 ^ 84 := bitA_lt hlt htx
  have hll1 : l1 < 2 ^ 42 := by rw [hl1]; exact lt42
  have hhl1 : h1 < 2 ^ 42 := by rw [hh1]; exact div_lt42 hbl1
  refine V.seq (V.seq (V.region (O.m rfl (O.q rfl (Pu.lss rfl rfl rfl) (O.nil (X.next (V.condD rfl (fun c2 => ?_) (fun c2 => ?_))))))))
  ·refine V.skip (X.next (V.seq (V.block (V.seq (V.region (O.m rfl (O.q rfl (Pu.add64 (r := ((p + 1 : Nat) : Int)) rfl (by omega) rfl rfl rfl) (O.m rfl (O.nil (X.next (V.block ?_)))))))))))
   refine V.loop3 (β := Nat × Nat × Nat × Nat) (fun x => [(4, .int .i64 (x.1 : Int)), (5, .int .i64 (x.2.1 : Int)), (7, .int .i64 (x.2.2.1 : Int)), (10, .int .i64 (x.2.2.2 : Int))]) _ (fun x => []) _ (fun x => p < x.2.2.2 ∧ x.2.2.2 ≤ 9 ∧ x.2.2.1 = cF p + cG p x.2.2.2 ∧ x.1 = bitA Xb t x.2.2.1 % 2 ^ 42 ∧ x.2.1 = bitA Xb t x.2.2.1 / 2 ^ 42) (fun x => 9 - x.2.2.2) (l1, h1, n1, p + 1) (by (try dsimp only); exact ⟨by omega, by omega, by rw [cG_zero]; exact hn1, hl1, hh1⟩) (Ent.cons rfl (Ent.cons rfl (Ent.cons rfl (Ent.cons rfl (Ent.nil _))))) (Ent.cons (t := 1) rfl (Ent.cons (t := 6) rfl (Ent.cons (t := 8) rfl (Ent.cons (t := 9) rfl (Ent.nil _))))) (Sub.k (Sub.k (Sub.nil _))) ?_
   rintro ⟨l2, h2, n2, q⟩ ⟨hpq, hq, hn2, hl2, hh2⟩
   dsimp only at hpq hq hn2 hl2 hh2 ⊢
   have hc8 := cG_le p q
   have hbl2 : bitA Xb t n2 < 2 ^ 84 := bitA_lt hlt htx
   have hll2 : l2 < 2 ^ 42 := by rw [hl2]; exact lt42
   have hhl2 : h2 < 2 ^ 42 := by rw [hh2]; exact div_lt42 hbl2
   refine V.seq (V.seq (V.region (O.m rfl (O.q rfl (Pu.lss rfl rfl rfl) (O.nil (X.next (V.condD rfl (fun c3 => ?_) (fun c3 => ?_))))))))
   ·refine V.skip (X.next (V.seq (V.block (V.seq (V.region (O.m rfl (O.q rfl (Pu.add64 (r := ((q + 1 : Nat) : Int)) rfl (by omega) rfl rfl rfl) (O.m rfl (O.nil (X.next (V.block ?_)))))))))))
    refine V.loop3 (β := Nat × Nat × Nat × Nat) (fun x => [(4, .int .i64 (x.1 : Int)), (5, .int .i64 (x.2.1 : Int)), (7, .int .i64 (x.2.2.1 : Int)), (11, .int .i64 (x.2.2.2 : Int))]) _ (fun x => []) _ (fun x => q < x.2.2.2 ∧ x.2.2.2 ≤ 9 ∧ x.2.2.1 = cF p + cG p q + (x.2.2.2 - q - 1) ∧ x.1 = bitA Xb t x.2.2.1 % 2 ^ 42 ∧ x.2.1 = bitA Xb t x.2.2.1 / 2 ^ 42) (fun x => 9 - x.2.2.2) (l2, h2, n2, q + 1) (by (try dsimp only); exact ⟨by omega, by omega, by omega, hl2, hh2⟩) (Ent.cons rfl (Ent.cons rfl (Ent.cons rfl (Ent.cons rfl (Ent.nil _))))) (Ent.cons (t := 1) rfl (Ent.cons (t := 6) rfl (Ent.cons (t := 8) rfl (Ent.cons (t := 9) rfl (Ent.cons (t := 10) rfl (Ent.nil _)))))) (Sub.k (Sub.k (Sub.nil _))) ?_
    rintro ⟨l3, h3, n3, r⟩ ⟨hqr, hr, hn3, hl3, hh3⟩
    dsimp only at hqr hr hn3 hl3 hh3 ⊢
    have hbl3 : bitA Xb t n3 < 2 ^ 84 := bitA_lt hlt htx
    have hll3 : l3 < 2 ^ 42 := by rw [hl3]; exact lt42
    have hhl3 : h3 < 2 ^ 42 := by rw [hh3]; exact div_lt42 hbl3
    refine V.seq (V.seq (V.region (O.m rfl (O.q rfl (Pu.lss rfl rfl rfl) (O.nil (X.next (V.condD rfl (fun c4 => ?_) (fun c4 => ?_))))))))
    ·refine V.skip (X.next (V.seq (V.block (V.seq (V.seq (V.region (O.q rfl (Pu.indexArr 0 0 rfl Tryz.underlying65 sz2 rfl rfl (by decide) (by decide) (by decide)) (O.q rfl (Pu.load rfl pl2 rfl (Ld.blk 0 rfl rfl)) (O.m rfl (O.q rfl (Pu.eql rfl rfl rfl) (O.m rfl (O.splitD 44 rfl (fun c5 => ?_) (fun c5 => ?_)))))))))))))
     ·refine O.gq rfl (Pu.indexArr 1 1 rfl Tryz.underlying65 sz2 rfl rfl (by decide) (by decide) (by decide)) (O.gq rfl (Pu.load rfl pl2 rfl (Ld.blk 0 rfl rfl)) (O.gm rfl (O.gq rfl (Pu.eql rfl rfl rfl) (O.m rfl (O.m rfl (O.splitD 50 rfl (fun c6 => ?_) (fun c6 => ?_)))))))
      ·refine O.gq rfl (Pu.indexArr 2 2 rfl Tryz.underlying65 sz2 rfl rfl (by decide) (by decide) (by decide)) (O.gq rfl (Pu.load rfl pl2 rfl (Ld.blk 0 rfl rfl)) (O.gm rfl (O.gq rfl (Pu.eql rfl rfl rfl) (O.m rfl (O.nil (X.next (V.condD rfl (fun c7 => ?_) (fun c7 => ?_))))))))
       ·have htn : t = n3 := ht.trans ((tix_hit hgb hpq hqr (by omega)).2 ⟨c5, c6, c7⟩ |>.trans hn3.symm)
        refine V.seq (V.region (O.m rfl (O.q rfl (Pu.lss rfl rfl rfl) (O.nil (X.next (V.condD rfl (fun c8 => ?_) (fun c8 => ?_)))))))
        ·refine V.region (O.m rfl (O.m rfl (O.q rfl (Pu.convU' n3 (by omega) ⟨_, Tryz.underlying2⟩ Tryz.underlying99 (by omega) rfl rfl) (O.q rfl (Pu.shl1 (p := n3) K64.i (by omega) rfl rfl rfl) (O.q rfl (Pu.or (m := l3) (n := (2 ^ n3)) K64.i (by omega) (pow_lt62 (by omega)) rfl rfl rfl) (O.m rfl (O.nil (X.next (V.region (O.m rfl (O.q rfl (Pu.add64 (r := ((n3 + 1 : Nat) : Int)) rfl (by omega) rfl rfl rfl) ?_)))))))))))
         exact O.m rfl (O.nil (X.blockNormal (X.next (V.region (O.m rfl (O.q rfl (Pu.add64 (r := ((r + 1 : Nat) : Int)) rfl (by omega) rfl rfl rfl) (O.m rfl (O.nil (X.back3 ((l3 ||| (2 ^ n3)), h3, n3 + 1, r + 1) (by (try dsimp only); exact ⟨by omega, by omega, by omega, (bit_lo htn (by omega) hl3 hh3).1, (bit_lo htn (by omega) hl3 hh3).2⟩) (by first | omega | (dsimp only; omega)) (Ent.cons rfl (Ent.cons rfl (Ent.cons rfl (Ent.cons rfl (Ent.nil _))))) (Ent.cons (t := 1) rfl (Ent.cons (t := 6) rfl (Ent.cons (t := 8) rfl (Ent.cons (t := 9) rfl (Ent.cons (t := 10) rfl (Ent.nil _)))))) (Sub.k (Sub.k (Sub.nil _))))))))))))
        ·refine V.region (O.m rfl (O.m rfl (O.q rfl (Pu.sub64 (r := ((n3 - 42 : Nat) : Int)) (by omega) (by omega) rfl rfl rfl) (O.q rfl (Pu.convU' (n3 - 42) (by omega) ⟨_, Tryz.underlying2⟩ Tryz.underlying99 (by omega) rfl rfl) (O.q rfl (Pu.shl1 (p := n3 - 42) K64.i (by omega) rfl rfl rfl) (O.q rfl (Pu.or (m := h3) (n := (2 ^ (n3 - 42))) K64.i (by omega) (pow_lt62 (by omega)) rfl rfl rfl) (O.m rfl (O.nil (X.next (V.region (O.m rfl ?_)))))))))))
         exact O.q rfl (Pu.add64 (r := ((n3 + 1 : Nat) : Int)) rfl (by omega) rfl rfl rfl) (O.m rfl (O.nil (X.blockNormal (X.next (V.region (O.m rfl (O.q rfl (Pu.add64 (r := ((r + 1 : Nat) : Int)) rfl (by omega) rfl rfl rfl) (O.m rfl (O.nil (X.back3 (l3, (h3 ||| (2 ^ (n3 - 42))), n3 + 1, r + 1) (by (try dsimp only); exact ⟨by omega, by omega, by omega, (bit_hi htn (by omega) hl3 hh3).1, (bit_hi htn (by omega) hl3 hh3).2⟩) (by first | omega | (dsimp only; omega)) (Ent.cons rfl (Ent.cons rfl (Ent.cons rfl (Ent.cons rfl (Ent.nil _))))) (Ent.cons (t := 1) rfl (Ent.cons (t := 6) rfl (Ent.cons (t := 8) rfl (Ent.cons (t := 9) rfl (Ent.cons (t := 10) rfl (Ent.nil _)))))) (Sub.k (Sub.k (Sub.nil _)))))))))))))
       ·refine V.skip (X.next (V.region (O.m rfl (O.q rfl (Pu.add64 (r := ((n3 + 1 : Nat) : Int)) rfl (by omega) rfl rfl rfl) (O.m rfl (O.nil (X.blockNormal (X.next (V.region (O.m rfl (O.q rfl (Pu.add64 (r := ((r + 1 : Nat) : Int)) rfl (by omega) rfl rfl rfl) ?_)))))))))))
        exact O.m rfl (O.nil (X.back3 (l3, h3, n3 + 1, r + 1) (by (try dsimp only); exact ⟨by omega, by omega, by omega, (bit_no (fun e => by have h := (tix_hit hgb hpq hqr (by omega)).1 (ht.symm.trans (e.trans hn3)); first | exact c5 h.1 | exact c6 h.2.1 | exact c7 h.2.2) hl3 hh3).1, (bit_no (fun e => by have h := (tix_hit hgb hpq hqr (by omega)).1 (ht.symm.trans (e.trans hn3)); first | exact c5 h.1 | exact c6 h.2.1 | exact c7 h.2.2) hl3 hh3).2⟩) (by first | omega | (dsimp only; omega)) (Ent.cons rfl (Ent.cons rfl (Ent.cons rfl (Ent.cons rfl (Ent.nil _))))) (Ent.cons (t := 1) rfl (Ent.cons (t := 6) rfl (Ent.cons (t := 8) rfl (Ent.cons (t := 9) rfl (Ent.cons (t := 10) rfl (Ent.nil _)))))) (Sub.k (Sub.k (Sub.nil _)))))
      ·refine O.g rfl (O.g rfl (O.g rfl (O.g rfl (O.m rfl (O.nil (X.next (V.condF rfl (V.skip (X.next (V.region (O.m rfl ?_)))))))))))
       exact O.q rfl (Pu.add64 (r := ((n3 + 1 : Nat) : Int)) rfl (by omega) rfl rfl rfl) (O.m rfl (O.nil (X.blockNormal (X.next (V.region (O.m rfl (O.q rfl (Pu.add64 (r := ((r + 1 : Nat) : Int)) rfl (by omega) rfl rfl rfl) (O.m rfl (O.nil (X.back3 (l3, h3, n3 + 1, r + 1) (by (try dsimp only); exact ⟨by omega, by omega, by omega, (bit_no (fun e => by have h := (tix_hit hgb hpq hqr (by omega)).1 (ht.symm.trans (e.trans hn3)); first | exact c5 h.1 | exact c6 h.2.1 | exact c7 h.2.2) hl3 hh3).1, (bit_no (fun e => by have h := (tix_hit hgb hpq hqr (by omega)).1 (ht.symm.trans (e.trans hn3)); first | exact c5 h.1 | exact c6 h.2.1 | exact c7 h.2.2) hl3 hh3).2⟩) (by first | omega | (dsimp only; omega)) (Ent.cons rfl (Ent.cons rfl (Ent.cons rfl (Ent.cons rfl (Ent.nil _))))) (Ent.cons (t := 1) rfl (Ent.cons (t := 6) rfl (Ent.cons (t := 8) rfl (Ent.cons (t := 9) rfl (Ent.cons (t := 10) rfl (Ent.nil _)))))) (Sub.k (Sub.k (Sub.nil _)))))))))))))
     ·refine O.g rfl (O.g rfl (O.g rfl (O.g rfl (O.m rfl (O.m rfl (O.g rfl (O.g rfl (O.g rfl (O.g rfl (O.m rfl (O.nil ?_)))))))))))
      refine X.next (V.condF rfl (V.skip (X.next (V.region (O.m rfl (O.q rfl (Pu.add64 (r := ((n3 + 1 : Nat) : Int)) rfl (by omega) rfl rfl rfl) (O.m rfl (O.nil (X.blockNormal (X.next (V.region ?_)))))))))))
      exact O.m rfl (O.q rfl (Pu.add64 (r := ((r + 1 : Nat) : Int)) rfl (by omega) rfl rfl rfl) (O.m rfl (O.nil (X.back3 (l3, h3, n3 + 1, r + 1) (by (try dsimp only); exact ⟨by omega, by omega, by omega, (bit_no (fun e => by have h := (tix_hit hgb hpq hqr (by omega)).1 (ht.symm.trans (e.trans hn3)); first | exact c5 h.1 | exact c6 h.2.1 | exact c7 h.2.2) hl3 hh3).1, (bit_no (fun e => by have h := (tix_hit hgb hpq hqr (by omega)).1 (ht.symm.trans (e.trans hn3)); first | exact c5 h.1 | exact c6 h.2.1 | exact c7 h.2.2) hl3 hh3).2⟩) (by first | omega | (dsimp only; omega)) (Ent.cons rfl (Ent.cons rfl (Ent.cons rfl (Ent.cons rfl (Ent.nil _))))) (Ent.cons (t := 1) rfl (Ent.cons (t := 6) rfl (Ent.cons (t := 8) rfl (Ent.cons (t := 9) rfl (Ent.cons (t := 10) rfl (Ent.nil _)))))) (Sub.k (Sub.k (Sub.nil _)))))))
    ·exact V.exit (X.thenExit (X.thenExit (X.blockHit (X.blockNormal (X.next (V.region (O.m rfl (O.q rfl (Pu.add64 (r := ((q + 1 : Nat) : Int)) rfl (by omega) rfl rfl rfl) (O.m rfl (O.nil (X.back3 (l3, h3, n3, q + 1) (by (try dsimp only); exact ⟨by omega, by omega, by have := cG_step p q hpq (by omega); omega, hl3, hh3⟩) (by first | omega | (dsimp only; omega)) (Ent.cons rfl (Ent.cons rfl (Ent.cons rfl (Ent.cons rfl (Ent.nil _))))) (Ent.cons (t := 1) rfl (Ent.cons (t := 6) rfl (Ent.cons (t := 8) rfl (Ent.cons (t := 9) rfl (Ent.nil _))))) (Sub.k (Sub.k (Sub.nil _))))))))))))))
   ·exact V.exit (X.thenExit (X.thenExit (X.blockHit (X.blockNormal (X.next (V.region (O.m rfl (O.q rfl (Pu.add64 (r := ((p + 1 : Nat) : Int)) rfl (by omega) rfl rfl rfl) (O.m rfl (O.nil (X.back3 (l2, h2, n2, p + 1) (by (try dsimp only); exact ⟨by omega, by rw [hn2, show q = 9 by omega]; exact cG_nine p (by omega), hl2, hh2⟩) (by first | omega | (dsimp only; omega)) (Ent.cons rfl (Ent.cons rfl (Ent.cons rfl (Ent.cons rfl (Ent.nil _))))) (Ent.cons (t := 1) rfl (Ent.cons (t := 6) rfl (Ent.cons (t := 8) rfl (Ent.nil _)))) (Sub.k (Sub.k (Sub.nil _))))))))))))))
  ·exact V.exit (X.thenExit (X.thenExit (X.blockHit (X.blockNormal (X.next (V.region (O.m rfl (O.q rfl (Pu.add64 (r := ((i + 1 : Nat) : Int)) rfl (by omega) rfl rfl rfl) (O.m rfl (O.nil (X.back3 (l1, h1, i + 1) (by (try dsimp only); exact ⟨by omega, by rw [hl1, bitA_end (by rw [hn1, show p = 9 by omega, cF_nine]; exact htx), hX, ht, take_snoc ei, mk_snoc], by rw [hh1, bitA_end (by rw [hn1, show p = 9 by omega, cF_nine]; exact htx), hX, ht, take_snoc ei, mk_snoc], by rw [take_snoc ei, mk_snoc, ← hX, ← ht]; exact Nat.or_lt_two_pow hlt (Nat.pow_lt_pow_right (by decide) htx)⟩) (by first | omega | (dsimp only; omega)) (Ent.cons rfl (Ent.cons rfl (Ent.cons rfl (Ent.nil _)))) (Ent.cons (t := 1) rfl (Ent.nil _)) (Sub.keep 1 rfl (Sub.nil _)))))))))))))
 ·refine V.exit (X.thenExit (X.thenExit (X.blockHit (X.next (V.seq (V.region (O.m rfl (O.m rfl (O.m rfl (O.m rfl (O.nil ?_)))))))))))
  exact X.next (V.ret (X.ret2 rfl rfl rfl (fun w hw => St.addPur (by rw [hlo, hhi, List.take_of_length_le (by omega)]) (hw.sub (Sub.nil _)))))
def L_l10Go (n : Nat) : Prop := ∀ (D0 : Nat) (sb most : Nat) (ns : List Nat) (l : List (List Int)) (chosen : List Int) (from_ : Nat) (low : Nat) (high : Nat) (chosenA : Option Addr) (chosenc : Nat) (w0 : World) (H : List Assn) (hchosen : ∀ w, St w0 H w → Rd I64 w chosenA chosen) (lchosen : chosen.length ≤ 1099511627776) (hcS : chosenA.isSome = true) (hF : Fam n D0) (hlw : low = D0 % 2 ^ 42) (hhg : high = D0 / 2 ^ 42) (hc6 : chosen.length + n = 6) (hnl : ns.length ≤ 1000) (hns : ∀ j (h : j < ns.length), ns[j] < ms9.length) (hfn : from_ ≤ ns.length) (hlm : l.length < most) (hmm : most ≤ 1000000000), Does Tryz.prog 88 [.pointer (some ⟨sb, 0, none⟩), .slice chosenA chosen.length chosenc, .int .i64 (from_ : Int), .int .i64 (low : Int), .int .i64 (high : Int)] w0 (FamK 73 2 sb most ns l :: H) (fun r => [.sep (.pur (r = .tuple #[])) (FamK 73 2 sb most ns (l ++ runC (fun j => decide (j < most)) l.length (famS ms9 ns n from_ chosen D0)))] ++ H)
set_option maxRecDepth 100000 in
set_option maxHeartbeats 1000000 in
theorem l10Go_step (n : Nat) (ih : ∀ n', n' < n → L_l10Go n') (D0 : Nat) (sb most : Nat) (ns : List Nat) (l : List (List Int)) (chosen : List Int) (from_ : Nat) (low : Nat) (high : Nat) (chosenA : Option Addr) (chosenc : Nat) (w0 : World) (H : List Assn) (hchosen : ∀ w, St w0 H w → Rd I64 w chosenA chosen) (lchosen : chosen.length ≤ 1099511627776) (hcS : chosenA.isSome = true) (hF : Fam n D0) (hlw : low = D0 % 2 ^ 42) (hhg : high = D0 / 2 ^ 42) (hc6 : chosen.length + n = 6) (hnl : ns.length ≤ 1000) (hns : ∀ j (h : j < ns.length), ns[j] < ms9.length) (hfn : from_ ≤ ns.length) (hlm : l.length < most) (hmm : most ≤ 1000000000) : Does Tryz.prog 88 [.pointer (some ⟨sb, 0, none⟩), .slice chosenA chosen.length chosenc, .int .i64 (from_ : Int), .int .i64 (low : Int), .int .i64 (high : Int)] w0 (FamK 73 2 sb most ns l :: H) (fun r => [.sep (.pur (r = .tuple #[])) (FamK 73 2 sb most ns (l ++ runC (fun j => decide (j < most)) l.length (famS ms9 ns n from_ chosen D0)))] ++ H) := by
 refine Does.enter Tryz.func88 rfl rfl [(0, .pointer (some ⟨sb, 0, none⟩)), (1, .slice chosenA chosen.length chosenc), (2, .int .i64 (from_ : Int)), (3, .int .i64 (low : Int)), (4, .int .i64 (high : Int))] rfl ?_
 have hll : low < 2 ^ 42 := by rw [hlw]; exact lt42
 have hhl : high < 2 ^ 42 := by rw [hhg]; exact div_lt42 hF.lt
 refine V.seq (V.seq (V.region (O.m rfl (O.q rfl (Pu.len rfl Tryz.underlying53 rfl) (O.q rfl (Pu.eql rfl rfl rfl) (O.nil (X.next (V.condD rfl (fun c1 => ?_) (fun c1 => ?_)))))))))
 ·have hk0 : n = 0 := by omega
  refine V.seq (V.famK (fun lA1 lk1 hA1 hk1 nA1 nk1 fA1 fk1 => V.region (O.m rfl (O.m rfl (O.q rfl (Pu.fieldAddr 4 rfl Tryz.underlying73 rfl sz2 rfl rfl) (O.q rfl (Pu.load rfl pl2 rfl (Ld.blk 0 rfl rfl)) (O.q rfl (Pu.add64 (r := ((l.length + 1 : Nat) : Int)) rfl (by omega) rfl rfl rfl) (O.m rfl (O.q rfl (Pu.fieldAddr 4 rfl Tryz.underlying73 rfl sz2 rfl rfl) (O.s rfl rfl (Ef.store1 (cs' := [_, _, _, _, _, _]) 0 rfl sz2 rfl rfl rfl rfl rfl (ltb rfl) rfl) ?_))))))))))
  rintro _ _ rfl
  refine O.nil (X.next (V.seq (V.seq (V.region (O.m rfl (O.m rfl (O.q rfl (Pu.fieldAddr 4 rfl Tryz.underlying73 rfl sz2 rfl rfl) (O.q rfl (Pu.load rfl pl2 rfl (Ld.blk 0 rfl rfl)) (O.q rfl (Pu.eql rfl rfl rfl) (O.nil (X.next (V.condD rfl (fun c2 => ?_) (fun c2 => ?_)))))))))))))
  ·have hl0 : l = [] := List.length_eq_zero_iff.1 (by omega)
   refine V.region (O.m rfl (O.m rfl (O.f rfl (Ef.call1 call99 rfl rfl (fun w hw => l01Own_ok chosen _ _ w ((fun w hw => hchosen w (hw.sub (Sub.drop (Sub.drop (Sub.drop (Sub.drop (Sub.drop (Sub.refl _)))))))) w hw) hcS (by omega))) ?_)))
   rintro _ _ rfl
   refine O.exi (fun p1 => O.sep (O.pur ?_))
   rintro ⟨rfl, hp1⟩
   refine O.m rfl (O.q rfl (Pu.fieldAddr 5 rfl Tryz.underlying73 rfl sz53 rfl rfl) (O.s rfl rfl (Ef.store1 (cs' := [_, _, _, _, _, _]) 1 rfl sz53 rfl rfl rfl rfl rfl (ltb rfl) rfl) ?_))
   rintro _ _ rfl
   exact O.nil (X.next (V.ret (X.thenRet (X.map (fun w hw => FamK.mk (T := 73) (iT := 2) (l := (l ++ [chosen])) (ns := ns) (by rw [head_snoc, if_pos hl0, hp1]) (hw.sub (Sub.cons 1 rfl (fun w F h => by rw [List.length_append, List.length_singleton]; exact h) (Sub.keep 1 rfl (Sub.keep 1 rfl (Sub.keep 1 rfl (Sub.k (Sub.drop (Sub.refl _))))))))) (X.ret0 rfl (fun w hw => St.unsep (St.addPur rfl (hw.sub (Sub.cons 0 rfl (fun w F h => by rw [hk0]; show (FamK _ _ _ _ _ (l ++ runC _ _ [chosen])).P w F; rw [runC_one]; exact h) (Sub.refl _))))))))))
  ·have hl0 : ¬ l = [] := fun h => c2 (by rw [h]; rfl)
   exact V.skip (X.next (V.ret (X.thenRet (X.map (fun w hw => FamK.mk (T := 73) (iT := 2) (l := (l ++ [chosen])) (ns := ns) (by rw [head_snoc, if_neg hl0]) (hw.sub (Sub.cons 0 rfl (fun w F h => by rw [List.length_append, List.length_singleton]; exact h) (Sub.k (Sub.k (Sub.k (Sub.k (Sub.refl _)))))))) (X.ret0 rfl (fun w hw => St.unsep (St.addPur rfl (hw.sub (Sub.cons 0 rfl (fun w F h => by rw [hk0]; show (FamK _ _ _ _ _ (l ++ runC _ _ [chosen])).P w F; rw [runC_one]; exact h) (Sub.refl _))))))))))
 ·have hn0 : 0 < n := by omega
  obtain ⟨kq, hk1⟩ : ∃ kq, n = kq + 1 := ⟨n - 1, by omega⟩
  have hpv := hF.piv hn0
  refine V.skip (X.next (V.seq (V.region (O.m rfl (O.nil (X.next (V.seq (V.block (V.loop3 (β := Nat) (fun nx => [(10, .int .u64 (nx : Int))]) _ (fun nx => []) _ (fun nx => nx ≤ pivD D0) (fun nx => pivD D0 - nx) 0 (by omega) (Ent.cons rfl (Ent.nil _)) (Ent.cons (t := 0) rfl (Ent.cons (t := 1) rfl (Ent.cons (t := 2) rfl (Ent.cons (t := 3) rfl (Ent.cons (t := 4) rfl (Ent.nil _)))))) (Sub.k (Sub.refl _)) ?_)))))))))
  rintro nx hnx0
  refine V.seq (V.seq (V.region (O.m rfl (O.m rfl (O.q rfl (Pu.shr (m := low) (p := nx) K64.i (by omega) rfl rfl rfl) (O.q rfl (Pu.and (m := (low >>> nx)) (n := 1) K64.i (shr_lt (by omega)) (by omega) rfl rfl rfl) (O.q rfl (Pu.eql rfl rfl rfl) (O.nil (X.next (V.condD rfl (fun c3 => ?_) (fun c3 => ?_)))))))))))
  ·have hb : D0.testBit nx = true := (word_bit (k := 42) (by omega)).1 (by rw [← hlw]; omega)
   have hne : nx ≠ pivD D0 := by rintro rfl; rw [hpv.2.1] at hb; cases hb
   exact V.skip (X.next (V.block (V.region (O.m rfl (O.q rfl (Pu.addN (m := nx) (n := 1) K64.u (by omega) rfl rfl rfl) (O.m rfl (O.nil (X.blockNormal (X.back3 (nx + 1) (by omega) (by first | omega | (dsimp only; omega)) (Ent.cons rfl (Ent.nil _)) (Ent.cons (t := 0) rfl (Ent.cons (t := 1) rfl (Ent.cons (t := 2) rfl (Ent.cons (t := 3) rfl (Ent.cons (t := 4) rfl (Ent.nil _)))))) (Sub.k (Sub.refl _)))))))))))
  ·have hb : ¬ D0.testBit nx = true := fun h => c3 (by have := (word_bit (k := 42) (by omega)).2 h; rw [← hlw] at this; omega)
   have hne : nx = pivD D0 := by apply Decidable.byContradiction; intro h; exact hb (hpv.2.2 nx (by omega))
   refine V.exit (X.thenExit (X.thenExit (X.blockHit (X.next (V.seq (V.region (O.m rfl (O.m rfl (O.nil (X.next (V.block ?_)))))))))))
   refine V.loop3 (β := Nat × (List (List Int))) (fun x => [(11, .int .i64 (x.1 : Int))]) _ (fun x => [FamK 73 2 sb most ns x.2]) _ (fun x => from_ ≤ x.1 ∧ x.1 ≤ ns.length ∧ x.2 = l ++ runC (fun j => decide (j < most)) l.length (famJ ms9 ns kq from_ chosen D0 x.1)) (fun x => ns.length - x.1) (from_, l) (by (try dsimp only); exact ⟨by omega, by omega, by rw [famJ_low _ (by omega)]; simp [runC]⟩) (Ent.cons rfl (Ent.nil _)) (Ent.cons (t := 0) rfl (Ent.cons (t := 1) rfl (Ent.cons (t := 3) rfl (Ent.cons (t := 4) rfl (Ent.cons (t := 10) rfl (Ent.nil _)))))) (Sub.k (Sub.refl _)) ?_
   rintro ⟨i, l2⟩ ⟨hfi, hi, hl2⟩
   dsimp only at hfi hi hl2 ⊢
   refine V.seq (V.seq (V.famK (fun lA2 lk2 hA2 hk2 nA2 nk2 fA2 fk2 => V.draw mo (by kernel_rfl) (fun hwf => D.m 0 rfl (D.m 1 rfl (D.m 2 rfl (D.q 3 rfl (Pu.fieldAddr 2 rfl Tryz.underlying73 rfl sz53 rfl rfl) (D.q 4 rfl (Pu.load rfl pl53 rfl (Ld.blk 0 rfl rfl)) (D.q 5 rfl (Pu.len rfl Tryz.underlying53 rfl) (D.q 6 rfl (Pu.lss rfl rfl rfl) (D.m 7 rfl (D.splitD 47 rfl (fun c4 => ?_) (fun c4 => ?_)))))))))))))
   ·refine D.gm 8 rfl (D.gm 9 rfl (D.gq 10 rfl (Pu.fieldAddr 4 rfl Tryz.underlying73 rfl sz2 rfl rfl) (D.gq 11 rfl (Pu.load rfl pl2 rfl (Ld.blk 0 rfl rfl)) (D.gm 12 rfl (D.gm 13 rfl (D.gq 14 rfl (Pu.fieldAddr 3 rfl Tryz.underlying73 rfl sz2 rfl rfl) (D.gq 15 rfl (Pu.load rfl pl2 rfl (Ld.blk 0 rfl rfl)) (D.gq 16 rfl (Pu.lss rfl rfl rfl) (D.m 17 rfl (D.done hwf rfl (X.next (V.condD rfl (fun c5 => ?_) (fun c5 => ?_)))))))))))))
    ·refine V.skip (X.next (V.seq (V.block (V.seq ?_))))
     have ei0 : i < ns.length := by omega
     have ei : i < (lowL ns).length := by rw [low_len]; exact ei0
     have eh : i < (highL ns).length := by rw [high_len]; exact ei0
     have hgd : ns.getD i 0 = ns[i]'ei0 := by rw [List.getD_eq_getElem?_getD, List.getElem?_eq_getElem ei0]; rfl
     have hMl : (ms9.getD (ns[i]'ei0) 0) < 2 ^ 84 := ms9_lt
     have hlo : (lowL ns)[i]'ei = (ms9.getD (ns[i]'ei0) 0) % 2 ^ 42 := low_at ei0 ei
     have hhi : (highL ns)[i]'eh = (ms9.getD (ns[i]'ei0) 0) / 2 ^ 42 := high_at ei0 eh
     have hlb : (lowL ns)[i]'ei < 2 ^ 42 := by rw [hlo]; exact lt42
     have hhb : (highL ns)[i]'eh < 2 ^ 42 := by rw [hhi]; exact div_lt42 hMl
     refine V.region (O.m rfl (O.m rfl (O.q rfl (Pu.fieldAddr 0 rfl Tryz.underlying73 rfl sz53 rfl rfl) (O.q rfl (Pu.load rfl pl53 rfl (Ld.blk 0 rfl rfl)) (O.m rfl (O.q rfl (Pu.indexAddrS (i) rfl Tryz.underlying53 sz2 rfl rfl (by omega) (by omega) (fun w hw => Own.some hw (i := 1) (by exact rfl) (by omega))) (O.q rfl (Pu.load rfl pl2 rfl (Ld.rd (Ld.own 1 (by exact rfl)) (k := i) ei rfl rfl)) (O.m rfl (O.q rfl (Pu.shr (m := ((lowL ns)[i]'ei)) (p := nx) K64.i (by omega) rfl rfl rfl) (O.q rfl (Pu.and (m := (((lowL ns)[i]'ei) >>> nx)) (n := 1) K64.i (shr_lt (by omega)) (by omega) rfl rfl rfl) (O.q rfl (Pu.eql rfl rfl rfl) ?_)))))))))))
     refine O.m rfl (O.splitD 71 rfl (fun c6 => ?_) (fun c6 => ?_))
     ·refine O.gm rfl (O.gm rfl (O.gq rfl (Pu.fieldAddr 0 rfl Tryz.underlying73 rfl sz53 rfl rfl) (O.gq rfl (Pu.load rfl pl53 rfl (Ld.blk 0 rfl rfl)) (O.gm rfl (O.gq rfl (Pu.indexAddrS (i) rfl Tryz.underlying53 sz2 rfl rfl (by omega) (by omega) (fun w hw => Own.some hw (i := 1) (by exact rfl) (by omega))) (O.gq rfl (Pu.load rfl pl2 rfl (Ld.rd (Ld.own 1 (by exact rfl)) (k := i) ei rfl rfl)) (O.gm rfl (O.gq rfl (Pu.and (m := ((lowL ns)[i]'ei)) (n := low) K64.i (by omega) (by omega) rfl rfl rfl) (O.gq rfl (Pu.eql rfl rfl rfl) (O.m rfl (O.m rfl (O.splitD 83 rfl (fun c7 => ?_) (fun c7 => ?_)))))))))))))
      ·refine O.gm rfl (O.gm rfl (O.gq rfl (Pu.fieldAddr 1 rfl Tryz.underlying73 rfl sz53 rfl rfl) (O.gq rfl (Pu.load rfl pl53 rfl (Ld.blk 0 rfl rfl)) (O.gm rfl (O.gq rfl (Pu.indexAddrS (i) rfl Tryz.underlying53 sz2 rfl rfl (by omega) (by omega) (fun w hw => Own.some hw (i := 2) (by exact rfl) (by omega))) (O.gq rfl (Pu.load rfl pl2 rfl (Ld.rd (Ld.own 2 (by exact rfl)) (k := i) eh rfl rfl)) (O.gm rfl (O.gq rfl (Pu.and (m := ((highL ns)[i]'eh)) (n := high) K64.i (by omega) (by omega) rfl rfl rfl) (O.gq rfl (Pu.eql rfl rfl rfl) (O.m rfl (O.nil ?_)))))))))))
       refine X.next (V.condD rfl (fun c8 => ?_) (fun c8 => ?_))
       ·have hx : nextF D0 (ms9.getD (ns[i]'ei0) 0) := ⟨by rw [← hne]; exact (word_bit (k := 42) (by omega)).1 (by rw [← hlo]; omega), (land_words (k := 42)).2 ⟨by rw [← hlo, ← hlw]; omega, by rw [← hhi, ← hhg]; omega⟩⟩
        have hx' : nextF D0 (ms9.getD (ns.getD i 0) 0) := by rw [hgd]; exact hx
        have hma := most_all hlm hl2 (by omega)
        have hgo := hma.1
        have hl3 := hma.2
        have hni := hns i ei0
        have hmg : (ms9.getD (ns[i]'ei0) 0) = ms9[ns[i]'ei0] := by rw [List.getD_eq_getElem?_getD, List.getElem?_eq_getElem hni]; rfl
        have hF2 : Fam (kq + 1) D0 := by rw [← hk1]; exact hF
        have hst : Fam kq (D0 ||| (ms9.getD (ns[i]'ei0) 0)) := by rw [hmg] at hx ⊢; exact Fam.step nines_ms hF2 hni hx
        refine V.draw mo (by kernel_rfl) (fun hwf => D.m 0 rfl (D.m 1 rfl (D.m 3 rfl (D.m 4 rfl (D.q 5 rfl (Pu.fieldAddr 2 rfl Tryz.underlying73 rfl sz53 rfl rfl) (D.q 6 rfl (Pu.load rfl pl53 rfl (Ld.blk 0 rfl rfl)) (D.m 7 rfl (D.q 8 rfl (Pu.indexAddrS (i) rfl Tryz.underlying53 sz2 rfl rfl (by omega) (by omega) (fun w hw => Own.some hw (i := 3) (by exact rfl) (by omega))) (D.q 9 rfl (Pu.load rfl pl2 rfl (Ld.rd (Ld.own 3 (by exact rfl)) (k := i) ei0 rfl rfl)) (D.m 12 rfl (D.q 13 rfl (Pu.add64 (r := ((i + 1 : Nat) : Int)) rfl (by omega) rfl rfl rfl) ?_)))))))))))
        refine D.m 14 rfl (D.m 15 rfl (D.m 16 rfl (D.q 17 rfl (Pu.fieldAddr 0 rfl Tryz.underlying73 rfl sz53 rfl rfl) (D.q 18 rfl (Pu.load rfl pl53 rfl (Ld.blk 0 rfl rfl)) (D.m 19 rfl (D.q 20 rfl (Pu.indexAddrS (i) rfl Tryz.underlying53 sz2 rfl rfl (by omega) (by omega) (fun w hw => Own.some hw (i := 1) (by exact rfl) (by omega))) (D.q 21 rfl (Pu.load rfl pl2 rfl (Ld.rd (Ld.own 1 (by exact rfl)) (k := i) ei rfl rfl)) (D.q 22 rfl (Pu.or (m := low) (n := ((lowL ns)[i]'ei)) K64.i (by omega) (by omega) rfl rfl rfl) (D.m 23 rfl (D.m 24 rfl (D.m 25 rfl ?_)))))))))))
        refine D.q 26 rfl (Pu.fieldAddr 1 rfl Tryz.underlying73 rfl sz53 rfl rfl) (D.q 27 rfl (Pu.load rfl pl53 rfl (Ld.blk 0 rfl rfl)) (D.m 28 rfl (D.q 29 rfl (Pu.indexAddrS (i) rfl Tryz.underlying53 sz2 rfl rfl (by omega) (by omega) (fun w hw => Own.some hw (i := 2) (by exact rfl) (by omega))) (D.q 30 rfl (Pu.load rfl pl2 rfl (Ld.rd (Ld.own 2 (by exact rfl)) (k := i) eh rfl rfl)) (D.q 31 rfl (Pu.or (m := high) (n := ((highL ns)[i]'eh)) K64.i (by omega) (by omega) rfl rfl rfl) (D.twoBC hwf (e1 := 10) (e2 := 2) rfl rfl rfl rfl rfl rfl rfl rfl rfl rfl rfl rfl rfl rfl rfl rfl rfl (fun H hs => Ef.build I64 ([(↑(ns[i]'ei0) : Int)] : List Int) rfl Tryz.underlying53 inf2 rfl rfl rfl (by first | decide | (simp; done)) (by kernel_rfl)) (fun H hs => Ef.call1 call99 rfl rfl (fun w hw => l01Own_ok chosen _ _ w ((fun w hw => hchosen w (hw.sub (Sub.drop (Sub.drop (Sub.drop (Sub.drop (Sub.drop (Sub.refl _)))))))) w (hs w hw)) hcS (by omega))) ?_))))))
        rintro A1 _ hA1
        refine D.exi (fun p2 => D.sep (D.pur1 ?_))
        rintro ⟨rfl, hp2⟩
        have hp2l := congrArg List.length hp2
        refine D.f hwf 11 rfl (Ef.append (xs := p2.2) (ys := ([(↑(ns[i]'ei0) : Int)] : List Int)) 0 rfl Tryz.underlying53 inf2 rfl rfl rfl rfl rfl rfl hA1 (Ld.own 1 (by exact rfl)) (by simp only [List.length_append, List.length_cons, List.length_nil] at *; omega) (by decide)) ?_
        rintro _ _ ⟨A2, k1, rfl, rfl, hA2⟩ hs
        replace hA2 := hA2 (.inr (by simp))
        refine ⟨fun w hw => hw.sub (Sub.keep 2 rfl (Sub.keep 2 rfl (Sub.keep 2 rfl (Sub.keep 2 rfl (Sub.keep 2 rfl (Sub.drop (Sub.drop (Sub.refl _)))))))), (D.effT hwf (e := 32) rfl rfl rfl rfl (Ef.call call88 rfl rfl (Does.pre (fun w hw => FamK.mk (T := 73) (iT := 2) rfl (hw.sub (Sub.keep 2 rfl (Sub.keep 2 rfl (Sub.keep 2 rfl (Sub.keep 2 rfl (Sub.keep 2 rfl (Sub.k (Sub.k (Sub.refl _)))))))))) (ih kq (by omega) (D0 ||| (ms9.getD (ns[i]'ei0) 0)) sb most ns l2 (p2.2 ++ ([(↑(ns[i]'ei0) : Int)] : List Int)) (i + 1) (low ||| ((lowL ns)[i]'ei)) (high ||| ((highL ns)[i]'eh)) _ _ w0 _ (Ld.own 0 (by exact rfl)) (by first | omega | (simp only [tops_len, conts_len, bl, List.length_append, List.length_cons, List.length_nil] at *; omega)) hA2 hst (by rw [lor_mod, ← hlo, ← hlw]) (by rw [lor_div, ← hhi, ← hhg]) (by simp only [List.length_append, List.length_singleton]; omega) hnl hns (by omega) (by omega) hmm))) rfl rfl rfl 33 rfl ?_)⟩
        rintro _ _ rfl
        refine D.sep (D.pur1 ?_)
        rintro rfl
        exact D.done hwf rfl (X.blockNormal (X.next (V.region (O.m rfl (O.q rfl (Pu.add64 (r := ((i + 1 : Nat) : Int)) rfl (by omega) rfl rfl rfl) (O.m rfl (O.nil (X.back3 (i + 1, (l2 ++ runC (fun j => decide (j < most)) l2.length (famS ms9 ns kq (i + 1) (p2.2 ++ ([(↑(ns[i]'ei0) : Int)] : List Int)) (D0 ||| (ms9.getD (ns[i]'ei0) 0))))) (by (try dsimp only); exact ⟨by omega, by omega, by rw [famJ_yes (by omega) hx', most_next hgo hl3, hgd, hp2]⟩) (by first | omega | (dsimp only; omega)) (Ent.cons rfl (Ent.nil _)) (Ent.cons (t := 0) rfl (Ent.cons (t := 1) rfl (Ent.cons (t := 3) rfl (Ent.cons (t := 4) rfl (Ent.cons (t := 10) rfl (Ent.nil _)))))) (Sub.k (Sub.drop (Sub.drop (Sub.refl _))))))))))))
       ·have hnx : ¬ nextF D0 (ms9.getD (ns.getD i 0) 0) := by
         rw [hgd]
         intro hx
         exact c8 (by have := (land_words (k := 42)).1 hx.2; rw [← hhi, ← hhg] at this; omega)
        exact V.skip (X.blockNormal (X.next (V.region (O.m rfl (O.q rfl (Pu.add64 (r := ((i + 1 : Nat) : Int)) rfl (by omega) rfl rfl rfl) (O.m rfl (O.nil (X.map (fun w hw => FamK.mk (T := 73) (iT := 2) (l := l2) (ns := ns) rfl (hw.sub (Sub.k (Sub.k (Sub.k (Sub.k (Sub.k (Sub.refl _)))))))) (X.back3 (i + 1, l2) (by (try dsimp only); exact ⟨by omega, by omega, by rw [famJ_no hnx]; exact hl2⟩) (by first | omega | (dsimp only; omega)) (Ent.cons rfl (Ent.nil _)) (Ent.cons (t := 0) rfl (Ent.cons (t := 1) rfl (Ent.cons (t := 3) rfl (Ent.cons (t := 4) rfl (Ent.cons (t := 10) rfl (Ent.nil _)))))) (Sub.k (Sub.refl _)))))))))))
      ·have hnx : ¬ nextF D0 (ms9.getD (ns.getD i 0) 0) := by
        rw [hgd]
        intro hx
        exact c7 (by have := (land_words (k := 42)).1 hx.2; rw [← hlo, ← hlw] at this; omega)
       refine O.g rfl (O.g rfl (O.g rfl (O.g rfl (O.g rfl (O.g rfl (O.g rfl (O.g rfl (O.g rfl (O.g rfl (O.m rfl (O.nil ?_)))))))))))
       exact X.next (V.condF rfl (V.skip (X.blockNormal (X.next (V.region (O.m rfl (O.q rfl (Pu.add64 (r := ((i + 1 : Nat) : Int)) rfl (by omega) rfl rfl rfl) (O.m rfl (O.nil (X.map (fun w hw => FamK.mk (T := 73) (iT := 2) (l := l2) (ns := ns) rfl (hw.sub (Sub.k (Sub.k (Sub.k (Sub.k (Sub.k (Sub.refl _)))))))) (X.back3 (i + 1, l2) (by (try dsimp only); exact ⟨by omega, by omega, by rw [famJ_no hnx]; exact hl2⟩) (by first | omega | (dsimp only; omega)) (Ent.cons rfl (Ent.nil _)) (Ent.cons (t := 0) rfl (Ent.cons (t := 1) rfl (Ent.cons (t := 3) rfl (Ent.cons (t := 4) rfl (Ent.cons (t := 10) rfl (Ent.nil _)))))) (Sub.k (Sub.refl _)))))))))))))
     ·have hnx : ¬ nextF D0 (ms9.getD (ns.getD i 0) 0) := by
       rw [hgd]
       intro hx
       exact c6 (by have := (word_bit (k := 42) (by omega)).2 hx.1; rw [← hne] at this; rw [← hlo] at this; omega)
      refine O.g rfl (O.g rfl (O.g rfl (O.g rfl (O.g rfl (O.g rfl (O.g rfl (O.g rfl (O.g rfl (O.g rfl (O.m rfl (O.m rfl ?_)))))))))))
      refine O.g rfl (O.g rfl (O.g rfl (O.g rfl (O.g rfl (O.g rfl (O.g rfl (O.g rfl (O.g rfl (O.g rfl (O.m rfl (O.nil ?_)))))))))))
      exact X.next (V.condF rfl (V.skip (X.blockNormal (X.next (V.region (O.m rfl (O.q rfl (Pu.add64 (r := ((i + 1 : Nat) : Int)) rfl (by omega) rfl rfl rfl) (O.m rfl (O.nil (X.map (fun w hw => FamK.mk (T := 73) (iT := 2) (l := l2) (ns := ns) rfl (hw.sub (Sub.k (Sub.k (Sub.k (Sub.k (Sub.k (Sub.refl _)))))))) (X.back3 (i + 1, l2) (by (try dsimp only); exact ⟨by omega, by omega, by rw [famJ_no hnx]; exact hl2⟩) (by first | omega | (dsimp only; omega)) (Ent.cons rfl (Ent.nil _)) (Ent.cons (t := 0) rfl (Ent.cons (t := 1) rfl (Ent.cons (t := 3) rfl (Ent.cons (t := 4) rfl (Ent.cons (t := 10) rfl (Ent.nil _)))))) (Sub.k (Sub.refl _)))))))))))))
    ·exact V.exit (X.thenExit (X.thenExit (X.blockHit (X.endBody (X.map (fun w hw => FamK.mk (T := 73) (iT := 2) (l := l2) (ns := ns) rfl (hw.sub (Sub.k (Sub.k (Sub.k (Sub.k (Sub.k (Sub.refl _)))))))) (X.ret0 rfl (fun w hw => St.unsep (St.addPur rfl (hw.sub (Sub.cons 0 rfl (fun w F h => by rw [hk1, most_endF hlm (by omega) hl2 (by omega)]; exact h) (Sub.refl _)))))))))))
   ·refine D.g 8 rfl (D.g 9 rfl (D.g 10 rfl (D.g 11 rfl (D.g 12 rfl (D.g 13 rfl (D.g 14 rfl (D.g 15 rfl (D.g 16 rfl (D.m 17 rfl (D.done hwf rfl (X.next ?_)))))))))))
    exact V.condF rfl (V.exit (X.thenExit (X.thenExit (X.blockHit (X.endBody (X.map (fun w hw => FamK.mk (T := 73) (iT := 2) (l := l2) (ns := ns) rfl (hw.sub (Sub.k (Sub.k (Sub.k (Sub.k (Sub.k (Sub.refl _)))))))) (X.ret0 rfl (fun w hw => St.unsep (St.addPur rfl (hw.sub (Sub.cons 0 rfl (fun w F h => by rw [hk1, most_endF hlm (by omega) hl2 (by omega)]; exact h) (Sub.refl _))))))))))))
theorem l10Go_ok (n : Nat) : L_l10Go n := by
 induction n using Nat.strongRecOn with
 | _ n ih => exact fun D0 sb most ns l chosen from_ low high chosenA chosenc w0 H hchosen lchosen hcS hF hlw hhg hc6 hnl hns hfn hlm hmm => l10Go_step n ih D0 sb most ns l chosen from_ low high chosenA chosenc w0 H hchosen lchosen hcS hF hlw hhg hc6 hnl hns hfn hlm hmm
set_option maxRecDepth 100000 in
set_option maxHeartbeats 1000000 in
theorem l10Large_ok (v : Int) (bs : List B3) (allV : Int) (all : List (Sl × List B3)) (most : Nat) (A : Option Addr) (c : Nat) (allA : Option Addr) (allc : Nat) (w : World) (hx : Rd B3C w A bs) (hall : RdY allV w allA all) (lx : bs.length ≤ 4611686018427387904) (lall : all.length ≤ 1099511627776) (hmem : bs ∈ compM 40 9 0) (hca : conts all = compM 40 9 0) (hm0 : 0 < most) (hmm : most ≤ 1000000000) : Does Tryz.prog 46 [.agg #[.int .i64 v, .slice A bs.length c], .slice allA (tops all).length allc, .int .i64 (most : Int)] w [] (fun r => [.exi fun (sb : Nat) => .sep (.pur (r = .pointer (some ⟨sb, 0, none⟩))) (FamK 73 2 sb most (apartL ms9 (mkF bs)) (runC (fun j => decide (j < most)) 0 (famL bs)))]) := by
 refine Does.enter Tryz.func46 rfl rfl [(0, .agg #[.int .i64 v, .slice A bs.length c]), (1, .slice allA (tops all).length allc), (2, .int .i64 (most : Int))] rfl ?_
 have hcl := conts_len all
 have htl := tops_len all
 have hal : all.length = 840 := by rw [← hcl, hca]; exact nine_count
 have hbg := nine_good hmem
 have hbl : bs.length ≤ 40 := compM_len 40 9 0 _ hmem
 have hxl : mkF bs < 2 ^ 84 := (fam_of (mk_mem hmem)).lt
 have hxh := div_lt42 hxl
 refine V.seq (V.region (O.f rfl (Ef.box rfl rfl rfl) ?_))
 rintro _ _ ⟨b1, rfl, rfl⟩
 refine O.m rfl (O.nil (X.next (V.seq (V.region (O.f rfl (Ef.build N64 ([] : List Nat) rfl Tryz.underlying53 inf2 rfl rfl rfl (by first | decide | (simp; done)) (by kernel_rfl)) ?_)))))
 rintro _ _ ⟨A1, hA1, rfl, rfl⟩
 refine O.f rfl (Ef.build N64 ([] : List Nat) rfl Tryz.underlying53 inf2 rfl rfl rfl (by first | decide | (simp; done)) (by kernel_rfl)) ?_
 rintro _ _ ⟨A2, hA2, rfl, rfl⟩
 refine O.f rfl (Ef.build N64 ([] : List Nat) rfl Tryz.underlying53 inf2 rfl rfl rfl (by first | decide | (simp; done)) (by kernel_rfl)) ?_
 rintro _ _ ⟨A3, hA3, rfl, rfl⟩
 refine O.m rfl (O.q rfl (Pu.buildS (cs := [.slice A1 0 0, .slice A2 0 0, .slice A3 0 0, .int .i64 (↑most : Int), .int .i64 (0 : Int), .slice none 0 0]) rfl rfl Tryz.underlying73 zr73 (by kernel_rfl) rfl (by kernel_rfl)) (O.f rfl (Ef.box rfl rfl rfl) ?_))
 rintro _ _ ⟨b2, rfl, rfl⟩
 refine O.m rfl (O.nil (X.next (V.seq (V.region (O.q rfl (Pu.loadAgg rfl ag26 sz26 rfl rfl (Ld.whole 4 rfl)) (O.f rfl (Ef.callP call87 rfl rfl (fun w hw => l10Bits_ok  v bs _ _ w ((Ld.old hx) w hw) (by first | omega | (simp only [tops_len, conts_len, bl, List.length_append, List.length_cons, List.length_nil] at *; omega)) hbg)) ?_))))))
 rintro _ _ ⟨rfl, rfl⟩
 refine O.m rfl (O.m rfl (O.m rfl (O.m rfl (O.m rfl (O.nil (X.next (V.seq (V.seq (V.map (fun w hw => FamK.mk (T := 73) (iT := 2) (sb := b2) (most := most) (l := []) (ns := []) (f := []) rfl ((St.addNil (T := 2) (C := I64) hw).sub (Sub.keep 1 rfl (Sub.keep 3 rfl (Sub.keep 2 rfl (Sub.keep 1 rfl (Sub.k (Sub.k (Sub.nil _))))))))) (V.region (O.m rfl ?_)))))))))))
 refine O.nil (X.next (V.block (V.loop3 (β := Nat × (List Nat)) (fun x => [(10, .int .i64 (x.1 : Int))]) _ (fun x => [FamN 73 2 b2 most x.2]) _ (fun x => x.1 ≤ all.length ∧ x.2 = apartP (mkF bs) x.1) (fun x => all.length - x.1) (0, []) (by (try dsimp only); exact ⟨by omega, rfl⟩) (Ent.cons rfl (Ent.nil _)) (Ent.cons (t := 1) rfl (Ent.cons (t := 7) rfl (Ent.cons (t := 8) rfl (Ent.cons (t := 9) rfl (Ent.nil _))))) (Sub.k (Sub.k (Sub.nil _))) ?_)))
 rintro ⟨i, ns⟩ ⟨hi, hns⟩
 dsimp only at hi hns ⊢
 have hdl := div_lt42 hxl
 have hll0 := low_len (ns := ns)
 have hll1 := high_len (ns := ns)
 refine V.seq (V.seq (V.region (O.m rfl (O.m rfl (O.q rfl (Pu.len rfl Tryz.underlying28 rfl) (O.q rfl (Pu.lss rfl rfl rfl) (O.nil (X.next (V.condD rfl (fun c1 => ?_) (fun c1 => ?_))))))))))
 ·refine V.skip (X.next (V.seq (V.block (V.seq ?_))))
  have ei : i < all.length := by omega
  have hms := ms_row hca ei
  have hMl : mkF (all[i]'ei).2 < 2 ^ 84 := by rw [← hms]; exact ms9_lt
  have hmq : (all[i]'ei).2 ∈ compM 40 9 0 := by rw [← hca]; exact List.mem_map_of_mem (List.getElem_mem ei)
  have hmg := nine_good hmq
  have hmlen : (all[i]'ei).2.length ≤ 40 := compM_len 40 9 0 _ hmq
  refine V.region (O.m rfl (O.m rfl (O.q rfl (Pu.indexAddr (i) rfl Tryz.underlying28 sz26 rfl rfl (by omega) (by omega) (hall.top.some (by omega))) (O.q rfl (Pu.loadAgg' (v := .agg #[.int .i64 allV, .slice (all[i]'ei).1.A (all[i]'ei).2.length (all[i]'ei).1.c]) rfl rfl ag26 sz26 rfl rfl (Ld.rowY (Ld.old hall.top) hall.len ei rfl)) (O.f rfl (Ef.callP call87 rfl rfl (fun w hw => l10Bits_ok  allV ((all[i]'ei).2) _ _ w ((Ld.old (hall.row i ei)) w hw) (by omega) hmg)) ?_)))))
  rintro _ _ ⟨rfl, rfl⟩
  refine O.m rfl (O.m rfl (O.m rfl (O.m rfl (O.m rfl (O.nil (X.next (V.seq (V.region (O.m rfl (O.m rfl (O.q rfl (Pu.and (m := (mkF ((all[i]'ei).2) % 2 ^ 42)) (n := (mkF bs % 2 ^ 42)) K64.i (by omega) (by omega) rfl rfl rfl) ?_)))))))))))
  refine O.q rfl (Pu.eql rfl rfl rfl) (O.m rfl (O.splitD 42 rfl (fun c2 => ?_) (fun c2 => ?_)))
  ·refine O.gm rfl (O.gm rfl (O.gq rfl (Pu.and (m := (mkF ((all[i]'ei).2) / 2 ^ 42)) (n := (mkF bs / 2 ^ 42)) K64.i (by omega) (by omega) rfl rfl rfl) (O.gq rfl (Pu.eql rfl rfl rfl) (O.m rfl (O.nil (X.next (V.condD rfl (fun c3 => ?_) (fun c3 => ?_))))))))
   ·have hap : ms9.getD i 0 &&& mkF bs = 0 := by rw [hms]; exact (land_words (k := 42)).2 ⟨by omega, by omega⟩
    have hnl : ns.length ≤ i := by rw [hns]; exact apartP_len
    refine V.seq (V.famK (fun lA1 lk1 hA1 hk1 nA1 nk1 fA1 fk1 => V.region (O.m rfl (O.m rfl (O.m rfl (O.q rfl (Pu.fieldAddr 0 rfl Tryz.underlying73 rfl sz53 rfl rfl) (O.q rfl (Pu.load rfl pl53 rfl (Ld.blk 0 rfl rfl)) (O.m rfl (O.f rfl (Ef.build N64 ([(mkF ((all[i]'ei).2) % 2 ^ 42)] : List Nat) rfl Tryz.underlying53 inf2 rfl rfl rfl (by first | decide | (simp; done)) (by kernel_rfl)) ?_)))))))))
    rintro _ _ ⟨A4, hA4, rfl, rfl⟩
    refine O.f rfl (Ef.append (xs := (lowL ns)) (ys := ([(mkF ((all[i]'ei).2) % 2 ^ 42)] : List Nat)) 2 rfl Tryz.underlying53 inf2 rfl rfl rfl rfl rfl rfl hA4 (Ld.own 0 (by exact rfl)) (by simp only [List.length_append, List.length_cons, List.length_nil] at *; omega) (by decide)) ?_
    rintro _ _ ⟨A5, k1, rfl, rfl, hA5⟩
    replace hA5 := hA5 (.inr (by simp))
    refine O.m rfl (O.q rfl (Pu.fieldAddr 0 rfl Tryz.underlying73 rfl sz53 rfl rfl) (O.s rfl rfl (Ef.store1 (cs' := [_, _, _, _, _, _]) 1 rfl sz53 rfl rfl rfl rfl rfl (ltb rfl) rfl) ?_))
    rintro _ _ rfl
    refine O.nil (X.next (V.seq (V.region (O.m rfl (O.m rfl (O.m rfl (O.q rfl (Pu.fieldAddr 1 rfl Tryz.underlying73 rfl sz53 rfl rfl) (O.q rfl (Pu.load rfl pl53 rfl (Ld.blk 1 rfl rfl)) (O.m rfl (O.f rfl (Ef.build N64 ([(mkF ((all[i]'ei).2) / 2 ^ 42)] : List Nat) rfl Tryz.underlying53 inf2 rfl rfl rfl (by first | decide | (simp; done)) (by kernel_rfl)) ?_))))))))))
    rintro _ _ ⟨A6, hA6, rfl, rfl⟩
    refine O.f rfl (Ef.append (xs := (highL ns)) (ys := ([(mkF ((all[i]'ei).2) / 2 ^ 42)] : List Nat)) 4 rfl Tryz.underlying53 inf2 rfl rfl rfl rfl rfl rfl hA6 (Ld.own 0 (by exact rfl)) (by simp only [List.length_append, List.length_cons, List.length_nil] at *; omega) (by decide)) ?_
    rintro _ _ ⟨A7, k2, rfl, rfl, hA7⟩
    replace hA7 := hA7 (.inr (by simp))
    refine O.m rfl (O.q rfl (Pu.fieldAddr 1 rfl Tryz.underlying73 rfl sz53 rfl rfl) (O.s rfl rfl (Ef.store1 (cs' := [_, _, _, _, _, _]) 2 rfl sz53 rfl rfl rfl rfl rfl (ltb rfl) rfl) ?_))
    rintro _ _ rfl
    refine O.nil (X.next (V.region (O.m rfl (O.m rfl (O.m rfl (O.q rfl (Pu.fieldAddr 2 rfl Tryz.underlying73 rfl sz53 rfl rfl) (O.q rfl (Pu.load rfl pl53 rfl (Ld.blk 2 rfl rfl)) (O.m rfl (O.f rfl (Ef.build N64 ([i] : List Nat) rfl Tryz.underlying53 inf2 rfl rfl rfl (by first | decide | (simp; done)) (by kernel_rfl)) ?_)))))))))
    rintro _ _ ⟨A8, hA8, rfl, rfl⟩
    refine O.f rfl (Ef.append (xs := ns) (ys := ([i] : List Nat)) 6 rfl Tryz.underlying53 inf2 rfl rfl rfl rfl rfl rfl hA8 (Ld.own 0 (by exact rfl)) (by simp only [List.length_append, List.length_cons, List.length_nil] at *; omega) (by decide)) ?_
    rintro _ _ ⟨A9, k3, rfl, rfl, hA9⟩
    replace hA9 := hA9 (.inr (by simp))
    refine O.m rfl (O.q rfl (Pu.fieldAddr 2 rfl Tryz.underlying73 rfl sz53 rfl rfl) (O.s rfl rfl (Ef.store1 (cs' := [_, _, _, _, _, _]) 3 rfl sz53 rfl rfl rfl rfl rfl (ltb rfl) rfl) ?_))
    rintro _ _ rfl
    exact O.nil (X.blockNormal (X.next (V.region (O.m rfl (O.q rfl (Pu.add64 (r := ((i + 1 : Nat) : Int)) rfl (by omega) rfl rfl rfl) (O.m rfl (O.nil (X.map (fun w hw => FamK.mk (T := 73) (iT := 2) (l := []) (ns := (ns ++ [i])) rfl (hw.sub (Sub.cons 3 rfl (fun w F h => by rw [low_snoc, high_snoc, hms]; exact h) (Sub.cons 3 rfl (fun w F h => by rw [low_snoc, hms]; exact h) (Sub.cons 3 rfl (fun w F h => by rw [high_snoc, hms]; exact h) (Sub.keep 3 rfl (Sub.keep 3 rfl (Sub.k (Sub.k (Sub.k (Sub.k (Sub.nil _)))))))))))) (X.back3 (i + 1, (ns ++ [i])) (by (try dsimp only); exact ⟨by omega, by rw [apartP_yes hap, hns]⟩) (by first | omega | (dsimp only; omega)) (Ent.cons rfl (Ent.nil _)) (Ent.cons (t := 1) rfl (Ent.cons (t := 7) rfl (Ent.cons (t := 8) rfl (Ent.cons (t := 9) rfl (Ent.nil _))))) (Sub.k (Sub.keep 3 rfl (Sub.nil _))))))))))))
   ·have hap : ¬ ms9.getD i 0 &&& mkF bs = 0 := fun h => by rw [hms] at h; have := (land_words (k := 42)).1 h; omega
    exact V.skip (X.blockNormal (X.next (V.region (O.m rfl (O.q rfl (Pu.add64 (r := ((i + 1 : Nat) : Int)) rfl (by omega) rfl rfl rfl) (O.m rfl (O.nil (X.back3 (i + 1, ns) (by (try dsimp only); exact ⟨by omega, by rw [apartP_no hap]; exact hns⟩) (by first | omega | (dsimp only; omega)) (Ent.cons rfl (Ent.nil _)) (Ent.cons (t := 1) rfl (Ent.cons (t := 7) rfl (Ent.cons (t := 8) rfl (Ent.cons (t := 9) rfl (Ent.nil _))))) (Sub.k (Sub.k (Sub.nil _)))))))))))
  ·have hap : ¬ ms9.getD i 0 &&& mkF bs = 0 := fun h => by rw [hms] at h; have := (land_words (k := 42)).1 h; omega
   refine O.g rfl (O.g rfl (O.g rfl (O.g rfl (O.m rfl (O.nil (X.next (V.condF rfl (V.skip (X.blockNormal (X.next (V.region ?_)))))))))))
   exact O.m rfl (O.q rfl (Pu.add64 (r := ((i + 1 : Nat) : Int)) rfl (by omega) rfl rfl rfl) (O.m rfl (O.nil (X.back3 (i + 1, ns) (by (try dsimp only); exact ⟨by omega, by rw [apartP_no hap]; exact hns⟩) (by first | omega | (dsimp only; omega)) (Ent.cons rfl (Ent.nil _)) (Ent.cons (t := 1) rfl (Ent.cons (t := 7) rfl (Ent.cons (t := 8) rfl (Ent.cons (t := 9) rfl (Ent.nil _))))) (Sub.k (Sub.k (Sub.nil _)))))))
 ·refine V.exit (X.thenExit (X.thenExit (X.blockHit (X.next (V.seq ?_)))))
  have hns2 : ns = apartL ms9 (mkF bs) := by rw [hns, show i = 840 by omega, apartP_all]
  have hnsl : ns.length ≤ 840 := by have := apartP_len (X := mkF bs) (i := i); rw [← hns] at this; omega
  have hnst : ∀ j (h : j < ns.length), ns[j] < ms9.length := by subst hns2; exact fun j h => apartL_lt h
  refine V.region (O.m rfl (O.f rfl (Ef.build I64 ([] : List Int) rfl Tryz.underlying53 inf2 rfl rfl rfl (by first | decide | (simp; done)) (by kernel_rfl)) ?_))
  rintro _ _ ⟨A10, hA10, rfl, rfl⟩
  refine O.m rfl (O.m rfl (O.f rfl (Ef.call call88 rfl rfl (Does.pre (fun w hw => hw.sub (Sub.keep 1 rfl (Sub.k (Sub.k (Sub.nil _))))) (l10Go_ok 6 (mkF bs) b2 most ns ([]) ([] : List Int) 0 (mkF bs % 2 ^ 42) (mkF bs / 2 ^ 42) _ _ w _ (Ld.own 0 (by exact rfl)) (by first | omega | (simp only [tops_len, conts_len, bl, List.length_append, List.length_cons, List.length_nil] at *; omega)) hA10 (fam_of (mk_mem hmem)) rfl rfl rfl (by omega) hnst (by omega) (by simpa using hm0) hmm))) ?_))
  rintro _ _ rfl
  refine O.sep (O.pur ?_)
  rintro rfl
  exact O.nil (X.next (V.seq (V.region (O.m rfl (O.m rfl (O.nil (X.next (V.ret (X.ret1 rfl rfl (fun w hw => St.mkExi b2 (St.unsep (St.addPur rfl (hw.sub (Sub.cons 0 rfl (fun w F h => by rw [hns2] at h; rw [← fam_spec hmem]; exact h) (Sub.nil _)))))))))))))))
set_option maxRecDepth 100000 in
set_option maxHeartbeats 1000000 in
theorem specCountFamilies_ok (v : Int) (bs : List B3) (A : Option Addr) (c : Nat) (w : World) (hx : Rd B3C w A bs) (lx : bs.length ≤ 4611686018427387904) : Does Tryz.prog 22 [.agg #[.int .i64 v, .slice A bs.length c]] w [] (fun r => [.pur (r = .tuple #[.int .i64 (if lfC v bs = 0 then ((famL bs).length : Int) else 0), .int .i64 (lfC v bs)])]) := by
 refine Does.enter Tryz.func22 rfl rfl [(0, .agg #[.int .i64 v, .slice A bs.length c])] rfl (V.seq (V.region (O.f rfl (Ef.box rfl rfl rfl) ?_)))
 rintro _ _ ⟨b1, rfl, rfl⟩
 refine O.m rfl (O.m rfl (O.nil (X.next (V.seq (V.seq (V.region (O.q rfl (Pu.loadAgg rfl ag26 sz26 rfl rfl (Ld.whole 0 rfl)) (O.f rfl (Ef.callP call44 rfl rfl (fun w hw => l10Nine_ok  v bs _ _ w ((Ld.old hx) w hw) (by first | omega | (simp only [tops_len, conts_len, bl, List.length_append, List.length_cons, List.length_nil] at *; omega)) )) ?_))))))))
 rintro _ _ ⟨rfl, rfl⟩
 refine O.m rfl (O.nil (X.next (V.seq (V.region (O.m rfl (O.q rfl (Pu.neq rfl rfl rfl) (O.nil (X.next (V.condNot rfl (fun c1 => ?_) (fun c1 => ?_))))))))))
 ·exact V.seq (V.region (O.m rfl (O.m rfl (O.m rfl (O.nil (X.next (V.ret (X.thenRet (X.ret2 rfl rfl rfl (fun w hw => St.addPur (by rw [if_neg c1]) (hw.sub (Sub.nil _))))))))))))
 ·have hz := lf_zero c1
  have hmem := hz.2.2
  have hfl := few_len (v := 9) (.inr (.inr rfl))
  have hflt := few_lt (v := 9) (.inr (.inr rfl))
  have hll := famL_len hmem
  refine V.skip (X.next (V.seq (V.ent (Ent.cons (t := 1) rfl (Ent.nil _)) (V.draw mo (by kernel_rfl) (fun hwf => D.q 0 rfl (Pu.loadAgg rfl ag26 sz26 rfl rfl (Ld.whole 0 rfl)) (D.f hwf 1 rfl (Ef.call1 call45 rfl rfl (fun w hw => l10AllI_ok 40 (9 : Int) w   (by decide) (by decide) hfl.2.1 hflt (by decide))) ?_))))))
  rintro _ _ rfl hs
  refine ⟨fun w hw => hs w hw.tail, (D.exi (fun r1A => D.exi (fun r1c => D.exi (fun r1 => D.sep (D.pur1 ?_)))))⟩
  rintro ⟨rfl, hr1_1⟩
  refine D.sep (D.pur (RowsA.len 1 rfl) (fun hn_r1 => ?_))
  have htl_r1 := tops_len r1
  have hclr1 := conts_len r1
  have hrn : r1.length = 840 := by rw [← hclr1, hr1_1]; exact nine_count
  refine D.effT hwf (e := 2) rfl rfl rfl rfl (Ef.call1 call46 rfl rfl (fun w hw => l10Large_ok  v bs (9 : Int) r1 1000000000 _ _ _ _ w ((Ld.old hx) w hw) ((Ld.yy 0 1 (by exact rfl) (by exact rfl)) w hw) (by first | omega | (simp only [tops_len, conts_len, bl, List.length_append, List.length_cons, List.length_nil] at *; omega)) (by first | omega | (simp only [tops_len, conts_len, bl, List.length_append, List.length_cons, List.length_nil] at *; omega)) hmem hr1_1 (by decide) (by decide))) rfl rfl rfl 8 rfl ?_
  rintro _ _ rfl
  refine D.exi (fun sb1 => D.sep (D.pur1 ?_))
  rintro rfl
  exact D.famK rfl (fun lA1 lk1 hA1 hk1 nA1 nk1 fA1 fk1 => D.m 3 rfl (D.q 4 rfl (Pu.fieldAddr 4 rfl Tryz.underlying73 rfl sz2 rfl rfl) (D.q 5 rfl (Pu.load rfl pl2 rfl (Ld.blk 0 rfl rfl)) (D.m 6 rfl (D.m 7 rfl (D.done hwf rfl (X.next (V.ret (X.ret2 rfl rfl rfl (fun w hw => St.addPur (by rw [if_pos c1, most_run (by omega), c1]) (hw.sub (Sub.nil _))))))))))))
set_option maxRecDepth 100000 in
set_option maxHeartbeats 1000000 in
theorem minFunc_ok (s : List (Sl × List Int)) (gf : Nat) (sA : Option Addr) (sc : Nat) (w : World) (hs : RdL I64 w sA s) (ls : s.length ≤ 1099511627776) (hok : CallOk Tryz.prog gf) (h0 : 0 < s.length) (hmin : ∀ i (hi : i < s.length), 0 < i → ¬ cmpL (s[i]).2 (s[0]).2 < 0) (hf : ∀ (i j : Nat) (hi : i < s.length) (hj : j < s.length) w', Bel w.heap.size w w' → Does Tryz.prog gf [.slice (s[i]).1.A (s[i]).2.length (s[i]).1.c, .slice (s[j]).1.A (s[j]).2.length (s[j]).1.c] w' [] (fun v => [.pur (v = .int .i64 (cmpL (s[i]).2 (s[j]).2))])) : Does Tryz.prog 42 [.slice sA (tops s).length sc, .func (.func gf) #[] #[]] w [] (fun r => [.pur (r = .slice (s[0]).1.A (s[0]).2.length (s[0]).1.c)]) := by
 refine Does.enter Tryz.func42 rfl rfl [(0, .slice sA (tops s).length sc), (1, .func (.func gf) #[] #[])] rfl ?_
 have htl := tops_len s
 refine V.seq (V.region (O.m rfl (O.nil (X.next (V.seq (V.seq (V.region (O.m rfl (O.q rfl (Pu.len rfl Tryz.underlying60 rfl) (O.q rfl (Pu.lss rfl rfl rfl) (O.nil ?_)))))))))))
 refine X.next (V.condD rfl (fun c1 => ?_) (fun c1 => ?_))
 ·exact absurd c1 (by omega)
 ·refine V.skip (X.next (V.seq (V.region (O.m rfl (O.q rfl (Pu.indexAddr (0) rfl Tryz.underlying60 sz53 rfl rfl (by omega) (by omega) (hs.top.some (by omega))) ?_)))))
  have e1 : 0 < s.length := by have := tops_len s; omega
  refine O.q rfl (Pu.load rfl pl53 rfl (Ld.row (Ld.old hs.top) hs.len e1 rfl)) (O.m rfl (O.nil (X.next (V.seq (V.seq (V.region (O.m rfl (O.nil (X.next (V.block (V.loop2 (β := Nat) (fun i => [(6, .int .i64 (i : Int))]) _ (fun i => []) (fun i => 1 ≤ i ∧ i ≤ s.length) (fun i => s.length - i) 1 (by omega) (Ent.cons rfl (Ent.nil _)) (Ent.cons (t := 0) rfl (Ent.cons (t := 1) rfl (Ent.cons (t := 5) rfl (Ent.nil _)))) (Sub.nil _) ?_)))))))))))
  rintro i ⟨hi1, hi⟩
  refine V.seq (V.seq (V.region (O.m rfl (O.m rfl (O.q rfl (Pu.len rfl Tryz.underlying60 rfl) (O.q rfl (Pu.lss rfl rfl rfl) (O.nil (X.next (V.condD rfl (fun c2 => ?_) (fun c2 => ?_))))))))))
  ·refine V.skip (X.next (V.seq (V.block (V.seq (V.region (O.m rfl (O.m rfl (O.m rfl (O.q rfl (Pu.indexAddr (i) rfl Tryz.underlying60 sz53 rfl rfl (by omega) (by omega) (hs.top.some (by omega))) ?_)))))))))
   have e2 : i < s.length := by have := tops_len s; omega
   refine O.q rfl (Pu.load rfl pl53 rfl (Ld.row (Ld.old hs.top) hs.len e2 rfl)) (O.m rfl (O.f rfl (Ef.callPV hok rfl rfl rfl (fun w' hw => hf i 0 e2 e1 w' hw.below)) ?_))
   rintro _ _ ⟨rfl, rfl⟩
   refine O.q rfl (Pu.lss rfl rfl rfl) (O.nil (X.next (V.condD rfl (fun c3 => ?_) (fun c3 => ?_))))
   ·exact absurd c3 (hmin i (by omega) (by omega))
   ·exact V.skip (X.blockNormal (X.next (V.region (O.m rfl (O.q rfl (Pu.add64 (r := ((i + 1 : Nat) : Int)) rfl (by omega) rfl rfl rfl) (O.m rfl (O.nil (X.back2 (i + 1) (by omega) (by first | omega | (dsimp only; omega)) (Ent.cons rfl (Ent.nil _)) (Ent.cons (t := 0) rfl (Ent.cons (t := 1) rfl (Ent.cons (t := 5) rfl (Ent.nil _)))) (Sub.nil _)))))))))
  ·refine V.exit (X.thenExit (X.thenExit (X.blockHit (X.next (V.seq (V.region (O.m rfl (O.m rfl (O.nil (X.next (V.ret ?_)))))))))))
   exact X.ret1 rfl rfl (fun w hw => St.retP (rfl) hw)
end Go.Proofs.YthlmfgmmbfbhhaaGreat
